/- Merged texts (4 of 17) of the proof that ends in Coy: Ty X P So Sx. -/
import Derived.Test.YtkocdlgoncmdbaaGreatDoorAbQco3
import Derived.Test.YtkocdlgoncmdbaaGreatDoorProg
import Derived.KernelRfl
import Derived.Shelf.Sort.Plain
open Go.Proofs.Tryz
set_option linter.unusedSectionVars false
set_option linter.unusedSimpArgs false
set_option linter.unusedVariables false
namespace Go.Ab
open Go.Proofs
theorem cx.of {P:Program} {t:TypeId} {s b:Nat} {z:List Value} (h:(P.underlying t).isSome=true) (h2:(P.info? t).map (fun i=>(i.size,i.bytes,i.zero.map Value.cells))=some (s,b,some z.toArray)):cx P t ⟨(P.underlying t).getD .invalid,s,b,z⟩:=by
 refine⟨?_,?_⟩
 ·cases hu:P.underlying t with
  | none=>simp[hu] at h
  | some d=>rfl
 cases hi:P.info? t with
 | none=>simp[hi] at h2
 | some info=>
  simp only[hi,Option.map_some,Option.some.injEq,Prod.mk.injEq,Option.map_eq_some_iff] at h2;obtain⟨h3,h4,zv,h5,h6⟩:=h2;exact⟨info,zv,rfl,h3,h4,h5,h6⟩
noncomputable def nN:TI:=⟨(Tryz.prog.underlying 3).getD .invalid,1,8,[.int .i64 0]⟩
noncomputable def ty4:TI:=⟨(Tryz.prog.underlying 4).getD .invalid,1,1,[.bool false]⟩
noncomputable def EV:TI:=⟨(Tryz.prog.underlying 5).getD .invalid,1,1,[.int .u8 0]⟩
noncomputable def zb:TI:=⟨(Tryz.prog.underlying 9).getD .invalid,1,16,[.string ⟨#[]⟩]⟩
noncomputable def xu:TI:=⟨(Tryz.prog.underlying 22).getD .invalid,1,24,[.slice none 0 0]⟩
noncomputable def wN:TI:=⟨(Tryz.prog.underlying 23).getD .invalid,1,24,[.slice none 0 0]⟩
noncomputable def mc:TI:=⟨(Tryz.prog.underlying 24).getD .invalid,1,24,[.slice none 0 0]⟩
noncomputable def tp:TI:=⟨(Tryz.prog.underlying 25).getD .invalid,1,24,[.slice none 0 0]⟩
noncomputable def wW:TI:=⟨(Tryz.prog.underlying 26).getD .invalid,1,24,[.slice none 0 0]⟩
noncomputable def xX:TI:=⟨(Tryz.prog.underlying 28).getD .invalid,6,112,[.int .i64 0,.slice none 0 0,.slice none 0 0,.int .i64 0,.slice none 0 0,.slice none 0 0]⟩
noncomputable def yn:TI:=⟨(Tryz.prog.underlying 32).getD .invalid,1,24,[.slice none 0 0]⟩
noncomputable def wu:TI:=⟨(Tryz.prog.underlying 34).getD .invalid,1,24,[.slice none 0 0]⟩
noncomputable def wR:TI:=⟨(Tryz.prog.underlying 35).getD .invalid,1,24,[.slice none 0 0]⟩
noncomputable def wH:TI:=⟨(Tryz.prog.underlying 37).getD .invalid,6,112,[.int .i64 0,.slice none 0 0,.slice none 0 0,.int .i64 0,.slice none 0 0,.slice none 0 0]⟩
noncomputable def vR:TI:=⟨(Tryz.prog.underlying 62).getD .invalid,3,32,[.string ⟨#[]⟩,.int .i64 0,.int .i64 0]⟩
noncomputable def wy:TI:=⟨(Tryz.prog.underlying 68).getD .invalid,3,32,[.string ⟨#[]⟩,.int .i64 0,.int .i64 0]⟩
noncomputable def wP:TI:=⟨(Tryz.prog.underlying 96).getD .invalid,3,40,[.int .i64 0,.int .i64 0,.slice none 0 0]⟩
noncomputable def vB:TI:=⟨(Tryz.prog.underlying 99).getD .invalid,2,24,[.string ⟨#[]⟩,.int .i64 0]⟩
noncomputable def oV:TI:=⟨(Tryz.prog.underlying 107).getD .invalid,2,24,[.string ⟨#[]⟩,.int .i64 0]⟩
noncomputable def oA:TI:=⟨(Tryz.prog.underlying 108).getD .invalid,3,40,[.int .i64 0,.int .i64 0,.slice none 0 0]⟩
noncomputable def oU:TI:=⟨(Tryz.prog.underlying 124).getD .invalid,9,184,[.int .i64 0,.slice none 0 0,.slice none 0 0,.int .i64 0,.slice none 0 0,.slice none 0 0,.slice none 0 0,.slice none 0 0,.slice none 0 0]⟩
noncomputable def rD:TI:=⟨(Tryz.prog.underlying 130).getD .invalid,1,24,[.slice none 0 0]⟩
noncomputable def oZ:TI:=⟨(Tryz.prog.underlying 155).getD .invalid,10,208,[.slice none 0 0,.int .i64 0,.slice none 0 0,.slice none 0 0,.int .i64 0,.slice none 0 0,.slice none 0 0,.slice none 0 0,.slice none 0 0,.slice none 0 0]⟩
noncomputable def pY:TI:=⟨(Tryz.prog.underlying 156).getD .invalid,1,24,[.slice none 0 0]⟩
noncomputable def qe:TI:=⟨(Tryz.prog.underlying 185).getD .invalid,1,8,[.int .u64 0]⟩
noncomputable def tyL:List (Nat × TI):=[(3,nN),(4,ty4),(5,EV),(9,zb),(22,xu),(23,wN),(24,mc),(25,tp),(26,wW),(28,xX),(32,yn),(34,wu),(35,wR),(37,wH),(62,vR),(68,wy),(96,wP),(99,vB),(107,oV),(108,oA),(124,oU),(130,rD),(155,oZ),(156,pY),(185,qe)]
noncomputable def Ty:Types:=fun t=>(tyL.find? (fun p=>p.1 == t)).map (·.2)
theorem ok3:cx prog 3 nN:=cx.of (by kernel_rfl) (by kernel_rfl)
theorem Ty_3:Ty 3=some nN:=by kernel_rfl
theorem Dz:nN.size=1:=rfl
theorem A4:nN.bytes=8:=rfl
theorem Cg:nN.zero=[.int .i64 0]:=rfl
theorem DV:nN.isAgg=false:=by kernel_rfl
theorem kd_3:kd Ty 3 = .int .i64:=by kernel_rfl
theorem ok4:cx prog 4 ty4:=cx.of (by kernel_rfl) (by kernel_rfl)
theorem Ty_4:Ty 4=some ty4:=by kernel_rfl
theorem DH:ty4.size=1:=rfl
theorem AK:ty4.bytes=1:=rfl
theorem Dt:ty4.zero=[.bool false]:=rfl
theorem Ez:ty4.isAgg=false:=by kernel_rfl
theorem kd_4:kd Ty 4 = .bool:=by kernel_rfl
theorem ok5:cx prog 5 EV:=cx.of (by kernel_rfl) (by kernel_rfl)
theorem Ty_5:Ty 5=some EV:=by kernel_rfl
theorem Di:EV.size=1:=rfl
theorem AM:EV.bytes=1:=rfl
theorem Dw:EV.zero=[.int .u8 0]:=rfl
theorem DU:EV.isAgg=false:=by kernel_rfl
theorem kd_5:kd Ty 5 = .int .u8:=by kernel_rfl
theorem ok9:cx prog 9 zb:=cx.of (by kernel_rfl) (by kernel_rfl)
theorem Ty_9:Ty 9=some zb:=by kernel_rfl
theorem CH:zb.size=1:=rfl
theorem AW:zb.bytes=16:=rfl
theorem B6:zb.zero=[.string ⟨#[]⟩]:=rfl
theorem D8:zb.isAgg=false:=by kernel_rfl
theorem kd_9:kd Ty 9 = .string:=by kernel_rfl
theorem ok22:cx prog 22 xu:=cx.of (by kernel_rfl) (by kernel_rfl)
theorem Ty_22:Ty 22=some xu:=by kernel_rfl
theorem A6:xu.size=1:=rfl
theorem yg:xu.bytes=24:=rfl
theorem AP:xu.zero=[.slice none 0 0]:=rfl
theorem Ce:xu.isAgg=false:=by kernel_rfl
theorem zu:kd Ty 22 = .slice vR:=by kernel_rfl
theorem ok23:cx prog 23 wN:=cx.of (by kernel_rfl) (by kernel_rfl)
theorem Ty_23:Ty 23=some wN:=by kernel_rfl
theorem Ap:wN.size=1:=rfl
theorem yG:wN.bytes=24:=rfl
theorem zT:wN.zero=[.slice none 0 0]:=rfl
theorem CK:wN.isAgg=false:=by kernel_rfl
theorem ze:kd Ty 23 = .slice wP:=by kernel_rfl
theorem ok24:cx prog 24 mc:=cx.of (by kernel_rfl) (by kernel_rfl)
theorem Ty_24:Ty 24=some mc:=by kernel_rfl
theorem AF:mc.size=1:=rfl
theorem xG:mc.bytes=24:=rfl
theorem BB:mc.zero=[.slice none 0 0]:=rfl
theorem Dq:mc.isAgg=false:=by kernel_rfl
theorem aP:kd Ty 24 = .slice nN:=by kernel_rfl
theorem ok25:cx prog 25 tp:=cx.of (by kernel_rfl) (by kernel_rfl)
theorem Ty_25:Ty 25=some tp:=by kernel_rfl
theorem Ah:tp.size=1:=rfl
theorem yu:tp.bytes=24:=rfl
theorem zU:tp.zero=[.slice none 0 0]:=rfl
theorem Cu:tp.isAgg=false:=by kernel_rfl
theorem ez:kd Ty 25 = .slice zb:=by kernel_rfl
theorem ok26:cx prog 26 wW:=cx.of (by kernel_rfl) (by kernel_rfl)
theorem Ty_26:Ty 26=some wW:=by kernel_rfl
theorem Bp:wW.size=1:=rfl
theorem yb:wW.bytes=24:=rfl
theorem Ag:wW.zero=[.slice none 0 0]:=rfl
theorem Cc:wW.isAgg=false:=by kernel_rfl
theorem zp:kd Ty 26 = .slice vB:=by kernel_rfl
theorem ok28:cx prog 28 xX:=cx.of (by kernel_rfl) (by kernel_rfl)
theorem Ty_28:Ty 28=some xX:=by kernel_rfl
theorem Bi:xX.size=6:=rfl
theorem ye:xX.bytes=112:=rfl
theorem AV:xX.zero=[.int .i64 0,.slice none 0 0,.slice none 0 0,.int .i64 0,.slice none 0 0,.slice none 0 0]:=rfl
theorem DM:xX.isAgg=true:=by kernel_rfl
theorem kd_28:kd Ty 28 = .struct [(0,nN),(1,wN),(2,mc),(3,nN),(4,tp),(5,wW)]:=by kernel_rfl
theorem ok32:cx prog 32 yn:=cx.of (by kernel_rfl) (by kernel_rfl)
theorem Ty_32:Ty 32=some yn:=by kernel_rfl
theorem z8:yn.size=1:=rfl
theorem yI:yn.bytes=24:=rfl
theorem Bb:yn.zero=[.slice none 0 0]:=rfl
theorem CX:yn.isAgg=false:=by kernel_rfl
theorem sV:kd Ty 32 = .slice wy:=by kernel_rfl
theorem ok34:cx prog 34 wu:=cx.of (by kernel_rfl) (by kernel_rfl)
theorem Ty_34:Ty 34=some wu:=by kernel_rfl
theorem Bf:wu.size=1:=rfl
theorem xy:wu.bytes=24:=rfl
theorem zZ:wu.zero=[.slice none 0 0]:=rfl
theorem CP:wu.isAgg=false:=by kernel_rfl
theorem cG:kd Ty 34 = .slice oA:=by kernel_rfl
theorem ok35:cx prog 35 wR:=cx.of (by kernel_rfl) (by kernel_rfl)
theorem Ty_35:Ty 35=some wR:=by kernel_rfl
theorem BE:wR.size=1:=rfl
theorem yU:wR.bytes=24:=rfl
theorem AA:wR.zero=[.slice none 0 0]:=rfl
theorem B8:wR.isAgg=false:=by kernel_rfl
theorem fh:kd Ty 35 = .slice oV:=by kernel_rfl
theorem ok37:cx prog 37 wH:=cx.of (by kernel_rfl) (by kernel_rfl)
theorem o7:Ty 37=some wH:=by kernel_rfl
theorem zM:wH.size=6:=rfl
theorem yx:wH.bytes=112:=rfl
theorem BD:wH.zero=[.int .i64 0,.slice none 0 0,.slice none 0 0,.int .i64 0,.slice none 0 0,.slice none 0 0]:=rfl
theorem Cb:wH.isAgg=true:=by kernel_rfl
theorem kd_37:kd Ty 37 = .struct [(0,nN),(1,wu),(2,mc),(3,nN),(4,tp),(5,wR)]:=by kernel_rfl
theorem ok62:cx prog 62 vR:=cx.of (by kernel_rfl) (by kernel_rfl)
theorem Ty_62:Ty 62=some vR:=by kernel_rfl
theorem zJ:vR.size=3:=rfl
theorem yN:vR.bytes=32:=rfl
theorem As:vR.zero=[.string ⟨#[]⟩,.int .i64 0,.int .i64 0]:=rfl
theorem CR:vR.isAgg=true:=by kernel_rfl
theorem kd_62:kd Ty 62 = .struct [(0,zb),(1,nN),(2,nN)]:=by kernel_rfl
theorem ok68:cx prog 68 wy:=cx.of (by kernel_rfl) (by kernel_rfl)
theorem EW:Ty 68=some wy:=by kernel_rfl
theorem Ac:wy.size=3:=rfl
theorem w9:wy.bytes=32:=rfl
theorem By:wy.zero=[.string ⟨#[]⟩,.int .i64 0,.int .i64 0]:=rfl
theorem DK:wy.isAgg=true:=by kernel_rfl
theorem kd_68:kd Ty 68 = .struct [(0,zb),(1,nN),(2,nN)]:=by kernel_rfl
theorem ok96:cx prog 96 wP:=cx.of (by kernel_rfl) (by kernel_rfl)
theorem Ty_96:Ty 96=some wP:=by kernel_rfl
theorem Bz:wP.size=3:=rfl
theorem xM:wP.bytes=40:=rfl
theorem Ae:wP.zero=[.int .i64 0,.int .i64 0,.slice none 0 0]:=rfl
theorem CJ:wP.isAgg=true:=by kernel_rfl
theorem kd_96:kd Ty 96 = .struct [(0,nN),(1,nN),(2,mc)]:=by kernel_rfl
theorem ok99:cx prog 99 vB:=cx.of (by kernel_rfl) (by kernel_rfl)
theorem Ty_99:Ty 99=some vB:=by kernel_rfl
theorem zP:vB.size=2:=rfl
theorem yO:vB.bytes=24:=rfl
theorem zV:vB.zero=[.string ⟨#[]⟩,.int .i64 0]:=rfl
theorem Dm:vB.isAgg=true:=by kernel_rfl
theorem kd_99:kd Ty 99 = .struct [(0,zb),(1,nN)]:=by kernel_rfl
theorem ok107:cx prog 107 oV:=cx.of (by kernel_rfl) (by kernel_rfl)
theorem Cr:Ty 107=some oV:=by kernel_rfl
theorem yp:oV.size=2:=rfl
theorem vj:oV.bytes=24:=rfl
theorem yz:oV.zero=[.string ⟨#[]⟩,.int .i64 0]:=rfl
theorem Bj:oV.isAgg=true:=by kernel_rfl
theorem kd_107:kd Ty 107 = .struct [(0,zb),(1,nN)]:=by kernel_rfl
theorem ok108:cx prog 108 oA:=cx.of (by kernel_rfl) (by kernel_rfl)
theorem ud:Ty 108=some oA:=by kernel_rfl
theorem ym:oA.size=3:=rfl
theorem uU:oA.bytes=40:=rfl
theorem yR:oA.zero=[.int .i64 0,.int .i64 0,.slice none 0 0]:=rfl
theorem Al:oA.isAgg=true:=by kernel_rfl
theorem kd_108:kd Ty 108 = .struct [(0,nN),(1,nN),(2,mc)]:=by kernel_rfl
theorem ok124:cx prog 124 oU:=cx.of (by kernel_rfl) (by kernel_rfl)
theorem Ty_124:Ty 124=some oU:=by kernel_rfl
theorem xw:oU.size=9:=rfl
theorem vu:oU.bytes=184:=rfl
theorem xf:oU.zero=[.int .i64 0,.slice none 0 0,.slice none 0 0,.int .i64 0,.slice none 0 0,.slice none 0 0,.slice none 0 0,.slice none 0 0,.slice none 0 0]:=rfl
theorem Af:oU.isAgg=true:=by kernel_rfl
theorem kd_124:kd Ty 124 = .struct [(0,wH),(6,mc),(7,mc),(8,mc)]:=by kernel_rfl
theorem ok130:cx prog 130 rD:=cx.of (by kernel_rfl) (by kernel_rfl)
theorem Ty_130:Ty 130=some rD:=by kernel_rfl
theorem yf:rD.size=1:=rfl
theorem wh:rD.bytes=24:=rfl
theorem xR:rD.zero=[.slice none 0 0]:=rfl
theorem zR:rD.isAgg=false:=by kernel_rfl
theorem DD:kd Ty 130 = .slice EV:=by kernel_rfl
theorem ok155:cx prog 155 oZ:=cx.of (by kernel_rfl) (by kernel_rfl)
theorem Ty_155:Ty 155=some oZ:=by kernel_rfl
theorem yy:oZ.size=10:=rfl
theorem wz:oZ.bytes=208:=rfl
theorem xz:oZ.zero=[.slice none 0 0,.int .i64 0,.slice none 0 0,.slice none 0 0,.int .i64 0,.slice none 0 0,.slice none 0 0,.slice none 0 0,.slice none 0 0,.slice none 0 0]:=rfl
theorem AY:oZ.isAgg=true:=by kernel_rfl
theorem kd_155:kd Ty 155 = .struct [(0,mc),(1,oU)]:=by kernel_rfl
theorem ok156:cx prog 156 pY:=cx.of (by kernel_rfl) (by kernel_rfl)
theorem Ty_156:Ty 156=some pY:=by kernel_rfl
theorem xb:pY.size=1:=rfl
theorem u9:pY.bytes=24:=rfl
theorem xt:pY.zero=[.slice none 0 0]:=rfl
theorem Aa:pY.isAgg=false:=by kernel_rfl
theorem DL:kd Ty 156 = .slice oZ:=by kernel_rfl
theorem ok185:cx prog 185 qe:=cx.of (by kernel_rfl) (by kernel_rfl)
theorem Ty_185:Ty 185=some qe:=by kernel_rfl
theorem xI:qe.size=1:=rfl
theorem wJ:qe.bytes=8:=rfl
theorem xW:qe.zero=[.int .u64 0]:=rfl
theorem Bw:qe.isAgg=false:=by kernel_rfl
theorem kd_185:kd Ty 185 = .int .u64:=by kernel_rfl
theorem aw:aV prog Ty:=by
 have h:∀ p ∈ tyL,cx prog p.1 p.2:=by
  refine List.forall_mem_cons.2 ⟨ok3,?_⟩;refine List.forall_mem_cons.2 ⟨ok4,?_⟩;refine List.forall_mem_cons.2 ⟨ok5,?_⟩;refine List.forall_mem_cons.2 ⟨ok9,?_⟩;refine List.forall_mem_cons.2 ⟨ok22,?_⟩;refine List.forall_mem_cons.2 ⟨ok23,?_⟩;refine List.forall_mem_cons.2 ⟨ok24,?_⟩;refine List.forall_mem_cons.2 ⟨ok25,?_⟩;refine List.forall_mem_cons.2 ⟨ok26,?_⟩;refine List.forall_mem_cons.2 ⟨ok28,?_⟩;refine List.forall_mem_cons.2 ⟨ok32,?_⟩;refine List.forall_mem_cons.2 ⟨ok34,?_⟩;refine List.forall_mem_cons.2 ⟨ok35,?_⟩;refine List.forall_mem_cons.2 ⟨ok37,?_⟩;refine List.forall_mem_cons.2 ⟨ok62,?_⟩;refine List.forall_mem_cons.2 ⟨ok68,?_⟩;refine List.forall_mem_cons.2 ⟨ok96,?_⟩;refine List.forall_mem_cons.2 ⟨ok99,?_⟩;refine List.forall_mem_cons.2 ⟨ok107,?_⟩;refine List.forall_mem_cons.2 ⟨ok108,?_⟩;refine List.forall_mem_cons.2 ⟨ok124,?_⟩;refine List.forall_mem_cons.2 ⟨ok130,?_⟩;refine List.forall_mem_cons.2 ⟨ok155,?_⟩;refine List.forall_mem_cons.2 ⟨ok156,?_⟩;refine List.forall_mem_cons.2 ⟨ok185,?_⟩;simp
 intro t i hi;unfold Ty at hi;cases hf:tyL.find? (fun p=>p.1 == t) with
 | none=>simp[hf] at hi
 | some p=>
  simp only[hf,Option.map_some,Option.some.injEq] at hi;have h1:=List.find?_some hf;have h2:=h p (List.mem_of_find?_eq_some hf);simp only[beq_iff_eq] at h1;rw[<- h1,<- hi];exact h2
attribute [simp] Dz DH Di CH A6 Ap AF Ah Bp Bi z8 Bf BE zM zJ Ac Bz zP yp ym xw yf yy xb xI DV Ez DU D8 Ce CK Dq Cu Cc DM CX CP B8 Cb CR DK CJ Dm Bj Al Af zR AY Aa Bw Cg Dt Dw B6 AP zT BB zU Ag AV Bb zZ AA BD As By Ae zV yz yR xf xR xz xt xW Ty_3 Ty_4 Ty_5 Ty_9 Ty_22 Ty_23 Ty_24 Ty_25 Ty_26 Ty_28 Ty_32 Ty_34 Ty_35 o7 Ty_62 EW Ty_96 Ty_99 Cr ud Ty_124 Ty_130 Ty_155 Ty_156 Ty_185 kd_3 kd_4 kd_5 kd_9 zu ze aP ez zp kd_28 sV cG fh kd_37 kd_62 kd_68 kd_96 kd_99 kd_107 kd_108 kd_124 DD kd_155 DL kd_185 A4 AK AM AW yg yG xG yu yb ye yI xy yU yx yN w9 xM yO vj uU vu wh wz u9 wJ
end Go.Ab
namespace Go.Ab
open Go.Proofs
section
variable {f:FuncId} {N:Nat} {k:List Item} {O:Env} {H:av} {n:Nat} {Q:I->av->Nat->Prop} {id:Nat} {ops:List Oper} {y:Code}
theorem zE (h:∀ k':List Item,(∀ O H n,J prog f N (.code y::k) O H n Q->J prog f N k' O H n Q)->cq prog f N k' Q Ty ops.toArray ops O H n) (hN:ops.all (fun o=>dL N o.dst)=true:=by decide):J prog f N (.code (.seq (.region id ops.toArray false) y)::k) O H n Q:=J.seqE aw hN h
theorem zF (h:∀ k':List Item,(∀ O H n,J prog f N k O H n Q->J prog f N k' O H n Q)->cq prog f N k' Q Ty ops.toArray ops O H n) (hN:ops.all (fun o=>dL N o.dst)=true:=by decide):J prog f N (.code (.region id ops.toArray false)::k) O H n Q:=J.evalE aw hN h
end
def within (n lo hi:Int):Bool:=decide (lo<=n) && decide (n<=hi)
theorem fa (n lo hi:Int):aF prog 90 [int n,int lo,int hi] (fun r=>r=bool (within n lo hi)):=by
 refine aF.of func90 rfl ntmps90 (by simp) fun Q hQ=>?_
 refine zE fun _ V=>?_
 simp;refine V _ _ _ (zE fun _ V=>?_);simp
 by_cases h:lo<=n
 all_goals
  simp[h];refine V _ _ _ (J.ret func90 (aM.one results90) (hQ _ _ _ _ (eB.v _ _ _) ?_));simp[within,h]
structure DX where
 kind:Int
 name:cH
 parent:Int
 deriving Inhabited,DecidableEq
abbrev Proc:=List DX
end Go.Ab
namespace Go.Ab
open Go.Proofs
theorem bY:Tryz.prog.follows .mixedOrders=true:=by kernel_rfl
theorem E6:a8 prog 90:=a8.of func90 (by kernel_rfl) rfl
end Go.Ab
namespace Go.Ab
open Go.Proofs Go.RowKit
end Go.Ab
namespace Go.Ab
section
variable (P:Program) (N:Nat) (ops:Array Oper) (κ:Op->Nat) (cix:Nat)
end
section
variable {P:Program} {N:Nat} {ops:Array Oper} {κ:Op->Nat} {cix:Nat}
end
section
variable {P:Program} {f:FuncId} {N:Nat} {k:List Item} {O:Env} {H:av} {n:Nat} {Q:I->av->Nat->Prop} {κ:Op->Nat}
end
section
variable (P:Program) (f:FuncId) (N:Nat) (k:List Item) (Q:I->av->Nat->Prop) (Ty:Types) (κ:Op->Nat) (ops:Array Oper)
end
section
variable {P:Program} {f:FuncId} {N:Nat} {k:List Item} {Q:I->av->Nat->Prop} {Ty:Types} {κ:Op->Nat} {ops:Array Oper} {o:Oper} {l:List Oper} {O:Env} {H:av} {n:Nat} {c:Nat}
theorem vm {d:Operand} {args:Array Operand} {ats:Array TypeId}:args.toList.map (loc (.call ⟨.value d,args,ats⟩) O).ev=args.toList.map O.ev/\(loc (.call ⟨.value d,args,ats⟩) O).ev d=O.ev d:=
 ⟨List.map_congr_left fun x hx=>dK (by simp[Op.operands,Call.operands];exact .inr (by simpa using hx)),dK (by simp[Op.operands,Call.operands])⟩
end
end Go.Ab
namespace Go.Ab
open Go.Proofs
theorem zA {f:FuncId} {N:Nat} {k:List Item} {Q:I -> av -> Nat -> Prop} {l:List Oper} {O:Env} {H:av} {n:Nat} {d:Option Tmp} {g:Operand} {args:Array Operand} {ats:Array TypeId} {ty:TypeId} {pos:String} {af:Array Edge} {R:I -> Prop} {f':FuncId} {xs ys:List I} {ops:List Oper}
 (h:aF prog f' ys R) (c8:a8 prog f') (ha:ca H n xs ys) (has:args.toList.map O.ev=xs) (hk:∀ v,R v -> cq prog f N k Q Ty ops.toArray l (O.put d v) H n) (hN:ops.all (fun o=>dL N o.dst)=true:=by decide) (hl:(⟨d,.call ⟨.value g,args,ats⟩,ty,pos,af,none⟩::l:List Oper).all (fun o=>dL N o.dst)=true:=by decide) (hg:O.ev g=.fn (.func f') [] []:=by rfl):
 bq prog f N k Q ops.toArray (⟨d,.call ⟨.value g,args,ats⟩,ty,pos,af,none⟩::l) O H n:=bq.cY aw h c8 ha hN hl hg has hk
end Go.Ab
namespace Go.Ab
open Go.Proofs
theorem zW {f:FuncId} {N:Nat} {k:List Item} {Q:I -> av -> Nat -> Prop} {l:List Oper} {O:Env} {H:av} {n:Nat} {K:List bW} {ids:List Id} {d:Option Tmp} {g:Operand} {args:Array Operand} {ats:Array TypeId} {ty:TypeId} {pos:String} {af:Array Edge} {R:I -> Prop} {f':FuncId} {xs ys:List I} {ops:List Oper} {sh:Sh}
 (h:bL prog f' ys sh R) (c8:a8 prog f') (ha:ca H n xs ys) (hs:Sep H n K ids) (has:args.toList.map O.ev=xs) (hk:∀ v H1 U r,Sep H1 U ((sh,v,r)::K) ids -> R r -> n <= U -> (∀ i ∈ ids,H1 i=H i) -> cq prog f N k Q Ty ops.toArray l (O.put d v) H1 U) (hN:ops.all (fun o=>dL N o.dst)=true:=by decide) (hl:(⟨d,.call ⟨.value g,args,ats⟩,ty,pos,af,none⟩::l:List Oper).all (fun o=>dL N o.dst)=true:=by decide) (hg:O.ev g=.fn (.func f') [] []:=by rfl):
 bq prog f N k Q ops.toArray (⟨d,.call ⟨.value g,args,ats⟩,ty,pos,af,none⟩::l) O H n:=bq.lN aw h c8 ha hs hN hl hg has hk
end Go.Ab
namespace Go.Ab
open Go.Proofs
theorem zS {f:FuncId} {N:Nat} {k:List Item} {Q:I -> av -> Nat -> Prop} {O:Env} {H:av} {n:Nat} {id:Nat} {ops:List Oper} {y z:Code} (h:∀ k':List Item,(∀ O H n,J prog f N (.code y::.code z::k) O H n Q -> J prog f N k' O H n Q) -> cq prog f N k' Q Ty ops.toArray ops O H n) (hN:ops.all (fun o=>dL N o.dst)=true:=by decide):J prog f N (.code (.seq (.seq (.region id ops.toArray false) y) z)::k) O H n Q:=J.seq (zE h hN)
theorem zI {f:FuncId} {N:Nat} {k:List Item} {Q:I -> av -> Nat -> Prop} {O:Env} {H:av} {n:Nat} {id j:Nat} {ops:List Oper} (h:∀ k':List Item,(∀ O H n,J prog f N k O H n Q -> J prog f N k' O H n Q) -> cq prog f N k' Q Ty ops.toArray ops O H n) (hN:ops.all (fun o=>dL N o.dst)=true:=by decide):J prog f N (.inBlock j::.code (.region id ops.toArray false)::k) O H n Q:=J.inBlock (zF h hN)
theorem zK {f:FuncId} {N:Nat} {k:List Item} {Q:I -> av -> Nat -> Prop} {O:Env} {H:av} {n:Nat} {y z:Code} (h:J prog f N (.code y::.code z::k) O H n Q):J prog f N (.code .skip::.code (.seq y z)::k) O H n Q:=J.skip (J.seq h)
end Go.Ab
