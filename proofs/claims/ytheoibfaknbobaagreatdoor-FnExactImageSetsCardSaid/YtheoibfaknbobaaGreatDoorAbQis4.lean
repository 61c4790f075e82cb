/- Merged texts (4 of 16) of the proof that ends in Isy: Ty X P So Sx Sy. -/
import Derived.Test.YtheoibfaknbobaaGreatDoorAbQis3
import Derived.Test.YtheoibfaknbobaaGreatDoorProg
import Derived.KernelRfl
import Derived.Shelf.Sort.Plain
open Go.Proofs.Tryz
set_option linter.unusedSectionVars false
set_option linter.unusedSimpArgs false
set_option linter.unusedVariables false
namespace Go.Ab
open Go.Proofs
theorem bT.of {P:Program} {t:TypeId} {s b:Nat} {z:List Value} (h:(P.underlying t).isSome=true) (h2:(P.info? t).map (fun i=>(i.size,i.bytes,i.zero.map Value.cells))=some (s,b,some z.toArray)):bT P t ⟨(P.underlying t).getD .invalid,s,b,z⟩:=by
 refine⟨?_,?_⟩
 ·cases hu:P.underlying t with
  | none=>simp[hu] at h
  | some d=>rfl
 cases hi:P.info? t with
 | none=>simp[hi] at h2
 | some info=>
  simp only[hi,Option.map_some,Option.some.injEq,Prod.mk.injEq,Option.map_eq_some_iff] at h2;obtain⟨h3,h4,zv,h5,h6⟩:=h2;exact⟨info,zv,rfl,h3,h4,h5,h6⟩
noncomputable def pf:TI:=⟨(Tryz.prog.underlying 3).getD .invalid,1,8,[.int .i64 0]⟩
noncomputable def ty4:TI:=⟨(Tryz.prog.underlying 4).getD .invalid,1,1,[.bool false]⟩
noncomputable def FP:TI:=⟨(Tryz.prog.underlying 5).getD .invalid,1,1,[.int .u8 0]⟩
noncomputable def AZ:TI:=⟨(Tryz.prog.underlying 9).getD .invalid,1,16,[.string ⟨#[]⟩]⟩
noncomputable def zt:TI:=⟨(Tryz.prog.underlying 22).getD .invalid,1,24,[.slice none 0 0]⟩
noncomputable def w9:TI:=⟨(Tryz.prog.underlying 23).getD .invalid,1,24,[.slice none 0 0]⟩
noncomputable def oK:TI:=⟨(Tryz.prog.underlying 24).getD .invalid,1,24,[.slice none 0 0]⟩
noncomputable def vm:TI:=⟨(Tryz.prog.underlying 25).getD .invalid,1,24,[.slice none 0 0]⟩
noncomputable def wh:TI:=⟨(Tryz.prog.underlying 26).getD .invalid,1,24,[.slice none 0 0]⟩
noncomputable def ze:TI:=⟨(Tryz.prog.underlying 28).getD .invalid,6,112,[.int .i64 0,.slice none 0 0,.slice none 0 0,.int .i64 0,.slice none 0 0,.slice none 0 0]⟩
noncomputable def zT:TI:=⟨(Tryz.prog.underlying 31).getD .invalid,1,24,[.slice none 0 0]⟩
noncomputable def zx:TI:=⟨(Tryz.prog.underlying 34).getD .invalid,1,24,[.slice none 0 0]⟩
noncomputable def wu:TI:=⟨(Tryz.prog.underlying 36).getD .invalid,1,24,[.slice none 0 0]⟩
noncomputable def wI:TI:=⟨(Tryz.prog.underlying 37).getD .invalid,1,24,[.slice none 0 0]⟩
noncomputable def zg:TI:=⟨(Tryz.prog.underlying 39).getD .invalid,6,112,[.int .i64 0,.slice none 0 0,.slice none 0 0,.int .i64 0,.slice none 0 0,.slice none 0 0]⟩
noncomputable def xp:TI:=⟨(Tryz.prog.underlying 50).getD .invalid,3,32,[.string ⟨#[]⟩,.int .i64 0,.int .i64 0]⟩
noncomputable def yo:TI:=⟨(Tryz.prog.underlying 55).getD .invalid,1,24,[.slice none 0 0]⟩
noncomputable def wJ:TI:=⟨(Tryz.prog.underlying 59).getD .invalid,2,48,[.slice none 0 0,.slice none 0 0]⟩
noncomputable def xF:TI:=⟨(Tryz.prog.underlying 62).getD .invalid,3,32,[.string ⟨#[]⟩,.int .i64 0,.int .i64 0]⟩
noncomputable def w5:TI:=⟨(Tryz.prog.underlying 81).getD .invalid,3,40,[.int .i64 0,.int .i64 0,.slice none 0 0]⟩
noncomputable def xS:TI:=⟨(Tryz.prog.underlying 84).getD .invalid,2,24,[.string ⟨#[]⟩,.int .i64 0]⟩
noncomputable def wL:TI:=⟨(Tryz.prog.underlying 87).getD .invalid,3,40,[.int .i64 0,.int .i64 0,.slice none 0 0]⟩
noncomputable def wG:TI:=⟨(Tryz.prog.underlying 89).getD .invalid,2,24,[.string ⟨#[]⟩,.int .i64 0]⟩
noncomputable def yk:TI:=⟨(Tryz.prog.underlying 94).getD .invalid,1,8,[.int .u64 0]⟩
noncomputable def zH:TI:=⟨(Tryz.prog.underlying 99).getD .invalid,1,24,[.slice none 0 0]⟩
noncomputable def qV:TI:=⟨(Tryz.prog.underlying 161).getD .invalid,1,24,[.slice none 0 0]⟩
noncomputable def p8:TI:=⟨(Tryz.prog.underlying 176).getD .invalid,2,16,[.int .i64 0,.int .i64 0]⟩
noncomputable def tyL:List (Nat × TI):=[(3,pf),(4,ty4),(5,FP),(9,AZ),(22,zt),(23,w9),(24,oK),(25,vm),(26,wh),(28,ze),(31,zT),(34,zx),(36,wu),(37,wI),(39,zg),(50,xp),(55,yo),(59,wJ),(62,xF),(81,w5),(84,xS),(87,wL),(89,wG),(94,yk),(99,zH),(161,qV),(176,p8)]
noncomputable def Ty:Types:=fun t=>(tyL.find? (fun p=>p.1 == t)).map (·.2)
theorem ok3:bT prog 3 pf:=bT.of (by kernel_rfl) (by kernel_rfl)
theorem Ty_3:Ty 3=some pf:=by kernel_rfl
theorem DI:pf.size=1:=rfl
theorem CX:pf.bytes=8:=rfl
theorem DE:pf.zero=[.int .i64 0]:=rfl
theorem Fi:pf.isAgg=false:=by kernel_rfl
theorem kd_3:kd Ty 3 = .int .i64:=by kernel_rfl
theorem ok4:bT prog 4 ty4:=bT.of (by kernel_rfl) (by kernel_rfl)
theorem Ty_4:Ty 4=some ty4:=by kernel_rfl
theorem Ev:ty4.size=1:=rfl
theorem CP:ty4.bytes=1:=rfl
theorem DY:ty4.zero=[.bool false]:=rfl
theorem EH:ty4.isAgg=false:=by kernel_rfl
theorem kd_4:kd Ty 4 = .bool:=by kernel_rfl
theorem ok5:bT prog 5 FP:=bT.of (by kernel_rfl) (by kernel_rfl)
theorem Ty_5:Ty 5=some FP:=by kernel_rfl
theorem Dj:FP.size=1:=rfl
theorem Ca:FP.bytes=1:=rfl
theorem DH:FP.zero=[.int .u8 0]:=rfl
theorem EO:FP.isAgg=false:=by kernel_rfl
theorem kd_5:kd Ty 5 = .int .u8:=by kernel_rfl
theorem ok9:bT prog 9 AZ:=bT.of (by kernel_rfl) (by kernel_rfl)
theorem Ty_9:Ty 9=some AZ:=by kernel_rfl
theorem Ee:AZ.size=1:=rfl
theorem Cv:AZ.bytes=16:=rfl
theorem D1:AZ.zero=[.string ⟨#[]⟩]:=rfl
theorem Fl:AZ.isAgg=false:=by kernel_rfl
theorem kd_9:kd Ty 9 = .string:=by kernel_rfl
theorem ok22:bT prog 22 zt:=bT.of (by kernel_rfl) (by kernel_rfl)
theorem Ty_22:Ty 22=some zt:=by kernel_rfl
theorem Bg:zt.size=1:=rfl
theorem yV:zt.bytes=24:=rfl
theorem Cj:zt.zero=[.slice none 0 0]:=rfl
theorem D3:zt.isAgg=false:=by kernel_rfl
theorem A4:kd Ty 22 = .slice xp:=by kernel_rfl
theorem ok23:bT prog 23 w9:=bT.of (by kernel_rfl) (by kernel_rfl)
theorem Ty_23:Ty 23=some w9:=by kernel_rfl
theorem BJ:w9.size=1:=rfl
theorem Ai:w9.bytes=24:=rfl
theorem CL:w9.zero=[.slice none 0 0]:=rfl
theorem Es:w9.isAgg=false:=by kernel_rfl
theorem AH:kd Ty 23 = .slice w5:=by kernel_rfl
theorem ok24:bT prog 24 oK:=bT.of (by kernel_rfl) (by kernel_rfl)
theorem Ty_24:Ty 24=some oK:=by kernel_rfl
theorem Bs:oK.size=1:=rfl
theorem zr:oK.bytes=24:=rfl
theorem CT:oK.zero=[.slice none 0 0]:=rfl
theorem DA:oK.isAgg=false:=by kernel_rfl
theorem aR:kd Ty 24 = .slice pf:=by kernel_rfl
theorem ok25:bT prog 25 vm:=bT.of (by kernel_rfl) (by kernel_rfl)
theorem Ty_25:Ty 25=some vm:=by kernel_rfl
theorem BS:vm.size=1:=rfl
theorem yj:vm.bytes=24:=rfl
theorem Ce:vm.zero=[.slice none 0 0]:=rfl
theorem DD:vm.isAgg=false:=by kernel_rfl
theorem iY:kd Ty 25 = .slice AZ:=by kernel_rfl
theorem ok26:bT prog 26 wh:=bT.of (by kernel_rfl) (by kernel_rfl)
theorem Ty_26:Ty 26=some wh:=by kernel_rfl
theorem BB:wh.size=1:=rfl
theorem Af:wh.bytes=24:=rfl
theorem Bf:wh.zero=[.slice none 0 0]:=rfl
theorem Ea:wh.isAgg=false:=by kernel_rfl
theorem Ba:kd Ty 26 = .slice xS:=by kernel_rfl
theorem ok28:bT prog 28 ze:=bT.of (by kernel_rfl) (by kernel_rfl)
theorem Ty_28:Ty 28=some ze:=by kernel_rfl
theorem B9:ze.size=6:=rfl
theorem zX:ze.bytes=112:=rfl
theorem Bz:ze.zero=[.int .i64 0,.slice none 0 0,.slice none 0 0,.int .i64 0,.slice none 0 0,.slice none 0 0]:=rfl
theorem Eu:ze.isAgg=true:=by kernel_rfl
theorem kd_28:kd Ty 28 = .struct [(0,pf),(1,w9),(2,oK),(3,pf),(4,vm),(5,wh)]:=by kernel_rfl
theorem ok31:bT prog 31 zT:=bT.of (by kernel_rfl) (by kernel_rfl)
theorem Ty_31:Ty 31=some zT:=by kernel_rfl
theorem CU:zT.size=1:=rfl
theorem zL:zT.bytes=24:=rfl
theorem Cs:zT.zero=[.slice none 0 0]:=rfl
theorem Eo:zT.isAgg=false:=by kernel_rfl
theorem fc:kd Ty 31 = .slice oK:=by kernel_rfl
theorem ok34:bT prog 34 zx:=bT.of (by kernel_rfl) (by kernel_rfl)
theorem Ty_34:Ty 34=some zx:=by kernel_rfl
theorem B7:zx.size=1:=rfl
theorem yp:zx.bytes=24:=rfl
theorem B3:zx.zero=[.slice none 0 0]:=rfl
theorem C1:zx.isAgg=false:=by kernel_rfl
theorem tQ:kd Ty 34 = .slice xF:=by kernel_rfl
theorem ok36:bT prog 36 wu:=bT.of (by kernel_rfl) (by kernel_rfl)
theorem Ty_36:Ty 36=some wu:=by kernel_rfl
theorem Cl:wu.size=1:=rfl
theorem yZ:wu.bytes=24:=rfl
theorem BO:wu.zero=[.slice none 0 0]:=rfl
theorem DM:wu.isAgg=false:=by kernel_rfl
theorem bK:kd Ty 36 = .slice wL:=by kernel_rfl
theorem ok37:bT prog 37 wI:=bT.of (by kernel_rfl) (by kernel_rfl)
theorem Ty_37:Ty 37=some wI:=by kernel_rfl
theorem BC:wI.size=1:=rfl
theorem yw:wI.bytes=24:=rfl
theorem Bt:wI.zero=[.slice none 0 0]:=rfl
theorem Eh:wI.isAgg=false:=by kernel_rfl
theorem jk:kd Ty 37 = .slice wG:=by kernel_rfl
theorem ok39:bT prog 39 zg:=bT.of (by kernel_rfl) (by kernel_rfl)
theorem FK:Ty 39=some zg:=by kernel_rfl
theorem B8:zg.size=6:=rfl
theorem yv:zg.bytes=112:=rfl
theorem CH:zg.zero=[.int .i64 0,.slice none 0 0,.slice none 0 0,.int .i64 0,.slice none 0 0,.slice none 0 0]:=rfl
theorem Da:zg.isAgg=true:=by kernel_rfl
theorem kd_39:kd Ty 39 = .struct [(0,pf),(1,wu),(2,oK),(3,pf),(4,vm),(5,wI)]:=by kernel_rfl
theorem ok50:bT prog 50 xp:=bT.of (by kernel_rfl) (by kernel_rfl)
theorem Ty_50:Ty 50=some xp:=by kernel_rfl
theorem Cp:xp.size=3:=rfl
theorem Ad:xp.bytes=32:=rfl
theorem Br:xp.zero=[.string ⟨#[]⟩,.int .i64 0,.int .i64 0]:=rfl
theorem C6:xp.isAgg=true:=by kernel_rfl
theorem kd_50:kd Ty 50 = .struct [(0,AZ),(1,pf),(2,pf)]:=by kernel_rfl
theorem ok55:bT prog 55 yo:=bT.of (by kernel_rfl) (by kernel_rfl)
theorem Ty_55:Ty 55=some yo:=by kernel_rfl
theorem BU:yo.size=1:=rfl
theorem Ah:yo.bytes=24:=rfl
theorem CO:yo.zero=[.slice none 0 0]:=rfl
theorem Dk:yo.isAgg=false:=by kernel_rfl
theorem gH:kd Ty 55 = .slice wJ:=by kernel_rfl
theorem ok59:bT prog 59 wJ:=bT.of (by kernel_rfl) (by kernel_rfl)
theorem Ek:Ty 59=some wJ:=by kernel_rfl
theorem Ci:wJ.size=2:=rfl
theorem zV:wJ.bytes=48:=rfl
theorem BN:wJ.zero=[.slice none 0 0,.slice none 0 0]:=rfl
theorem D2:wJ.isAgg=true:=by kernel_rfl
theorem kd_59:kd Ty 59 = .struct [(0,oK),(1,oK)]:=by kernel_rfl
theorem ok62:bT prog 62 xF:=bT.of (by kernel_rfl) (by kernel_rfl)
theorem FG:Ty 62=some xF:=by kernel_rfl
theorem CA:xF.size=3:=rfl
theorem zy:xF.bytes=32:=rfl
theorem CI:xF.zero=[.string ⟨#[]⟩,.int .i64 0,.int .i64 0]:=rfl
theorem Dg:xF.isAgg=true:=by kernel_rfl
theorem kd_62:kd Ty 62 = .struct [(0,AZ),(1,pf),(2,pf)]:=by kernel_rfl
theorem ok81:bT prog 81 w5:=bT.of (by kernel_rfl) (by kernel_rfl)
theorem Ty_81:Ty 81=some w5:=by kernel_rfl
theorem Cn:w5.size=3:=rfl
theorem zk:w5.bytes=40:=rfl
theorem Bl:w5.zero=[.int .i64 0,.int .i64 0,.slice none 0 0]:=rfl
theorem Er:w5.isAgg=true:=by kernel_rfl
theorem kd_81:kd Ty 81 = .struct [(0,pf),(1,pf),(2,oK)]:=by kernel_rfl
theorem ok84:bT prog 84 xS:=bT.of (by kernel_rfl) (by kernel_rfl)
theorem Ty_84:Ty 84=some xS:=by kernel_rfl
theorem BE:xS.size=2:=rfl
theorem zl:xS.bytes=24:=rfl
theorem Bh:xS.zero=[.string ⟨#[]⟩,.int .i64 0]:=rfl
theorem C5:xS.isAgg=true:=by kernel_rfl
theorem kd_84:kd Ty 84 = .struct [(0,AZ),(1,pf)]:=by kernel_rfl
theorem ok87:bT prog 87 wL:=bT.of (by kernel_rfl) (by kernel_rfl)
theorem FF:Ty 87=some wL:=by kernel_rfl
theorem Bv:wL.size=3:=rfl
theorem zn:wL.bytes=40:=rfl
theorem BG:wL.zero=[.int .i64 0,.int .i64 0,.slice none 0 0]:=rfl
theorem D6:wL.isAgg=true:=by kernel_rfl
theorem kd_87:kd Ty 87 = .struct [(0,pf),(1,pf),(2,oK)]:=by kernel_rfl
theorem ok89:bT prog 89 wG:=bT.of (by kernel_rfl) (by kernel_rfl)
theorem FA:Ty 89=some wG:=by kernel_rfl
theorem CD:wG.size=2:=rfl
theorem zC:wG.bytes=24:=rfl
theorem BW:wG.zero=[.string ⟨#[]⟩,.int .i64 0]:=rfl
theorem C8:wG.isAgg=true:=by kernel_rfl
theorem kd_89:kd Ty 89 = .struct [(0,AZ),(1,pf)]:=by kernel_rfl
theorem ok94:bT prog 94 yk:=bT.of (by kernel_rfl) (by kernel_rfl)
theorem Ty_94:Ty 94=some yk:=by kernel_rfl
theorem CE:yk.size=1:=rfl
theorem zN:yk.bytes=8:=rfl
theorem Bm:yk.zero=[.int .u64 0]:=rfl
theorem CY:yk.isAgg=false:=by kernel_rfl
theorem kd_94:kd Ty 94 = .int .u64:=by kernel_rfl
theorem ok99:bT prog 99 zH:=bT.of (by kernel_rfl) (by kernel_rfl)
theorem Ty_99:Ty 99=some zH:=by kernel_rfl
theorem Bo:zH.size=1:=rfl
theorem Az:zH.bytes=24:=rfl
theorem Co:zH.zero=[.slice none 0 0]:=rfl
theorem DZ:zH.isAgg=false:=by kernel_rfl
theorem FM:kd Ty 99 = .slice FP:=by kernel_rfl
theorem ok161:bT prog 161 qV:=bT.of (by kernel_rfl) (by kernel_rfl)
theorem Ty_161:Ty 161=some qV:=by kernel_rfl
theorem yP:qV.size=1:=rfl
theorem xo:qV.bytes=24:=rfl
theorem Ar:qV.zero=[.slice none 0 0]:=rfl
theorem BL:qV.isAgg=false:=by kernel_rfl
theorem fJ:kd Ty 161 = .slice p8:=by kernel_rfl
theorem ok176:bT prog 176 p8:=bT.of (by kernel_rfl) (by kernel_rfl)
theorem Ty_176:Ty 176=some p8:=by kernel_rfl
theorem yT:p8.size=2:=rfl
theorem xx:p8.bytes=16:=rfl
theorem Am:p8.zero=[.int .i64 0,.int .i64 0]:=rfl
theorem B5:p8.isAgg=true:=by kernel_rfl
theorem rp:kd Ty 176 = .arr 2 pf:=by kernel_rfl
theorem aH:aX prog Ty:=by
 have h:∀ p ∈ tyL,bT prog p.1 p.2:=by
  refine List.forall_mem_cons.2 ⟨ok3,?_⟩;refine List.forall_mem_cons.2 ⟨ok4,?_⟩;refine List.forall_mem_cons.2 ⟨ok5,?_⟩;refine List.forall_mem_cons.2 ⟨ok9,?_⟩;refine List.forall_mem_cons.2 ⟨ok22,?_⟩;refine List.forall_mem_cons.2 ⟨ok23,?_⟩;refine List.forall_mem_cons.2 ⟨ok24,?_⟩;refine List.forall_mem_cons.2 ⟨ok25,?_⟩;refine List.forall_mem_cons.2 ⟨ok26,?_⟩;refine List.forall_mem_cons.2 ⟨ok28,?_⟩;refine List.forall_mem_cons.2 ⟨ok31,?_⟩;refine List.forall_mem_cons.2 ⟨ok34,?_⟩;refine List.forall_mem_cons.2 ⟨ok36,?_⟩;refine List.forall_mem_cons.2 ⟨ok37,?_⟩;refine List.forall_mem_cons.2 ⟨ok39,?_⟩;refine List.forall_mem_cons.2 ⟨ok50,?_⟩;refine List.forall_mem_cons.2 ⟨ok55,?_⟩;refine List.forall_mem_cons.2 ⟨ok59,?_⟩;refine List.forall_mem_cons.2 ⟨ok62,?_⟩;refine List.forall_mem_cons.2 ⟨ok81,?_⟩;refine List.forall_mem_cons.2 ⟨ok84,?_⟩;refine List.forall_mem_cons.2 ⟨ok87,?_⟩;refine List.forall_mem_cons.2 ⟨ok89,?_⟩;refine List.forall_mem_cons.2 ⟨ok94,?_⟩;refine List.forall_mem_cons.2 ⟨ok99,?_⟩;refine List.forall_mem_cons.2 ⟨ok161,?_⟩;refine List.forall_mem_cons.2 ⟨ok176,?_⟩;simp
 intro t i hi;unfold Ty at hi;cases hf:tyL.find? (fun p=>p.1 == t) with
 | none=>simp[hf] at hi
 | some p=>
  simp only[hf,Option.map_some,Option.some.injEq] at hi;have h1:=List.find?_some hf;have h2:=h p (List.mem_of_find?_eq_some hf);simp only[beq_iff_eq] at h1;rw[<- h1,<- hi];exact h2
attribute [simp] DI Ev Dj Ee Bg BJ Bs BS BB B9 CU B7 Cl BC B8 Cp BU Ci CA Cn BE Bv CD CE Bo yP yT Fi EH EO Fl D3 Es DA DD Ea Eu Eo C1 DM Eh Da C6 Dk D2 Dg Er C5 D6 C8 CY DZ BL B5 DE DY DH D1 Cj CL CT Ce Bf Bz Cs B3 BO Bt CH Br CO BN CI Bl Bh BG BW Bm Co Ar Am Ty_3 Ty_4 Ty_5 Ty_9 Ty_22 Ty_23 Ty_24 Ty_25 Ty_26 Ty_28 Ty_31 Ty_34 Ty_36 Ty_37 FK Ty_50 Ty_55 Ek FG Ty_81 Ty_84 FF FA Ty_94 Ty_99 Ty_161 Ty_176 kd_3 kd_4 kd_5 kd_9 A4 AH aR iY Ba kd_28 fc tQ bK jk kd_39 kd_50 gH kd_59 kd_62 kd_81 kd_84 kd_87 kd_89 kd_94 FM fJ rp CX CP Ca Cv yV Ai zr yj Af zX zL yp yZ yw yv Ad Ah zV zy zk zl zn zC zN Az xo xx
end Go.Ab
namespace Go.Ab
open Go.Proofs
section
variable {f:FuncId} {N:Nat} {k:List Item} {O:Env} {H:az} {n:Nat} {Q:au->az->Nat->Prop} {id:Nat} {ops:List Oper} {y:Code}
theorem zE (h:∀ k':List Item,(∀ O H n,J prog f N (.code y::k) O H n Q->J prog f N k' O H n Q)->bR prog f N k' Q Ty ops.toArray ops O H n) (hN:ops.all (fun o=>dM N o.dst)=true:=by decide):J prog f N (.code (.seq (.region id ops.toArray false) y)::k) O H n Q:=J.seqE aH hN h
theorem zF (h:∀ k':List Item,(∀ O H n,J prog f N k O H n Q->J prog f N k' O H n Q)->bR prog f N k' Q Ty ops.toArray ops O H n) (hN:ops.all (fun o=>dM N o.dst)=true:=by decide):J prog f N (.code (.region id ops.toArray false)::k) O H n Q:=J.evalE aH hN h
end
def within (n lo hi:Int):Bool:=decide (lo<=n) && decide (n<=hi)
theorem dT (n lo hi:Int):aB prog 100 [int n,int lo,int hi] (fun r=>r=bool (within n lo hi)):=by
 refine aB.of func100 rfl ntmps100 (by simp) fun Q hQ=>?_
 refine zE fun _ V=>?_
 simp;refine V _ _ _ (zE fun _ V=>?_);simp
 by_cases h:lo<=n
 all_goals
  simp[h];refine V _ _ _ (J.ret func100 (aN.one results100) (hQ _ _ _ _ (ov.v _ _ _) ?_));simp[within,h]
structure E6 where
 kind:Int
 name:cB
 parent:Int
 deriving Inhabited,DecidableEq
abbrev Proc:=List E6
end Go.Ab
namespace Go.Ab
open Go.Proofs
theorem bN:Tryz.prog.follows .mixedOrders=true:=by kernel_rfl
theorem te:aW prog 100:=aW.of func100 (by kernel_rfl) rfl
end Go.Ab
namespace Go.Ab
open Go.Proofs Go.RowKit
theorem oH {α:Type} {enc:α->Value} [Inhabited α] {off:Nat} {d:Array α} {cl:Array Value} (k:Nat) :
  (Sort.putCells enc off d cl)[k]?=(cl[k]?).map fun x=>if off<=k/\k<off+d.size then enc d[k - off]! else x:=by
 simp only[Sort.putCells,Array.getElem?_mapIdx]
theorem sf {H:az} {l:List Sh} (hf:∀ t ∈ l,t = .c):∀ {as1' bs:List (List au)} {S:List Id},bc (Row H l) as1' bs S->as1'=bs/\S=[]:=by
 intro as1'
 induction as1' with
 | nil=>intro bs S hr;match bs,hr with
  | [],h=>exact⟨rfl,h⟩
  | _::_,hr=>exact hr.elim
 | cons a _ ih=>
  intro bs S hr
  match bs,hr with
  | b::bs,⟨_,_,q1,q2,q3,_⟩=>
   obtain⟨rfl,rfl,_⟩:=q1.fill hf;obtain⟨rfl,rfl⟩:=ih q2;exact⟨rfl,q3⟩
  | [],hr=>exact hr.elim
end Go.Ab
namespace Go.Ab
section
variable (P:Program) (N:Nat) (ops:Array Oper) (κ:Op->Nat) (cix:Nat)
end
section
variable {P:Program} {N:Nat} {ops:Array Oper} {κ:Op->Nat} {cix:Nat}
end
section
variable {P:Program} {f:FuncId} {N:Nat} {k:List Item} {O:Env} {H:az} {n:Nat} {Q:au->az->Nat->Prop} {κ:Op->Nat}
end
section
variable (P:Program) (f:FuncId) (N:Nat) (k:List Item) (Q:au->az->Nat->Prop) (Ty:Types) (κ:Op->Nat) (ops:Array Oper)
end
section
variable {P:Program} {f:FuncId} {N:Nat} {k:List Item} {Q:au->az->Nat->Prop} {Ty:Types} {κ:Op->Nat} {ops:Array Oper} {o:Oper} {l:List Oper} {O:Env} {H:az} {n:Nat} {c:Nat}
theorem xU {d:Operand} {args:Array Operand} {ats:Array TypeId}:args.toList.map (loc (.call ⟨.value d,args,ats⟩) O).ev=args.toList.map O.ev/\(loc (.call ⟨.value d,args,ats⟩) O).ev d=O.ev d:=
 ⟨List.map_congr_left fun x hx=>fy (by simp[Op.operands,Call.operands];exact .inr (by simpa using hx)),fy (by simp[Op.operands,Call.operands])⟩
end
end Go.Ab
namespace Go.Ab
abbrev cy (L:Array Bool) (j:Nat):Prop:=L.getD j false=true
theorem cy.set {L:Array Bool} {i j:Nat} (h:cy (L.setIfInBounds i true) j):j=i\/cy L j:=by
 by_cases hij:i=j
 ·exact .inl hij.symm
 ·refine .inr ?_;rw[cy,getD_set_ne false hij] at h;exact h
theorem cy.iH {L:Array Bool} {i j:Nat} (h:cy L j):cy (L.setIfInBounds i true) j:=by
 by_cases hij:i=j
 ·subst hij;have:i<L.size:=by
   rcases Nat.lt_or_ge i L.size with h' | h'
   ·exact h'
   ·simp[cy,h'] at h
  simp[cy,this]
 ·rw[cy,getD_set_ne false hij];exact h
theorem iz {L:Array Bool} {i:Nat} (h:i<L.size):cy (L.setIfInBounds i true) i:=by simp[cy,h]
theorem lO {L:Array Bool} {i:Nat} (h:i<L.size):¬ cy L i↔L.getD i true=false:=by
 simp[cy,h]
theorem qd {α:Type} {p q:α->Bool}:∀ {l:List α},(∀ x ∈ l,p x=true->q x=true)->(∃ x ∈ l,q x=true/\p x=false)->l.countP p<l.countP q
 | [],_,⟨_,h,_⟩=>by cases h
 | y::l,h,⟨x,hx,h1,h2⟩=>by
  have hle:l.countP p<=l.countP q:=List.countP_mono_left fun z hz=>h z (by simp[hz])
  rcases List.mem_cons.1 hx with rfl | hx
  ·rw[List.countP_cons_of_pos h1,List.countP_cons_of_neg (by simp[h2])];omega
  ·have:=qd (l:=l) (fun z hz=>h z (by simp[hz])) ⟨x,hx,h1,h2⟩;have hy:=h y (by simp);simp only[List.countP_cons]
   by_cases hp:p y=true
   ·rw[if_pos hp,if_pos (hy hp)];omega
   ·rw[if_neg hp];split<;>omega
def np (P:Program) (N:Nat) (ops:Array Oper) (Inv:Array Bool->AS->Prop) (i:Nat):Prop:=
 ∀ L s,Inv L s->i ∈ Region.ready .any ops L->∃ o,ops[i]?=some o/\o.guard=none/\aO P N o (loc o.op s.1) s.2.1 s.2.2 fun v H' n'=>Inv (L.setIfInBounds i true) (s.1.put o.dst v,H',n')
section
variable {P:Program} {N:Nat} {ops:Array Oper}
theorem tZ {Inv:Array Bool->AS->Prop} {R:AS->Prop} (hN:ops.toList.all (fun o=>dM N o.dst)=true) {Q:Exit->Act->World->Prop} {c0:Ctx} (hQ:∀ a c O,bh c0 c->Good c->cL N c O a->R (O,c.H,c.n)->Q .normal a c.w)
  (step:∀ i,np P N ops Inv i) (fin:∀ L s,Inv L s->Region.ready .any ops L=[]->R s) :
  ∀ (fuel:Nat) (L:Array Bool) (O:Env) (c:Ctx) (a:Act),bh c0 c->Good c->cL N c O a->Inv L (O,c.H,c.n)->(List.range ops.size).countP (fun i => !(L.getD i true))<=fuel->wpAny P .any ops Q fuel L a c.w
 | 0,L,O,c,a,hk,g,r,h,hf=>by
  have hr:Region.ready .any ops L=[]:=by
   cases hl:Region.ready .any ops L with
   | nil=>rfl
   | cons i l=>
    have hi:i ∈ Region.ready .any ops L:=by rw[hl];simp
    obtain⟨h1,o,ho,_⟩:=mem_ready.1 hi;have hlt:i<ops.size:=(Array.getElem?_eq_some_iff.1 ho).1;have:0<(List.range ops.size).countP (fun i => !(L.getD i true)):=List.countP_pos_iff.2 ⟨i,List.mem_range.2 hlt,by simp only[h1,Bool.not_false]⟩;omega
  exact⟨hr,hQ _ _ _ hk g r (fin _ _ h hr)⟩
 | fuel+1,L,O,c,a,hk,g,r,h,hf=>by
  refine⟨fun h0=>hQ _ _ _ hk g r (fin _ _ h h0),fun i hi=>?_⟩;obtain⟨o,ho,hg,hop⟩:=step i L _ h hi;obtain⟨hu,o',ho',_⟩:=mem_ready.1 hi;have hlt:i<ops.size:=(Array.getElem?_eq_some_iff.1 ho).1;have hd:dM N o.dst=true:=List.all_eq_true.1 hN o (by rw[<- Array.getElem?_toList] at ho;exact List.mem_of_getElem? ho);unfold wpOp;simp only[ho];rw[if_pos (bU r hN (by simp[fp,hg]))];refine .inl (hop c a rfl rfl g (r.loc o.op) _ _ ?_);rintro v1 x c' hpost hrep hgood hkeep;refine tZ hN hQ step fin fuel _ _ c' _ (hk.trans hkeep) hgood ((r.keeps hkeep).put hd hrep) hpost ?_;have:(List.range ops.size).countP (fun j => !((L.setIfInBounds i true).getD j true))<(List.range ops.size).countP (fun j => !(L.getD j true)):=by
   refine qd (fun x _ hx=>?_) ⟨i,List.mem_range.2 hlt,by simp only[hu,Bool.not_false],?_⟩
   ·by_cases hix:i=x
    ·subst hix;simp only[hu,Bool.not_false]
    ·rw[getD_set_ne true hix] at hx;exact hx
   ·have:(L.setIfInBounds i true).getD i true=true:=by
     by_cases hs:i<L.size<;>simp[hs]
    simp only[this,Bool.not_true]
  omega
end
section
variable {P:Program} {f:FuncId} {N:Nat} {k:List Item} {O:Env} {H:az} {n:Nat} {Q:au->az->Nat->Prop}
theorem J.drawI (Inv:Array Bool->AS->Prop) {id:Nat} {ops:List Oper} (hm:P.follows .mixedOrders=true) (hN:ops.all (fun o=>dM N o.dst)=true) (h0:Inv (Array.replicate ops.length false) (O,H,n)) (step:∀ i,np P N ops.toArray Inv i)
  (fin:∀ L s,Inv L s->Region.ready .any ops.toArray L=[]->J P f N k s.1 s.2.1 s.2.2 Q):J P f N (.code (.region id ops.toArray true)::k) O H n Q:=by
 intro c a hH hn g r b cs hf hk;subst hH;subst hn;obtain⟨d1,d2⟩:=iB g;have hw:(Code.region id ops.toArray true).wp P (fun e a' w'=>e = .normal/\∃ c' ρ',c'.w=w'/\bh c c'/\Good c'/\cL N c' ρ' a'/\J P f N k ρ' c'.H c'.n Q) a c.w:=by
  refine wp_region_any hm ?_;have:=tZ (P:=P) (N:=N) (ops:=ops.toArray) (c0:=c) (Inv:=Inv) (by simpa using hN) (Q:=fun e a' w'=>e = .normal/\∃ c' ρ',c'.w=w'/\bh c c'/\Good c'/\cL N c' ρ' a'/\J P f N k ρ' c'.H c'.n Q)
   (R:=fun s=>J P f N k s.1 s.2.1 s.2.2 Q) (fun a' c' ρ' V hg' hr' hR=>⟨rfl,c',ρ',rfl,V,hg',hr',hR⟩) step fin ops.length (Array.replicate ops.toArray.size false) O { c with w:={ c.w with drawn:=c.w.drawn+1 } } a d1 d2 (r.keeps d1) (by simpa using h0)
   (Nat.le_trans List.countP_le_length (by simp))
  simpa using this
 obtain⟨e,a',w',⟨rfl,c',ρ',rfl,V,hg',hr',hR⟩,harr⟩:=hw b k cs;obtain⟨x,v,c'',fr,q,hr,hg,hke,hst,rest⟩:=hR c' a' rfl rfl hg' hr' b cs hf hk;exact⟨x,v,c'',fr,q,hr,hg,V.trans hke,Steps.trans harr hst,rest⟩
end
def Old (O:Env) (B:List (Nat × au)):Prop:=∀ q ∈ B,O q.1=q.2
def Told (L:Array Bool) (O:Env) (an:List (Nat × Nat × au)):Prop:=∀ q ∈ an,cy L q.1->O q.2.1=q.2.2
def Fc (O:Env) (an:List (Nat × Nat × au)):Prop:=∀ q ∈ an,O q.2.1=q.2.2
theorem Old.at {O:Env} {B:List (Nat × au)} (h:Old O B) (k:Nat) {t:Nat} {v:au} (hk:B[k]?=some (t,v)):O t=v:=h (t,v) (List.mem_of_getElem? hk)
theorem Told.at {L:Array Bool} {O:Env} {an:List (Nat × Nat × au)} (h:Told L O an) (k:Nat) {i t:Nat} {v:au} (hk:an[k]?=some (i,t,v)) (hd:cy L i):O t=v:=h (i,t,v) (List.mem_of_getElem? hk) hd
theorem Fc.at {O:Env} {an:List (Nat × Nat × au)} (h:Fc O an) (k:Nat) {i t:Nat} {v:au} (hk:an[k]?=some (i,t,v)):O t=v:=h (i,t,v) (List.mem_of_getElem? hk)
theorem Old.put {O:Env} {B:List (Nat × au)} {d:Option Nat} {v:au} (h:Old O B) (hd:∀ q ∈ B,d ≠ some q.1):Old (O.put d v) B:=fun q hq=>by
 cases d with
 | none=>exact h q hq
 | some d=>
  have:q.1 ≠ d:=fun e=>hd q hq (by rw[e])
  simp[Env.put,this,h q hq]
theorem Told.put {L:Array Bool} {O:Env} {an F':List (Nat × Nat × au)} {i:Nat} {d:Option Nat} {v:au} (h:Told L O an) (hF:∀ q ∈ F',q.1 ≠ i->cy L q.1->q ∈ an) (hd:∀ q ∈ F',d=some q.2.1->q.1=i) (hv:∀ q ∈ F',q.1=i->d=some q.2.1/\q.2.2=v) :
  Told (L.setIfInBounds i true) (O.put d v) F':=fun q hq hdn=>by
 by_cases e:q.1=i
 ·obtain⟨h1,h2⟩:=hv q hq e;subst h1;simp[Env.put,h2]
 ·have hdone:=hdn.set.resolve_left e;have:=h q (hF q hq e hdone) hdone;cases d with
  | none=>exact this
  | some d=>
   have hne:q.2.1 ≠ d:=fun he=>e (hd q hq (by rw[he]))
   simp[Env.put,hne,this]
def Mem (H0:az) (n0:Nat) (K:List bf) (ids:List Id) (ent:List bf) (w:Id) (ob0 ob1:Ob) (dc da ds:Bool) (H:az) (n:Nat):Prop:=
 Sep H n ((if dc then ent else [])++K) ((if da then [w] else [])++ids)/\(∀ i ∈ ids,H i=H0 i)/\n0<=n/\(da=true->n0<=w.1/\H w=some (if ds then ob1 else ob0))
structure sH where
 m:Nat
 c:Nat
 a:Nat
 st:Nat
 d:Nat
 B:List (Nat × au)
 an:List au->Nat->List (Nat × Nat × au)
 ent:List au->List bf
 ob0:Ob
 ob1:List au->Ob
 RG:List au->Prop
 onC:List Nat
 onA:List Nat
 H0:az
 n0:Nat
 K:List bf
 ids:List Id
def sH.Inv (g:sH) (L:Array Bool) (s:AS):Prop:=
 L.size=g.m/\(∀ j ∈ g.onC,cy L j->cy L g.c)/\(∀ j ∈ g.onA,cy L j->cy L g.a)/\∃ (G:List au) (A:Nat),Old s.1 g.B/\Told L s.1 (g.an G A)/\(cy L g.c->g.RG G) /\
  Mem g.H0 g.n0 g.K g.ids (g.ent G) (A,g.d) g.ob0 (g.ob1 G) (L.getD g.c false) (L.getD g.a false) (L.getD g.st false) s.2.1 s.2.2
section
variable {P:Program} {N:Nat} {ops:Array Oper} {g:sH}
theorem Mem.sep {H0 H:az} {n0 n:Nat} {K ent:List bf} {ids:List Id} {w:Id} {ob0 ob1:Ob} {dc da ds:Bool} (h:Mem H0 n0 K ids ent w ob0 ob1 dc da ds H n):Sep H n K ids:=by
 have:=h.1;have h1:Sep H n K ((if da then [w] else [])++ids):=by
  cases dc
  ·simpa using this
  ·exact Sep.right (K1:=ent) this
 exact Sep.sub h1 fun i hi=>by simp[hi]
theorem sH.det {i m c a st:Nat} {o:Oper} (hi:ops.toList[i]?=some o) (hn:(g.m,g.c,g.a,g.st)=(m,c,a,st)) (hk:(decide (i<m) && decide (i ≠ c/\i ≠ a/\i ≠ st))=true) (hg:o.guard=none)
  (hs:∀ L O H n G A,Old O g.B->Told L O (g.an G A)->(∀ e ∈ o.after,Region.binds .any e=true->cy L e.on)->(cy L g.c->g.RG G)->(∀ j ∈ g.onC,cy L j->cy L g.c)->(∀ j ∈ g.ids,H j=g.H0 j)->Sep H n g.K g.ids ->
   ∃ v,aO P N o (loc o.op O) H n (tO v H n)/\∀ q ∈ g.an G A,q.1=i->o.dst=some q.2.1/\q.2.2=v)
  (hB:∀ q ∈ g.B,o.dst ≠ some q.1:=by simp) (hF:∀ G A,∀ q ∈ g.an G A,o.dst=some q.2.1->q.1=i:=by intro G' A';simp)
  (hc:i ∈ g.onC->∃ e ∈ o.after,Region.binds .any e=true/\(e.on=g.c\/e.on ∈ g.onC):=by simp) (ha:i ∈ g.onA->∃ e ∈ o.after,Region.binds .any e=true/\(e.on=g.a\/e.on ∈ g.onA):=by simp):np P N ops g.Inv i:=by
 simp only[Prod.mk.injEq] at hn;obtain⟨rfl,rfl,rfl,rfl⟩:=hn;simp only[Bool.and_eq_true,decide_eq_true_eq] at hk;obtain⟨hm,hne⟩:=hk;rw[Array.getElem?_toList] at hi;intro L s hI hr;obtain⟨hsz,hoc,hoa,G,A,hO,hT,hG,hM⟩:=hI;obtain⟨hu,o',ho',hdep⟩:=mem_ready.1 hr;rw[hi] at ho';cases ho';refine⟨o,hi,hg,?_⟩;obtain⟨v,hop,hv⟩:=hs L s.1 s.2.1 s.2.2 G A hO hT (fun e he hb=>hdep e he hb) hG hoc hM.2.1 hM.sep;apply hop.mono;rintro _ _ _ ⟨rfl,rfl,rfl⟩;refine⟨by simpa using hsz,fun j hj hd=>?_,fun j hj hd=>?_,G,A,hO.put hB,hT.put (fun q hq _ _=>hq) (hF G A) hv,fun hd=>hG (hd.set.resolve_left (Ne.symm hne.1)),?_⟩
 ·rcases hd.set with rfl | hd
  ·obtain⟨e,he,hb,h1 | h1⟩:=hc hj
   ·exact cy.iH (h1 ▸ hdep e he hb)
   ·exact cy.iH (hoc _ h1 (hdep e he hb))
  ·exact cy.iH (hoc j hj hd)
 ·rcases hd.set with rfl | hd
  ·obtain⟨e,he,hb,h1 | h1⟩:=ha hj
   ·exact cy.iH (h1 ▸ hdep e he hb)
   ·exact cy.iH (hoa _ h1 (hdep e he hb))
  ·exact cy.iH (hoa j hj hd)
 ·rw[getD_set_ne false hne.1,getD_set_ne false hne.2.1,getD_set_ne false hne.2.2];exact hM
theorem sH.call {d:Option Tmp} {fo:Operand} {args:Array Operand} {ats:Array TypeId} {ty:TypeId} {pos:String} {af:Array Edge} (hi:ops.toList[g.c]?=some ⟨d,.call ⟨.value fo,args,ats⟩,ty,pos,af,none⟩) {m c a st:Nat} (hn:(g.m,g.c,g.a,g.st)=(m,c,a,st)) (hk:(decide (c<m) && decide (c ≠ a/\c ≠ st))=true)
  {R:au->Prop} {f':FuncId} {sh:Sh} (hown:∃ ct,br P f' ct sh R/\∀ L O H n G A,Old O g.B->Told L O (g.an G A)->(∀ e ∈ af,Region.binds .any e=true->cy L e.on)->(∀ j ∈ g.ids,H j=g.H0 j)->Sep H n g.K g.ids->O.ev fo = .fn (.func f') [] []/\dw H n (args.toList.map O.ev) ct) (cK:aW P f')
  (hun:∀ H n v r ids,Sep H n ((sh,v,r)::g.K) ids->R r->∃ G,g.RG G/\Sep H n (g.ent G++g.K) ids/\∀ A,∀ q ∈ g.an G A,q.1=g.c->d=some q.2.1/\q.2.2=v)
  (hB:∀ q ∈ g.B,d ≠ some q.1:=by simp) (hF:∀ G A,∀ q ∈ g.an G A,d=some q.2.1->q.1=g.c:=by intro G' A';simp) (hFG:∀ G G' A,∀ q ∈ g.an G' A,q.1 ≠ g.c->q.1 ∉ g.onC->q ∈ g.an G A:=by intro G1 G' A';simp) (hcc:g.c ∉ g.onC:=by simp) (hca:g.c ∉ g.onA:=by simp) (hst:g.st ∈ g.onC:=by simp):np P N ops g.Inv g.c:=by
 simp only[Prod.mk.injEq] at hn;obtain⟨rfl,rfl,rfl,rfl⟩:=hn;simp only[Bool.and_eq_true,decide_eq_true_eq] at hk;obtain⟨hm,hne⟩:=hk;rw[Array.getElem?_toList] at hi;intro L s hI hr;obtain⟨hsz,hoc,hoa,G,A,hO,hT,hG,hM⟩:=hI;obtain⟨hu,o',ho',hdep⟩:=mem_ready.1 hr;rw[hi] at ho';cases ho';have hnd:¬ cy L g.c:=(lO (by omega)).2 hu;have hncd:∀ j ∈ g.onC,¬ cy L j:=fun j hj hd=>hnd (hoc j hj hd)
 refine⟨_,hi,rfl,?_⟩;obtain⟨ct,hO',har⟩:=hown;obtain⟨hfo,hargs⟩:=har L s.1 s.2.1 s.2.2 G A hO hT (fun e he hb=>hdep e he hb) hM.2.1 hM.sep;have hcf:L.getD g.c false=false:=by simpa[cy] using hnd
 have hsf:L.getD g.st false=false:=by simpa[cy] using hncd g.st hst
 obtain⟨m1,m2,m3,m4⟩:=hM;rw[hcf,if_neg (by simp),List.nil_append] at m1;refine (aO.o7 (by rw[xU.2];exact hfo) cK (by rw[xU.1];exact hargs) hO' m1).mono ?_;rintro v1 H1 U ⟨r,h1,h2,h3,h4⟩;obtain⟨G',hRG,hS,hq⟩:=hun _ _ _ _ _ h1 h2;refine⟨by simpa using hsz,fun j hj hd=>iz (by omega),fun j hj hd=>?_,G',A,hO.put hB,hT.put (fun q hq h5 h6=>hFG G G' A q hq h5 fun h7=>hncd _ h7 h6) (hF G' A) (hq A),fun _=>hRG,?_⟩
 ·rcases hd.set with rfl | hd
  ·exact absurd hj hca
  ·exact cy.iH (hoa j hj hd)
 ·rw[show (L.setIfInBounds g.c true).getD g.c false=true from iz (by omega),getD_set_ne false hne.1,getD_set_ne false hne.2,hsf];rw[hsf] at m4;refine⟨by simpa using hS,fun i hi'=>(h4 i (by simp[hi'])).trans (m2 i hi'),Nat.le_trans m3 h3,fun hda=>⟨(m4 hda).1,?_⟩⟩;simp only[hda,if_true] at h4;exact (h4 (A,g.d) (by simp)).trans (m4 hda).2
theorem sH.alloc {Ty:Types} (hT':aX P Ty) {t:TypeId} {ti:TI} {ty:TypeId} {pos:String} {af:Array Edge} (hi:ops.toList[g.a]?=some ⟨some g.d,.alloc t,ty,pos,af,none⟩) (hti:Ty t=some ti) (hob:g.ob0=⟨ti.zero.length,[ti.zero.map .v]⟩) {m c a st:Nat} (hn:(g.m,g.c,g.a,g.st)=(m,c,a,st)) (hk:(decide (a<m) && decide (a ≠ c/\a ≠ st))=true)
  (hB:∀ q ∈ g.B,g.d ≠ q.1:=by simp) (hF:∀ G A,∀ q ∈ g.an G A,g.d=q.2.1->q.1=g.a:=by intro G' A';simp) (hFA:∀ G A A',∀ q ∈ g.an G A',q.1 ≠ g.a->q.1 ∉ g.onA->q ∈ g.an G A:=by intro G' A1 A2;simp) (haa:g.a ∉ g.onA:=by simp) (hac:g.a ∉ g.onC:=by simp) (hst:g.st ∈ g.onA:=by simp)
  (hv:∀ G A,∀ q ∈ g.an G A,q.1=g.a->g.d=q.2.1/\q.2.2 = .ptr (A,g.d) 1 0 0:=by intro G' A';simp):np P N ops g.Inv g.a:=by
 simp only[Prod.mk.injEq] at hn;obtain⟨rfl,rfl,rfl,rfl⟩:=hn;simp only[Bool.and_eq_true,decide_eq_true_eq] at hk;obtain⟨hm,hne⟩:=hk;rw[Array.getElem?_toList] at hi;intro L s hI hr;obtain⟨hsz,hoc,hoa,G,A,hO,hT,hG,hM⟩:=hI;obtain⟨hu,o',ho',hdep⟩:=mem_ready.1 hr;rw[hi] at ho';cases ho';have hnd:¬ cy L g.a:=(lO (by omega)).2 hu;have hncd:∀ j ∈ g.onA,¬ cy L j:=fun j hj hd=>hnd (hoa j hj hd)
 refine⟨_,hi,rfl,?_⟩;have haf:L.getD g.a false=false:=by simpa[cy] using hnd
 have hsf:L.getD g.st false=false:=by simpa[cy] using hncd g.st hst
 obtain⟨m1,m2,m3,m4⟩:=hM;rw[haf] at m1;simp only[Bool.false_eq_true,if_false,List.nil_append] at m1;refine (rz hT' hti).mono ?_;rintro _ _ _ ⟨rfl,rfl,rfl⟩;refine⟨by simpa using hsz,fun j hj hd=>?_,fun j hj hd=>iz (by omega),G,s.2.2,hO.put (fun q hq e=>hB q hq (Option.some.inj e)),hT.put (fun q hq h5 h6=>hFA G A s.2.2 q hq h5 fun h7=>hncd _ h7 h6) (fun q hq e=>hF G _ q hq (Option.some.inj e)) (fun q hq e=>⟨congrArg some (hv G _ q hq e).1,(hv G _ q hq e).2⟩),fun hd=>hG (hd.set.resolve_left (Ne.symm hne.1)),?_⟩
 ·rcases hd.set with rfl | hd
  ·exact absurd hj hac
  ·exact cy.iH (hoc j hj hd)
 ·rw[show (L.setIfInBounds g.a true).getD g.a false=true from iz (by omega),getD_set_ne false hne.1,getD_set_ne false hne.2,hsf];refine⟨?_,fun i hi'=>?_,Nat.le_succ_of_le m3,fun _=>⟨m3,by simp[az.lk,hob]⟩⟩
  ·simpa using Sep.var (d:=g.d) (o:=⟨ti.zero.length,[ti.zero.map .v]⟩) m1
  ·exact (az.aJ _ _ (by rintro rfl;have:=m1.1 _ hi';simp at this)).trans (m2 i hi')
theorem sH.store {Ty:Types} (hT':aX P Ty) {t:TypeId} {x y:Operand} {ty:TypeId} {pos:String} {af:Array Edge} (hi:ops.toList[g.st]?=some ⟨none,.store t x y,ty,pos,af,none⟩) {m c a st:Nat} (hn:(g.m,g.c,g.a,g.st)=(m,c,a,st)) (hk:(decide (st<m) && decide (st ≠ c/\st ≠ a))=true) (hids:∀ i ∈ g.ids,i.1<g.n0)
  (hc:∃ e ∈ af,Region.binds .any e=true/\(e.on=g.c\/e.on ∈ g.onC)) (ha:∃ e ∈ af,Region.binds .any e=true/\(e.on=g.a\/e.on ∈ g.onA))
  (hs:∀ L O H G A,Old O g.B->Told L O (g.an G A)->(∀ e ∈ af,Region.binds .any e=true->cy L e.on)->g.RG G->H (A,g.d)=some g.ob0->bL (Ty t) (O.ev x) (aK (O.ev y)) H=some (H.set (A,g.d) (g.ob1 G))) (hF:∀ G A,∀ q ∈ g.an G A,q.1 ≠ g.st:=by intro G' A';simp):np P N ops g.Inv g.st:=by
 simp only[Prod.mk.injEq] at hn;obtain⟨rfl,rfl,rfl,rfl⟩:=hn;simp only[Bool.and_eq_true,decide_eq_true_eq] at hk;obtain⟨hm,hne⟩:=hk;rw[Array.getElem?_toList] at hi;intro L s hI hr;obtain⟨hsz,hoc,hoa,G,A,hO,hT,hG,hM⟩:=hI;obtain⟨hu,o',ho',hdep⟩:=mem_ready.1 hr;rw[hi] at ho';cases ho';have hnd:¬ cy L g.st:=(lO (by omega)).2 hu;have hsf:L.getD g.st false=false:=by simpa[cy] using hnd
 have hdc:cy L g.c:=by
  obtain⟨e,he,hb,h1 | h1⟩:=hc
  ·exact h1 ▸ hdep e he hb
  ·exact hoc _ h1 (hdep e he hb)
 have hda:cy L g.a:=by
  obtain⟨e,he,hb,h1 | h1⟩:=ha
  ·exact h1 ▸ hdep e he hb
  ·exact hoa _ h1 (hdep e he hb)
 refine⟨_,hi,rfl,?_⟩;obtain⟨m1,m2,m3,m4⟩:=hM;rw[hdc,hda] at m1;simp only[if_true] at m1;have hw:=(m4 hda).2;rw[hsf] at hw;simp only[Bool.false_eq_true,if_false] at hw;have hst:=hs L s.1 s.2.1 G A hO hT (fun e he hb=>hdep e he hb) (hG hdc) hw;have hnw:(A,g.d) ∉ g.ids:=fun hm'=>by have h1:=(m4 hda).1;have h2:=hids _ hm';simp only at h1 h2;omega
 refine (bb (P:=P) (N:=N) (o:=⟨none,.store t x y,ty,pos,af,none⟩) (v:=.undef) (H':=s.2.1.set (A,g.d) (g.ob1 G)) (n':=s.2.2) hT' (by rw[aZ];simp only[a6,hst])).mono ?_;rintro _ _ _ ⟨rfl,rfl,rfl⟩;refine⟨by simpa using hsz,fun j hj hd=>cy.iH hdc,fun j hj hd=>cy.iH hda,G,A,Old.put (d:=none) (v:=.undef) hO (fun q hq e=>by cases e),Told.put (d:=none) (v:=.undef) hT (fun q hq _ _=>hq) (fun q hq e=>by cases e) (fun q hq e=>absurd e (hF G A q hq)),fun hd=>hG hdc,?_⟩;rw[getD_set_ne false hne.1,getD_set_ne false hne.2,hdc,hda,show (L.setIfInBounds g.st true).getD g.st false=true from iz (by omega)];refine⟨Sep.eG (by simpa using m1) (by simp),fun i hi'=>?_,m3,fun _=>⟨(m4 hda).1,by simp[az.lk]⟩⟩;exact (az.aJ _ _ (by rintro rfl;exact hnw hi')).trans (m2 i hi')
theorem sH.AE {d:Option Tmp} {fo:Operand} {args:Array Operand} {ats:Array TypeId} {ty:TypeId} {pos:String} {af:Array Edge} (hi:ops.toList[g.c]?=some ⟨d,.call ⟨.value fo,args,ats⟩,ty,pos,af,none⟩) {m c a st:Nat} (hn:(g.m,g.c,g.a,g.st)=(m,c,a,st)) (hk:(decide (c<m) && decide (c ≠ a/\c ≠ st))=true) (he0:∀ G,g.ent G=[]) (hR:∀ G,g.RG G)
  (hs:∀ L O H n G A,Old O g.B->Told L O (g.an G A)->(∀ e ∈ af,Region.binds .any e=true->cy L e.on)->(∀ j ∈ g.ids,H j=g.H0 j)->Sep H n g.K g.ids ->
   ∃ v,aO P N ⟨d,.call ⟨.value fo,args,ats⟩,ty,pos,af,none⟩ (loc (.call ⟨.value fo,args,ats⟩) O) H n (tO v H n)/\∀ q ∈ g.an G A,q.1=g.c->d=some q.2.1/\q.2.2=v)
  (hB:∀ q ∈ g.B,d ≠ some q.1:=by simp) (hF:∀ G A,∀ q ∈ g.an G A,d=some q.2.1->q.1=g.c:=by intro G' A';simp) (hca:g.c ∉ g.onA:=by simp):np P N ops g.Inv g.c:=by
 simp only[Prod.mk.injEq] at hn;obtain⟨rfl,rfl,rfl,rfl⟩:=hn;simp only[Bool.and_eq_true,decide_eq_true_eq] at hk;obtain⟨hm,hne⟩:=hk;rw[Array.getElem?_toList] at hi;intro L s hI hr;obtain⟨hsz,hoc,hoa,G,A,hO,hT,hG,hM⟩:=hI;obtain⟨hu,o',ho',hdep⟩:=mem_ready.1 hr;rw[hi] at ho';cases ho';refine⟨_,hi,rfl,?_⟩;obtain⟨v,hop,hv⟩:=hs L s.1 s.2.1 s.2.2 G A hO hT (fun e he hb=>hdep e he hb) hM.2.1 hM.sep;apply hop.mono;rintro _ _ _ ⟨rfl,rfl,rfl⟩;refine⟨by simpa using hsz,fun j hj hd=>iz (by omega),fun j hj hd=>?_,G,A,Old.put hO hB,Told.put hT (fun q hq _ _=>hq) (hF G A) hv,fun _=>hR G,?_⟩
 ·rcases hd.set with rfl | hd
  ·exact absurd hj hca
  ·exact cy.iH (hoa j hj hd)
 ·rw[getD_set_ne false hne.1,getD_set_ne false hne.2];obtain⟨m1,m2,m3,m4⟩:=hM;refine⟨?_,m2,m3,m4⟩;rw[he0] at m1 ⊢;simpa using m1
theorem np.none {Inv:Array Bool->AS->Prop} {i:Nat} (h:ops[i]?=none):np P N ops Inv i:=fun L s hI hr=>by
 obtain⟨_,o,ho,_⟩:=mem_ready.1 hr;rw[h] at ho;cases ho
theorem lN {m j:Nat}:¬ cy (Array.replicate m false) j:=by
 simp only[cy,Array.getD_eq_getD_getElem?,Array.getElem?_replicate]
 split<;>simp
theorem sH.init {O:Env} (hB:Old O g.B) (hs:Sep g.H0 g.n0 g.K g.ids):g.Inv (Array.replicate g.m false) (O,g.H0,g.n0):=by
 have hf:∀ j,(Array.replicate g.m false).getD j false=false:=fun j=>by simpa[cy] using lN (m:=g.m) (j:=j)
 refine⟨by simp,fun j _ hd=>absurd hd lN,fun j _ hd=>absurd hd lN,[],0,hB,fun q _ hd=>absurd hd lN,fun hd=>absurd hd lN,?_⟩;rw[hf,hf,hf];exact⟨by simpa using hs,fun _ _=>rfl,Nat.le_refl _,fun h=>by cases h⟩
def acycR (ops:Array Oper):Bool:=(List.range ops.size).all fun i=>match ops[i]? with
 | some o=>o.after.all fun e => !(Region.binds .any e) || decide (e.on<i)
 | none=>true
theorem sH.fin (ha:acycR ops=true) (hm:ops.size=g.m) (hc:g.c<g.m/\g.a<g.m/\g.st<g.m) (hF:∀ G A,∀ q ∈ g.an G A,q.1<g.m) {L:Array Bool} {s:AS} (hI:g.Inv L s) (hr:Region.ready .any ops L=[]) :
  ∃ (G:List au) (A:Nat),Old s.1 g.B/\Fc s.1 (g.an G A)/\g.RG G/\Sep s.2.1 s.2.2 (g.ent G++g.K) ((A,g.d)::g.ids)/\(∀ i ∈ g.ids,s.2.1 i=g.H0 i)/\g.n0<=s.2.2/\g.n0<=A/\s.2.1 (A,g.d)=some (g.ob1 G):=by
 obtain⟨hsz,hoc,hoa,G,A,hO,hT,hG,hM⟩:=hI;have all:∀ (q:Nat) (j:Nat),j<=q->j<g.m->cy L j:=by
  intro q
  induction q with
  | zero=>
   intro j hj hlt;refine Classical.byContradiction fun hn=>?_
   have hu:=(lO (by omega)).1 hn;obtain⟨o,ho⟩:∃ o,ops[j]?=some o:=⟨ops[j]'(by omega),by simp[hm,hlt]⟩
   have hin:j ∈ Region.ready .any ops L:=mem_ready.2 ⟨hu,o,ho,fun e he hb=>by
    have h1:=List.all_eq_true.1 ha j (List.mem_range.2 (by omega));rw[ho] at h1;have h2:=Array.all_eq_true'.1 h1 e he;simp only[hb,Bool.not_true,Bool.false_or,decide_eq_true_eq] at h2;omega⟩
   rw[hr] at hin;cases hin
  | succ q ih=>
   intro j hj hlt;refine Classical.byContradiction fun hn=>?_
   have hu:=(lO (by omega)).1 hn;obtain⟨o,ho⟩:∃ o,ops[j]?=some o:=⟨ops[j]'(by omega),by simp[hm,hlt]⟩
   have hin:j ∈ Region.ready .any ops L:=mem_ready.2 ⟨hu,o,ho,fun e he hb=>by
    have h1:=List.all_eq_true.1 ha j (List.mem_range.2 (by omega));rw[ho] at h1;have h2:=Array.all_eq_true'.1 h1 e he;simp only[hb,Bool.not_true,Bool.false_or,decide_eq_true_eq] at h2;exact ih e.on (by omega) (by omega)⟩
   rw[hr] at hin;cases hin
 have dc:=all _ g.c (Nat.le_refl _) hc.1;have da:=all _ g.a (Nat.le_refl _) hc.2.1;have ds:=all _ g.st (Nat.le_refl _) hc.2.2;obtain⟨m1,m2,m3,m4⟩:=hM;rw[dc,da] at m1;have h4:=m4 da;rw[ds] at h4;refine⟨G,A,hO,fun q hq=>hT q hq (all _ _ (Nat.le_refl _) (hF G A q hq)),hG dc,by simpa using m1,m2,m3,h4.1,by simpa using h4.2⟩
end
def gv (G:List au) (i:Nat):au:=G.getD i .undef
@[simp] theorem gv_zero (a : au) (l : List au) : gv (a :: l) 0 = a := rfl
@[simp] theorem gv_succ (a : au) (l : List au) (i : Nat) : gv (a :: l) (i + 1) = gv l i := by simp [gv]
theorem Old.nil {O:Env}:Old O []:=fun q hq=>by cases hq
theorem Old.cons {O:Env} {t:Nat} {v:au} {B:List (Nat × au)} (h:O t=v) (hb:Old O B):Old O ((t,v)::B):=fun q hq=>by
 rcases List.mem_cons.1 hq with rfl | hq
 ·exact h
 ·exact hb q hq
theorem aO.Dh {P:Program} {N:Nat} {O:Env} {H:az} {n:Nat} {d:Option Tmp} {g:Operand} {args:Array Operand} {ats:Array TypeId} {ty:TypeId} {pos:String} {af:Array Edge} {gu:Option (Nat × Bool)} {v:au} {f:FuncId} {xs ct:List au}
  (h:aB P f ct (fun r=>r=v)) (cK:aW P f) (ha:dw H n xs ct) (hg:O.ev g = .fn (.func f) [] []) (has:args.toList.map O.ev=xs) :
  aO P N ⟨d,.call ⟨.value g,args,ats⟩,ty,pos,af,gu⟩ (loc (.call ⟨.value g,args,ats⟩) O) H n (tO v H n):=aO.C7 hg cK (has ▸ ha) h
end Go.Ab
namespace Go.Ab
open Go.Proofs
theorem zA {f:FuncId} {N:Nat} {k:List Item} {Q:au -> az -> Nat -> Prop} {l:List Oper} {O:Env} {H:az} {n:Nat} {d:Option Tmp} {g:Operand} {args:Array Operand} {ats:Array TypeId} {ty:TypeId} {pos:String} {af:Array Edge} {R:au -> Prop} {f':FuncId} {xs ys:List au} {ops:List Oper}
 (h:aB prog f' ys R) (cK:aW prog f') (ha:dw H n xs ys) (has:args.toList.map O.ev=xs) (hk:∀ v,R v -> bR prog f N k Q Ty ops.toArray l (O.put d v) H n) (hN:ops.all (fun o=>dM N o.dst)=true:=by decide) (hl:(⟨d,.call ⟨.value g,args,ats⟩,ty,pos,af,none⟩::l:List Oper).all (fun o=>dM N o.dst)=true:=by decide) (hg:O.ev g=.fn (.func f') [] []:=by rfl):
 bE prog f N k Q ops.toArray (⟨d,.call ⟨.value g,args,ats⟩,ty,pos,af,none⟩::l) O H n:=bE.cd aH h cK ha hN hl hg has hk
end Go.Ab
namespace Go.Ab
open Go.Proofs
theorem zW {f:FuncId} {N:Nat} {k:List Item} {Q:au -> az -> Nat -> Prop} {l:List Oper} {O:Env} {H:az} {n:Nat} {K:List bf} {ids:List Id} {d:Option Tmp} {g:Operand} {args:Array Operand} {ats:Array TypeId} {ty:TypeId} {pos:String} {af:Array Edge} {R:au -> Prop} {f':FuncId} {xs ys:List au} {ops:List Oper} {sh:Sh}
 (h:br prog f' ys sh R) (cK:aW prog f') (ha:dw H n xs ys) (hs:Sep H n K ids) (has:args.toList.map O.ev=xs) (hk:∀ v H1 U r,Sep H1 U ((sh,v,r)::K) ids -> R r -> n <= U -> (∀ i ∈ ids,H1 i=H i) -> bR prog f N k Q Ty ops.toArray l (O.put d v) H1 U) (hN:ops.all (fun o=>dM N o.dst)=true:=by decide) (hl:(⟨d,.call ⟨.value g,args,ats⟩,ty,pos,af,none⟩::l:List Oper).all (fun o=>dM N o.dst)=true:=by decide) (hg:O.ev g=.fn (.func f') [] []:=by rfl):
 bE prog f N k Q ops.toArray (⟨d,.call ⟨.value g,args,ats⟩,ty,pos,af,none⟩::l) O H n:=bE.o7 aH h cK ha hs hN hl hg has hk
end Go.Ab
namespace Go.Ab
open Go.Proofs
theorem zS {f:FuncId} {N:Nat} {k:List Item} {Q:au -> az -> Nat -> Prop} {O:Env} {H:az} {n:Nat} {id:Nat} {ops:List Oper} {y z:Code} (h:∀ k':List Item,(∀ O H n,J prog f N (.code y::.code z::k) O H n Q -> J prog f N k' O H n Q) -> bR prog f N k' Q Ty ops.toArray ops O H n) (hN:ops.all (fun o=>dM N o.dst)=true:=by decide):J prog f N (.code (.seq (.seq (.region id ops.toArray false) y) z)::k) O H n Q:=J.seq (zE h hN)
theorem zI {f:FuncId} {N:Nat} {k:List Item} {Q:au -> az -> Nat -> Prop} {O:Env} {H:az} {n:Nat} {id j:Nat} {ops:List Oper} (h:∀ k':List Item,(∀ O H n,J prog f N k O H n Q -> J prog f N k' O H n Q) -> bR prog f N k' Q Ty ops.toArray ops O H n) (hN:ops.all (fun o=>dM N o.dst)=true:=by decide):J prog f N (.inBlock j::.code (.region id ops.toArray false)::k) O H n Q:=J.inBlock (zF h hN)
theorem zK {f:FuncId} {N:Nat} {k:List Item} {Q:au -> az -> Nat -> Prop} {O:Env} {H:az} {n:Nat} {y z:Code} (h:J prog f N (.code y::.code z::k) O H n Q):J prog f N (.code .skip::.code (.seq y z)::k) O H n Q:=J.skip (J.seq h)
end Go.Ab
