/- Merged texts (4 of 18) of the proof that ends in Mhy: Ty X P So Sx. -/
import Derived.Test.YtehcknfedbjaaaaGreatDoorAbQmh3
import Derived.Test.YtehcknfedbjaaaaGreatDoorProg
import Derived.KernelRfl
import Derived.Shelf.Sort.Plain
set_option linter.unusedSectionVars false
set_option linter.unusedSimpArgs false
set_option linter.unusedVariables false
open Go.Proofs.Tryz
namespace Go.Ab
open Go.Proofs
theorem cu.of {P:Program} {t:TypeId} {s b:Nat} {z:List Value} (h:(P.underlying t).isSome=true) (h2:(P.info? t).map (fun i=>(i.size,i.bytes,i.zero.map Value.cells))=some (s,b,some z.toArray)):cu P t ⟨(P.underlying t).getD .invalid,s,b,z⟩:=by
 refine⟨?_,?_⟩
 ·cases hu:P.underlying t with
  | none=>simp[hu] at h
  | some d=>rfl
 cases hi:P.info? t with
 | none=>simp[hi] at h2
 | some info=>
  simp only[hi,Option.map_some,Option.some.injEq,Prod.mk.injEq,Option.map_eq_some_iff] at h2;obtain⟨h3,h4,zv,h5,h6⟩:=h2;exact⟨info,zv,rfl,h3,h4,h5,h6⟩
noncomputable def qT:TI:=⟨(Tryz.prog.underlying 3).getD .invalid,1,8,[.int .i64 0]⟩
noncomputable def II:TI:=⟨(Tryz.prog.underlying 4).getD .invalid,1,1,[.bool false]⟩
noncomputable def IM:TI:=⟨(Tryz.prog.underlying 5).getD .invalid,1,1,[.int .u8 0]⟩
noncomputable def DK:TI:=⟨(Tryz.prog.underlying 9).getD .invalid,1,16,[.string ⟨#[]⟩]⟩
noncomputable def C4:TI:=⟨(Tryz.prog.underlying 21).getD .invalid,1,4,[.int .i32 0]⟩
noncomputable def By:TI:=⟨(Tryz.prog.underlying 22).getD .invalid,1,24,[.slice none 0 0]⟩
noncomputable def zb:TI:=⟨(Tryz.prog.underlying 23).getD .invalid,1,24,[.slice none 0 0]⟩
noncomputable def pU:TI:=⟨(Tryz.prog.underlying 24).getD .invalid,1,24,[.slice none 0 0]⟩
noncomputable def yF:TI:=⟨(Tryz.prog.underlying 25).getD .invalid,1,24,[.slice none 0 0]⟩
noncomputable def AH:TI:=⟨(Tryz.prog.underlying 26).getD .invalid,1,24,[.slice none 0 0]⟩
noncomputable def Da:TI:=⟨(Tryz.prog.underlying 28).getD .invalid,6,112,[.int .i64 0,.slice none 0 0,.slice none 0 0,.int .i64 0,.slice none 0 0,.slice none 0 0]⟩
noncomputable def BJ:TI:=⟨(Tryz.prog.underlying 34).getD .invalid,1,24,[.slice none 0 0]⟩
noncomputable def zz:TI:=⟨(Tryz.prog.underlying 36).getD .invalid,1,24,[.slice none 0 0]⟩
noncomputable def zj:TI:=⟨(Tryz.prog.underlying 37).getD .invalid,1,24,[.slice none 0 0]⟩
noncomputable def BD:TI:=⟨(Tryz.prog.underlying 39).getD .invalid,6,112,[.int .i64 0,.slice none 0 0,.slice none 0 0,.int .i64 0,.slice none 0 0,.slice none 0 0]⟩
noncomputable def Dc:TI:=⟨(Tryz.prog.underlying 49).getD .invalid,2,48,[.slice none 0 0,.slice none 0 0]⟩
noncomputable def BE:TI:=⟨(Tryz.prog.underlying 53).getD .invalid,2,48,[.slice none 0 0,.slice none 0 0]⟩
noncomputable def zq:TI:=⟨(Tryz.prog.underlying 60).getD .invalid,3,32,[.string ⟨#[]⟩,.int .i64 0,.int .i64 0]⟩
noncomputable def z8:TI:=⟨(Tryz.prog.underlying 70).getD .invalid,3,32,[.string ⟨#[]⟩,.int .i64 0,.int .i64 0]⟩
noncomputable def Ah:TI:=⟨(Tryz.prog.underlying 94).getD .invalid,3,40,[.int .i64 0,.int .i64 0,.slice none 0 0]⟩
noncomputable def A7:TI:=⟨(Tryz.prog.underlying 97).getD .invalid,2,24,[.string ⟨#[]⟩,.int .i64 0]⟩
noncomputable def rT:TI:=⟨(Tryz.prog.underlying 100).getD .invalid,3,40,[.int .i64 0,.int .i64 0,.slice none 0 0]⟩
noncomputable def rW:TI:=⟨(Tryz.prog.underlying 102).getD .invalid,2,24,[.string ⟨#[]⟩,.int .i64 0]⟩
noncomputable def tU:TI:=⟨(Tryz.prog.underlying 107).getD .invalid,1,8,[.int .u64 0]⟩
noncomputable def ub:TI:=⟨(Tryz.prog.underlying 112).getD .invalid,1,24,[.slice none 0 0]⟩
noncomputable def uU:TI:=⟨(Tryz.prog.underlying 119).getD .invalid,1,24,[.slice none 0 0]⟩
noncomputable def tx:TI:=⟨(Tryz.prog.underlying 168).getD .invalid,1,24,[.slice none 0 0]⟩
noncomputable def rZ:TI:=⟨(Tryz.prog.underlying 193).getD .invalid,2,16,[.int .i64 0,.int .i64 0]⟩
noncomputable def tyL:List (Nat × TI):=[(3,qT),(4,II),(5,IM),(9,DK),(21,C4),(22,By),(23,zb),(24,pU),(25,yF),(26,AH),(28,Da),(34,BJ),(36,zz),(37,zj),(39,BD),(49,Dc),(53,BE),(60,zq),(70,z8),(94,Ah),(97,A7),(100,rT),(102,rW),(107,tU),(112,ub),(119,uU),(168,tx),(193,rZ)]
noncomputable def Ty:Types:=fun t=>(tyL.find? (fun p=>p.1 == t)).map (·.2)
theorem ok3:cu prog 3 qT:=cu.of (by kernel_rfl) (by kernel_rfl)
theorem Ty_3:Ty 3=some qT:=by kernel_rfl
theorem HG:qT.size=1:=rfl
theorem Fu:qT.bytes=8:=rfl
theorem Ht:qT.zero=[.int .i64 0]:=rfl
theorem Ig:qT.isAgg=false:=by kernel_rfl
theorem kd_3:kd Ty 3 = .int .i64:=by kernel_rfl
theorem ok4:cu prog 4 II:=cu.of (by kernel_rfl) (by kernel_rfl)
theorem Ty_4:Ty 4=some II:=by kernel_rfl
theorem Hz:II.size=1:=rfl
theorem Fj:II.bytes=1:=rfl
theorem Hd:II.zero=[.bool false]:=rfl
theorem Iq:II.isAgg=false:=by kernel_rfl
theorem kd_4:kd Ty 4 = .bool:=by kernel_rfl
theorem ok5:cu prog 5 IM:=cu.of (by kernel_rfl) (by kernel_rfl)
theorem Ty_5:Ty 5=some IM:=by kernel_rfl
theorem GZ:IM.size=1:=rfl
theorem F1:IM.bytes=1:=rfl
theorem GD:IM.zero=[.int .u8 0]:=rfl
theorem Iz:IM.isAgg=false:=by kernel_rfl
theorem kd_5:kd Ty 5 = .int .u8:=by kernel_rfl
theorem ok9:cu prog 9 DK:=cu.of (by kernel_rfl) (by kernel_rfl)
theorem Ty_9:Ty 9=some DK:=by kernel_rfl
theorem F8:DK.size=1:=rfl
theorem Eo:DK.bytes=16:=rfl
theorem GP:DK.zero=[.string ⟨#[]⟩]:=rfl
theorem HZ:DK.isAgg=false:=by kernel_rfl
theorem HX:kd Ty 9 = .string:=by kernel_rfl
theorem ok21:cu prog 21 C4:=cu.of (by kernel_rfl) (by kernel_rfl)
theorem IS:Ty 21=some C4:=by kernel_rfl
theorem DZ:C4.size=1:=rfl
theorem CQ:C4.bytes=4:=rfl
theorem EG:C4.zero=[.int .i32 0]:=rfl
theorem Gk:C4.isAgg=false:=by kernel_rfl
theorem kd_21:kd Ty 21 = .int .i32:=by kernel_rfl
theorem ok22:cu prog 22 By:=cu.of (by kernel_rfl) (by kernel_rfl)
theorem Ty_22:Ty 22=some By:=by kernel_rfl
theorem FQ:By.size=1:=rfl
theorem Cw:By.bytes=24:=rfl
theorem EP:By.zero=[.slice none 0 0]:=rfl
theorem HB:By.isAgg=false:=by kernel_rfl
theorem DM:kd Ty 22 = .slice zq:=by kernel_rfl
theorem ok23:cu prog 23 zb:=cu.of (by kernel_rfl) (by kernel_rfl)
theorem Ty_23:Ty 23=some zb:=by kernel_rfl
theorem D2:zb.size=1:=rfl
theorem BI:zb.bytes=24:=rfl
theorem E5:zb.zero=[.slice none 0 0]:=rfl
theorem Ge:zb.isAgg=false:=by kernel_rfl
theorem Dt:kd Ty 23 = .slice Ah:=by kernel_rfl
theorem ok24:cu prog 24 pU:=cu.of (by kernel_rfl) (by kernel_rfl)
theorem Ty_24:Ty 24=some pU:=by kernel_rfl
theorem FU:pU.size=1:=rfl
theorem Bn:pU.bytes=24:=rfl
theorem En:pU.zero=[.slice none 0 0]:=rfl
theorem F9:pU.isAgg=false:=by kernel_rfl
theorem aV:kd Ty 24 = .slice qT:=by kernel_rfl
theorem ok25:cu prog 25 yF:=cu.of (by kernel_rfl) (by kernel_rfl)
theorem Ty_25:Ty 25=some yF:=by kernel_rfl
theorem FR:yF.size=1:=rfl
theorem CL:yF.bytes=24:=rfl
theorem D6:yF.zero=[.slice none 0 0]:=rfl
theorem Hw:yF.isAgg=false:=by kernel_rfl
theorem bY:kd Ty 25 = .slice DK:=by kernel_rfl
theorem ok26:cu prog 26 AH:=cu.of (by kernel_rfl) (by kernel_rfl)
theorem Ty_26:Ty 26=some AH:=by kernel_rfl
theorem Fs:AH.size=1:=rfl
theorem B9:AH.bytes=24:=rfl
theorem E9:AH.zero=[.slice none 0 0]:=rfl
theorem Hl:AH.isAgg=false:=by kernel_rfl
theorem DB:kd Ty 26 = .slice A7:=by kernel_rfl
theorem ok28:cu prog 28 Da:=cu.of (by kernel_rfl) (by kernel_rfl)
theorem Ty_28:Ty 28=some Da:=by kernel_rfl
theorem Fp:Da.size=6:=rfl
theorem Bo:Da.bytes=112:=rfl
theorem FJ:Da.zero=[.int .i64 0,.slice none 0 0,.slice none 0 0,.int .i64 0,.slice none 0 0,.slice none 0 0]:=rfl
theorem GL:Da.isAgg=true:=by kernel_rfl
theorem kd_28:kd Ty 28 = .struct [(0,qT),(1,zb),(2,pU),(3,qT),(4,yF),(5,AH)]:=by kernel_rfl
theorem ok34:cu prog 34 BJ:=cu.of (by kernel_rfl) (by kernel_rfl)
theorem Ty_34:Ty 34=some BJ:=by kernel_rfl
theorem EZ:BJ.size=1:=rfl
theorem BX:BJ.bytes=24:=rfl
theorem DU:BJ.zero=[.slice none 0 0]:=rfl
theorem HJ:BJ.isAgg=false:=by kernel_rfl
theorem wH:kd Ty 34 = .slice z8:=by kernel_rfl
theorem ok36:cu prog 36 zz:=cu.of (by kernel_rfl) (by kernel_rfl)
theorem Ty_36:Ty 36=some zz:=by kernel_rfl
theorem Ev:zz.size=1:=rfl
theorem Cs:zz.bytes=24:=rfl
theorem FO:zz.zero=[.slice none 0 0]:=rfl
theorem Gf:zz.isAgg=false:=by kernel_rfl
theorem bH:kd Ty 36 = .slice rT:=by kernel_rfl
theorem ok37:cu prog 37 zj:=cu.of (by kernel_rfl) (by kernel_rfl)
theorem Ty_37:Ty 37=some zj:=by kernel_rfl
theorem DX:zj.size=1:=rfl
theorem CH:zj.bytes=24:=rfl
theorem ED:zj.zero=[.slice none 0 0]:=rfl
theorem HN:zj.isAgg=false:=by kernel_rfl
theorem dt:kd Ty 37 = .slice rW:=by kernel_rfl
theorem ok39:cu prog 39 BD:=cu.of (by kernel_rfl) (by kernel_rfl)
theorem r0:Ty 39=some BD:=by kernel_rfl
theorem Fb:BD.size=6:=rfl
theorem CD:BD.bytes=112:=rfl
theorem D7:BD.zero=[.int .i64 0,.slice none 0 0,.slice none 0 0,.int .i64 0,.slice none 0 0,.slice none 0 0]:=rfl
theorem GK:BD.isAgg=true:=by kernel_rfl
theorem kd_39:kd Ty 39 = .struct [(0,qT),(1,zz),(2,pU),(3,qT),(4,yF),(5,zj)]:=by kernel_rfl
theorem ok49:cu prog 49 Dc:=cu.of (by kernel_rfl) (by kernel_rfl)
theorem Ty_49:Ty 49=some Dc:=by kernel_rfl
theorem E0:Dc.size=2:=rfl
theorem CU:Dc.bytes=48:=rfl
theorem FF:Dc.zero=[.slice none 0 0,.slice none 0 0]:=rfl
theorem Gh:Dc.isAgg=true:=by kernel_rfl
theorem kd_49:kd Ty 49 = .struct [(0,pU),(1,pU)]:=by kernel_rfl
theorem ok53:cu prog 53 BE:=cu.of (by kernel_rfl) (by kernel_rfl)
theorem Ty_53:Ty 53=some BE:=by kernel_rfl
theorem FL:BE.size=2:=rfl
theorem CW:BE.bytes=48:=rfl
theorem Es:BE.zero=[.slice none 0 0,.slice none 0 0]:=rfl
theorem Gc:BE.isAgg=true:=by kernel_rfl
theorem kd_53:kd Ty 53 = .struct [(0,pU),(1,pU)]:=by kernel_rfl
theorem ok60:cu prog 60 zq:=cu.of (by kernel_rfl) (by kernel_rfl)
theorem Ty_60:Ty 60=some zq:=by kernel_rfl
theorem FZ:zq.size=3:=rfl
theorem C7:zq.bytes=32:=rfl
theorem ET:zq.zero=[.string ⟨#[]⟩,.int .i64 0,.int .i64 0]:=rfl
theorem Ho:zq.isAgg=true:=by kernel_rfl
theorem kd_60:kd Ty 60 = .struct [(0,DK),(1,qT),(2,qT)]:=by kernel_rfl
theorem ok70:cu prog 70 z8:=cu.of (by kernel_rfl) (by kernel_rfl)
theorem IJ:Ty 70=some z8:=by kernel_rfl
theorem FX:z8.size=3:=rfl
theorem CF:z8.bytes=32:=rfl
theorem EL:z8.zero=[.string ⟨#[]⟩,.int .i64 0,.int .i64 0]:=rfl
theorem GM:z8.isAgg=true:=by kernel_rfl
theorem kd_70:kd Ty 70 = .struct [(0,DK),(1,qT),(2,qT)]:=by kernel_rfl
theorem ok94:cu prog 94 Ah:=cu.of (by kernel_rfl) (by kernel_rfl)
theorem Ty_94:Ty 94=some Ah:=by kernel_rfl
theorem Ee:Ah.size=3:=rfl
theorem CO:Ah.bytes=40:=rfl
theorem Fq:Ah.zero=[.int .i64 0,.int .i64 0,.slice none 0 0]:=rfl
theorem Gb:Ah.isAgg=true:=by kernel_rfl
theorem kd_94:kd Ty 94 = .struct [(0,qT),(1,qT),(2,pU)]:=by kernel_rfl
theorem ok97:cu prog 97 A7:=cu.of (by kernel_rfl) (by kernel_rfl)
theorem Ty_97:Ty 97=some A7:=by kernel_rfl
theorem E1:A7.size=2:=rfl
theorem CG:A7.bytes=24:=rfl
theorem FK:A7.zero=[.string ⟨#[]⟩,.int .i64 0]:=rfl
theorem GV:A7.isAgg=true:=by kernel_rfl
theorem kd_97:kd Ty 97 = .struct [(0,DK),(1,qT)]:=by kernel_rfl
theorem ok100:cu prog 100 rT:=cu.of (by kernel_rfl) (by kernel_rfl)
theorem xh:Ty 100=some rT:=by kernel_rfl
theorem BU:rT.size=3:=rfl
theorem A6:rT.bytes=40:=rfl
theorem Bq:rT.zero=[.int .i64 0,.int .i64 0,.slice none 0 0]:=rfl
theorem Ff:rT.isAgg=true:=by kernel_rfl
theorem kd_100:kd Ty 100 = .struct [(0,qT),(1,qT),(2,pU)]:=by kernel_rfl
theorem ok102:cu prog 102 rW:=cu.of (by kernel_rfl) (by kernel_rfl)
theorem HP:Ty 102=some rW:=by kernel_rfl
theorem BA:rW.size=2:=rfl
theorem zx:rW.bytes=24:=rfl
theorem Cm:rW.zero=[.string ⟨#[]⟩,.int .i64 0]:=rfl
theorem EK:rW.isAgg=true:=by kernel_rfl
theorem kd_102:kd Ty 102 = .struct [(0,DK),(1,qT)]:=by kernel_rfl
theorem ok107:cu prog 107 tU:=cu.of (by kernel_rfl) (by kernel_rfl)
theorem Ty_107:Ty 107=some tU:=by kernel_rfl
theorem C1:tU.size=1:=rfl
theorem A3:tU.bytes=8:=rfl
theorem BP:tU.zero=[.int .u64 0]:=rfl
theorem Fk:tU.isAgg=false:=by kernel_rfl
theorem kd_107:kd Ty 107 = .int .u64:=by kernel_rfl
theorem ok112:cu prog 112 ub:=cu.of (by kernel_rfl) (by kernel_rfl)
theorem Ty_112:Ty 112=some ub:=by kernel_rfl
theorem Cx:ub.size=1:=rfl
theorem AA:ub.bytes=24:=rfl
theorem BB:ub.zero=[.slice none 0 0]:=rfl
theorem FM:ub.isAgg=false:=by kernel_rfl
theorem HM:kd Ty 112 = .slice IM:=by kernel_rfl
theorem ok119:cu prog 119 uU:=cu.of (by kernel_rfl) (by kernel_rfl)
theorem Ty_119:Ty 119=some uU:=by kernel_rfl
theorem Bp:uU.size=1:=rfl
theorem y8:uU.bytes=24:=rfl
theorem Ce:uU.zero=[.slice none 0 0]:=rfl
theorem E2:uU.isAgg=false:=by kernel_rfl
theorem nC:kd Ty 119 = .slice II:=by kernel_rfl
theorem ok168:cu prog 168 tx:=cu.of (by kernel_rfl) (by kernel_rfl)
theorem Ty_168:Ty 168=some tx:=by kernel_rfl
theorem CA:tx.size=1:=rfl
theorem zh:tx.bytes=24:=rfl
theorem Cc:tx.zero=[.slice none 0 0]:=rfl
theorem Fl:tx.isAgg=false:=by kernel_rfl
theorem fp:kd Ty 168 = .slice rZ:=by kernel_rfl
theorem ok193:cu prog 193 rZ:=cu.of (by kernel_rfl) (by kernel_rfl)
theorem Ty_193:Ty 193=some rZ:=by kernel_rfl
theorem CR:rZ.size=2:=rfl
theorem zi:rZ.bytes=16:=rfl
theorem BN:rZ.zero=[.int .i64 0,.int .i64 0]:=rfl
theorem Ed:rZ.isAgg=true:=by kernel_rfl
theorem rM:kd Ty 193 = .arr 2 qT:=by kernel_rfl
theorem aB:bg prog Ty:=by
 have h:∀ p ∈ tyL,cu prog p.1 p.2:=by
  refine List.forall_mem_cons.2 ⟨ok3,?_⟩;refine List.forall_mem_cons.2 ⟨ok4,?_⟩;refine List.forall_mem_cons.2 ⟨ok5,?_⟩;refine List.forall_mem_cons.2 ⟨ok9,?_⟩;refine List.forall_mem_cons.2 ⟨ok21,?_⟩;refine List.forall_mem_cons.2 ⟨ok22,?_⟩;refine List.forall_mem_cons.2 ⟨ok23,?_⟩;refine List.forall_mem_cons.2 ⟨ok24,?_⟩;refine List.forall_mem_cons.2 ⟨ok25,?_⟩;refine List.forall_mem_cons.2 ⟨ok26,?_⟩;refine List.forall_mem_cons.2 ⟨ok28,?_⟩;refine List.forall_mem_cons.2 ⟨ok34,?_⟩;refine List.forall_mem_cons.2 ⟨ok36,?_⟩;refine List.forall_mem_cons.2 ⟨ok37,?_⟩;refine List.forall_mem_cons.2 ⟨ok39,?_⟩;refine List.forall_mem_cons.2 ⟨ok49,?_⟩;refine List.forall_mem_cons.2 ⟨ok53,?_⟩;refine List.forall_mem_cons.2 ⟨ok60,?_⟩;refine List.forall_mem_cons.2 ⟨ok70,?_⟩;refine List.forall_mem_cons.2 ⟨ok94,?_⟩;refine List.forall_mem_cons.2 ⟨ok97,?_⟩;refine List.forall_mem_cons.2 ⟨ok100,?_⟩;refine List.forall_mem_cons.2 ⟨ok102,?_⟩;refine List.forall_mem_cons.2 ⟨ok107,?_⟩;refine List.forall_mem_cons.2 ⟨ok112,?_⟩;refine List.forall_mem_cons.2 ⟨ok119,?_⟩;refine List.forall_mem_cons.2 ⟨ok168,?_⟩;refine List.forall_mem_cons.2 ⟨ok193,?_⟩;simp
 intro t i hi;unfold Ty at hi;cases hf:tyL.find? (fun p=>p.1 == t) with
 | none=>simp[hf] at hi
 | some p=>
  simp only[hf,Option.map_some,Option.some.injEq] at hi;have h1:=List.find?_some hf;have h2:=h p (List.mem_of_find?_eq_some hf);simp only[beq_iff_eq] at h1;rw[<- h1,<- hi];exact h2
attribute [simp] HG Hz GZ F8 DZ FQ D2 FU FR Fs Fp EZ Ev DX Fb E0 FL FZ FX Ee E1 BU BA C1 Cx Bp CA CR Ig Iq Iz HZ Gk HB Ge F9 Hw Hl GL HJ Gf HN GK Gh Gc Ho GM Gb GV Ff EK Fk FM E2 Fl Ed Ht Hd GD GP EG EP E5 En D6 E9 FJ DU FO ED D7 FF Es ET EL Fq FK Bq Cm BP BB Ce Cc BN Ty_3 Ty_4 Ty_5 Ty_9 IS Ty_22 Ty_23 Ty_24 Ty_25 Ty_26 Ty_28 Ty_34 Ty_36 Ty_37 r0 Ty_49 Ty_53 Ty_60 IJ Ty_94 Ty_97 xh HP Ty_107 Ty_112 Ty_119 Ty_168 Ty_193 kd_3 kd_4 kd_5 HX kd_21 DM Dt aV bY DB kd_28 wH bH dt kd_39 kd_49 kd_53 kd_60 kd_70 kd_94 kd_97 kd_100 kd_102 kd_107 HM nC fp rM Fu Fj F1 Eo CQ Cw BI Bn CL B9 Bo BX Cs CH CD CU CW C7 CF CO CG A6 zx A3 AA y8 zh zi
end Go.Ab
namespace Go.Ab
open Go.Proofs
section
variable {f:FuncId} {N:Nat} {k:List Item} {O:Env} {H:ax} {n:Nat} {Q:au->ax->Nat->Prop} {id:Nat} {ops:List Oper} {y:Code}
theorem zE (h:∀ k':List Item,(∀ O H n,J prog f N (.code y::k) O H n Q->J prog f N k' O H n Q)->cB prog f N k' Q Ty ops.toArray ops O H n) (hN:ops.all (fun o=>eF N o.dst)=true:=by decide):J prog f N (.code (.seq (.region id ops.toArray false) y)::k) O H n Q:=J.seqE aB hN h
theorem zF (h:∀ k':List Item,(∀ O H n,J prog f N k O H n Q->J prog f N k' O H n Q)->cB prog f N k' Q Ty ops.toArray ops O H n) (hN:ops.all (fun o=>eF N o.dst)=true:=by decide):J prog f N (.code (.region id ops.toArray false)::k) O H n Q:=J.evalE aB hN h
end
def within (n lo hi:Int):Bool:=decide (lo<=n) && decide (n<=hi)
theorem eE (n lo hi:Int):aF prog 148 [int n,int lo,int hi] (fun r=>r=bool (within n lo hi)):=by
 refine aF.of func148 rfl ntmps148 (by simp) fun Q hQ=>?_
 refine zE fun _ V=>?_
 simp;refine V _ _ _ (zE fun _ V=>?_);simp
 by_cases h:lo<=n
 all_goals
  simp[h];refine V _ _ _ (J.ret func148 (aU.one results148) (hQ _ _ _ _ (qo.v _ _ _) ?_));simp[within,h]
structure HV where
 kind:Int
 name:a6
 parent:Int
 deriving Inhabited,DecidableEq
abbrev Proc:=List HV
end Go.Ab
namespace Go.Ab
open Go.Proofs
theorem bZ:Tryz.prog.follows .mixedOrders=true:=by kernel_rfl
theorem vz:a8 prog 148:=a8.of func148 (by kernel_rfl) rfl
def ib (t:Bool) (l:List a6):au:=.list t (l.map fun s=>[str s])
end Go.Ab
namespace Go.Ab
open Go.Proofs Go.RowKit
theorem lW {α:Type} {enc:α->Value} [Inhabited α] {off:Nat} {d:Array α} {cl:Array Value} (k:Nat) :
  (Sort.putCells enc off d cl)[k]?=(cl[k]?).map fun x=>if off<=k/\k<off+d.size then enc d[k - off]! else x:=by
 simp only[Sort.putCells,Array.getElem?_mapIdx]
theorem uK {c:Ctx} (g:Good c) {id:Id} {ss ss':List a6} (ho:c.H id=some ⟨1,ss.map fun s=>[str s]⟩) (hl:ss'.length=ss.length) (off:Nat) (dE:off=0\/ss'=[]) (m:Nat) (os:Array Obj) :
  let c':Ctx:={ c with H:=c.H.set id ⟨1,ss'.map fun s=>[str s]⟩,w:=Sort.grow (Sort.putRow encStr (Sort.ahead c.w m) (c.β id) off ss'.toArray) os }
  bG c c'/\Good c':=by
 intro c';obtain⟨hB,cl,el,E,hsz,hel⟩:=g.obj id _ ho;simp only[List.length_map,Nat.mul_one] at hsz;have hnew:(Sort.putRow encStr (Sort.ahead c.w m) (c.β id) off ss'.toArray).heap[c.β id]?=some (.cells (Sort.putCells encStr off ss'.toArray cl) el (0,0)):=by
  simp only[Sort.putRow,Sort.mapBlock,Sort.ahead,Array.getElem?_modify,E];simp[Sort.onCells]
 have hoth:∀ k,k ≠ c.β id->(Sort.putRow encStr (Sort.ahead c.w m) (c.β id) off ss'.toArray).heap[k]?=c.w.heap[k]?:=fun k hk=>by
  simp only[Sort.putRow,Sort.mapBlock,Sort.ahead,Array.getElem?_modify];rw[if_neg (Ne.symm hk)]
 obtain⟨k1,g1⟩:=lz g ho ⟨1,ss'.map fun s=>[str s]⟩ (Sort.putRow encStr (Sort.ahead c.w m) (c.β id) off ss'.toArray) cl (Sort.putCells encStr off ss'.toArray cl) el el ⟨rfl,rfl,rfl⟩ (by simp[Sort.ahead]) E hoth hnew
  (by simp[Sort.putCells]) rfl (by simp[hl]) (by
   refine⟨by simp[Sort.putCells];omega,fun i e he=>?_⟩;rw[List.getElem?_map] at he;obtain⟨s,hs,rfl⟩:=Option.map_eq_some_iff.1 he;refine⟨rfl,fun j a ha=>?_⟩;have hi:i<ss'.length:=(List.getElem?_eq_some_iff.1 hs).1;have ho0:off=0:=dE.elim (fun h=>h) fun h=>by subst h;simp at hi
   subst ho0
   match j,ha with
   | 0,ha=>
    simp only[List.getElem?_cons_zero,Option.some.injEq] at ha;subst ha;refine⟨encStr s,?_,.v _⟩;rw[lW];have hic:i<cl.size:=by omega
    simp only[Nat.mul_one,Nat.add_zero,Array.getElem?_eq_getElem hic,Option.map_some,Nat.zero_le,true_and,Nat.zero_add,Nat.sub_zero,List.size_toArray,hi,if_true,Option.some.injEq];have:ss'.toArray[i]! = s:=by
     obtain⟨h1,h2⟩:=List.getElem?_eq_some_iff.1 hs;simp[h1,h2]
    rw[this]
   | j+1,ha=>simp at ha)
 obtain⟨k2,g2⟩:=dg g1 c'.w ⟨rfl,rfl,rfl⟩ (by simp[c']) fun k hk=>Sort.heap_grow_old _ _ hk
 exact⟨k1.trans k2,g2⟩
theorem jM {H:ax} {l:List Sh} (hf:∀ t ∈ l,t = .c):∀ {as1' bs:List (List au)} {S:List Id},bL (Row H l) as1' bs S->as1'=bs/\S=[]:=by
 intro as1'
 induction as1' with
 | nil=>intro bs S hr;match bs,hr with
  | [],h=>exact⟨rfl,h⟩
  | _::_,hr=>exact hr.elim
 | cons a _ ih=>
  intro bs S hr
  match bs,hr with
  | b::bs,⟨_,_,q1,q2,q3,_⟩=>
   obtain⟨rfl,rfl,_⟩:=q1.fill hf;obtain⟨rfl,rfl⟩:=ih q2;exact⟨rfl,q3⟩
  | [],hr=>exact hr.elim
theorem ep.sort {P:Program} {f:FuncId} {ss:List a6} (hlen:ss.length<4611686018427387904)
  (hs:∀ (blk off cap:Nat) (w:World),Sort.Holds encStr w blk off ss.toArray->blk<w.heap.size->Calls P f #[.slice (some ⟨blk,off,none⟩) ss.length cap] w fun e w'=>
   e = .returned (.tuple #[])/\∃ n os,w'=Sort.grow (Sort.putRow encStr (Sort.ahead w n) blk off (ss.mergeSort fun x y=>decide (x<=y)).toArray) os)
  (hnil:∀ w:World,Calls P f #[.slice none 0 0] w fun e w'=>e = .returned (.tuple #[])/\Below w.heap.size w w') :
  ep P f (fun v=>[v]) (.s [.c]) (ib true ss) (fun e r=>e=ib true (ss.mergeSort fun x y=>decide (x<=y))/\r = .tup []):=by
 intro H n v K ids hsep c xs hH hn g r;subst hH hn;obtain⟨x,rfl,hx⟩:∃ x,xs=[x]/\cn c v x:=by
  obtain⟨hl,hr⟩:=r
  match xs,hl with
  | [x],_=>exact⟨x,rfl,hr 0 v x rfl rfl⟩
 obtain⟨h0,S,h1,h2⟩:=hsep;simp only[List.map_cons,Row,Tr] at h1;obtain⟨S1,S2,h3,h4,rfl,h5⟩:=h1;rcases h3 with ⟨rfl,e,rfl⟩ | ⟨id,els,es',T,rfl,he,q3,q4,q5,rfl⟩
 ·have hss:ss=[]:=by simpa[ib] using e
  subst hss;rw[hx.cd];refine (hnil c.w).mono ?_;rintro e w' ⟨rfl,hb⟩;obtain⟨hk,hg⟩:=dg g w' ⟨hb.os,hb.tape,hb.output⟩ hb.size hb.block;refine⟨_,.tup [],{ c with w:=w' },rfl,rfl,⟨_,⟨rfl,rfl⟩,⟨h0,_,?_,h2⟩,fun _ _=>rfl,Nat.le_refl _⟩,.tup [] [] rfl (by simp),hg,hk⟩;simp only[List.map_cons,Row,Tr];exact⟨[],S2,.inl (by simp[ib]),h4,rfl,by simp⟩
 ·simp only[ib,au.list.injEq,true_and] at he;subst he;obtain⟨rfl,rfl⟩:=jM (by simp) q4;have hm:(ss.mergeSort fun x y=>decide (x<=y)).length=ss.length:=List.length_mergeSort ss;have q3':c.H id=some ⟨1,ss.map fun s=>[str s]⟩:=q3;have hcell:∀ i s,ss[i]?=some s->c.w.cell? ⟨c.β id,i,none⟩=some (encStr s):=fun i s hi=>by
   obtain⟨x,h1,h2⟩:=g.cell q3' (i:=i) (j:=0) (e:=[str s]) (a:=str s) (by rw[List.getElem?_map,hi];rfl) rfl;rw[h2.cd] at h1;simpa using h1
  cases hx with
  | arr _ _ _ _ _ _ hn hg h=>
   obtain⟨hle,a,cap,rfl,hab,hsp,hlc,dE,hcl⟩:=h _ q3' (by simp);obtain⟨bk,off,M⟩:=a;simp only at hab hsp;subst hab hsp;have hz:off=0\/ss=[]:=by
    rcases dE with h | h
    ·left;simpa using h
    ·right;simpa[h] using hlc
   have hz':off=0\/(ss.mergeSort fun x y=>decide (x<=y))=[]:=hz.imp_right fun h=>by subst h;simp
   have hbk:c.β id<c.w.heap.size:=g.lt q3';have key:=hs (c.β id) off cap c.w (fun j hj=>by
    have hj':j<ss.length:=by simpa using hj
    have h0:off=0:=hz.elim (fun h=>h) fun h=>by subst h;simp at hj'
    subst h0;refine⟨?_,g.frozen q3' _⟩;rw[Nat.zero_add,hcell j ss[j] (List.getElem?_eq_getElem hj')];simp[hj']) hbk
   simp only[List.length_map] at *;apply key.mono;rintro e w' ⟨rfl,m,os,rfl⟩;obtain⟨hk,hg'⟩:=uK g q3' hm off hz' m os;refine⟨_,.tup [],{ c with H:=c.H.set id ⟨1,(ss.mergeSort fun x y=>decide (x<=y)).map fun s=>[str s]⟩,w:=Sort.grow (Sort.putRow encStr (Sort.ahead c.w m) (c.β id) off (ss.mergeSort fun x y=>decide (x<=y)).toArray) os },rfl,rfl,⟨_,⟨rfl,rfl⟩,⟨h0,id::S2,?_,?_⟩,fun i hi=>?_,Nat.le_refl _⟩,.tup [] [] rfl (by simp),hg',hk⟩
   ·simp only[List.map_cons,Row,Tr];refine⟨[id],S2,.inr ⟨id,(ss.mergeSort fun x y=>decide (x<=y)).map fun s=>[str s],(ss.mergeSort fun x y=>decide (x<=y)).map fun s=>[str s],[],by simp[hm],rfl,?_,?_,by simp,rfl⟩,h4.frame fun i hi=>?_,rfl,?_⟩
    ·exact ax.bS _ _ _
    ·exact bL.wD (by simp[str,flat]) (by simp)
    ·exact ax.aY _ _ (by rintro rfl;exact h5 i (by simp) hi)
    ·intro i hi;exact h5 i (by simpa using hi)
   ·intro i hi;exact h2 i (by simpa using hi)
   ·exact ax.aY _ _ (by rintro rfl;exact (h2 i (by simp)).2 hi)
end Go.Ab
namespace Go.Ab
section
variable (P:Program) (N:Nat) (ops:Array Oper) (κ:Op->Nat) (cix:Nat)
end
section
variable {P:Program} {N:Nat} {ops:Array Oper} {κ:Op->Nat} {cix:Nat}
end
section
variable {P:Program} {f:FuncId} {N:Nat} {k:List Item} {O:Env} {H:ax} {n:Nat} {Q:au->ax->Nat->Prop} {κ:Op->Nat}
end
section
variable (P:Program) (f:FuncId) (N:Nat) (k:List Item) (Q:au->ax->Nat->Prop) (Ty:Types) (κ:Op->Nat) (ops:Array Oper)
end
section
variable {P:Program} {f:FuncId} {N:Nat} {k:List Item} {Q:au->ax->Nat->Prop} {Ty:Types} {κ:Op->Nat} {ops:Array Oper} {o:Oper} {l:List Oper} {O:Env} {H:ax} {n:Nat} {c:Nat}
theorem AU {d:Operand} {args:Array Operand} {ats:Array TypeId}:args.toList.map (loc (.call ⟨.value d,args,ats⟩) O).ev=args.toList.map O.ev/\(loc (.call ⟨.value d,args,ats⟩) O).ev d=O.ev d:=
 ⟨List.map_congr_left fun x hx=>fL (by simp[Op.operands,Call.operands];exact .inr (by simpa using hx)),fL (by simp[Op.operands,Call.operands])⟩
end
end Go.Ab
namespace Go.Ab
open Go.Proofs
theorem zA {f:FuncId} {N:Nat} {k:List Item} {Q:au -> ax -> Nat -> Prop} {l:List Oper} {O:Env} {H:ax} {n:Nat} {d:Option Tmp} {g:Operand} {args:Array Operand} {ats:Array TypeId} {ty:TypeId} {pos:String} {af:Array Edge} {R:au -> Prop} {f':FuncId} {xs ys:List au} {ops:List Oper}
 (h:aF prog f' ys R) (dK:a8 prog f') (ha:bV H n xs ys) (has:args.toList.map O.ev=xs) (hk:∀ v,R v -> cB prog f N k Q Ty ops.toArray l (O.put d v) H n) (hN:ops.all (fun o=>eF N o.dst)=true:=by decide) (hl:(⟨d,.call ⟨.value g,args,ats⟩,ty,pos,af,none⟩::l:List Oper).all (fun o=>eF N o.dst)=true:=by decide) (hg:O.ev g=.fn (.func f') [] []:=by rfl):
 bX prog f N k Q ops.toArray (⟨d,.call ⟨.value g,args,ats⟩,ty,pos,af,none⟩::l) O H n:=bX.dA aB h dK ha hN hl hg has hk
end Go.Ab
namespace Go.Ab
open Go.Proofs
theorem zW {f:FuncId} {N:Nat} {k:List Item} {Q:au -> ax -> Nat -> Prop} {l:List Oper} {O:Env} {H:ax} {n:Nat} {K:List cm} {ids:List Id} {d:Option Tmp} {g:Operand} {args:Array Operand} {ats:Array TypeId} {ty:TypeId} {pos:String} {af:Array Edge} {R:au -> Prop} {f':FuncId} {xs ys:List au} {ops:List Oper} {sh:Sh}
 (h:bn prog f' ys sh R) (dK:a8 prog f') (ha:bV H n xs ys) (hs:Sep H n K ids) (has:args.toList.map O.ev=xs) (hk:∀ v H1 U r,Sep H1 U ((sh,v,r)::K) ids -> R r -> n <= U -> (∀ i ∈ ids,H1 i=H i) -> cB prog f N k Q Ty ops.toArray l (O.put d v) H1 U) (hN:ops.all (fun o=>eF N o.dst)=true:=by decide) (hl:(⟨d,.call ⟨.value g,args,ats⟩,ty,pos,af,none⟩::l:List Oper).all (fun o=>eF N o.dst)=true:=by decide) (hg:O.ev g=.fn (.func f') [] []:=by rfl):
 bX prog f N k Q ops.toArray (⟨d,.call ⟨.value g,args,ats⟩,ty,pos,af,none⟩::l) O H n:=bX.ik aB h dK ha hs hN hl hg has hk
end Go.Ab
namespace Go.Ab
open Go.Proofs
theorem zS {f:FuncId} {N:Nat} {k:List Item} {Q:au -> ax -> Nat -> Prop} {O:Env} {H:ax} {n:Nat} {id:Nat} {ops:List Oper} {y z:Code} (h:∀ k':List Item,(∀ O H n,J prog f N (.code y::.code z::k) O H n Q -> J prog f N k' O H n Q) -> cB prog f N k' Q Ty ops.toArray ops O H n) (hN:ops.all (fun o=>eF N o.dst)=true:=by decide):J prog f N (.code (.seq (.seq (.region id ops.toArray false) y) z)::k) O H n Q:=J.seq (zE h hN)
theorem zI {f:FuncId} {N:Nat} {k:List Item} {Q:au -> ax -> Nat -> Prop} {O:Env} {H:ax} {n:Nat} {id j:Nat} {ops:List Oper} (h:∀ k':List Item,(∀ O H n,J prog f N k O H n Q -> J prog f N k' O H n Q) -> cB prog f N k' Q Ty ops.toArray ops O H n) (hN:ops.all (fun o=>eF N o.dst)=true:=by decide):J prog f N (.inBlock j::.code (.region id ops.toArray false)::k) O H n Q:=J.inBlock (zF h hN)
theorem zK {f:FuncId} {N:Nat} {k:List Item} {Q:au -> ax -> Nat -> Prop} {O:Env} {H:ax} {n:Nat} {y z:Code} (h:J prog f N (.code y::.code z::k) O H n Q):J prog f N (.code .skip::.code (.seq y z)::k) O H n Q:=J.skip (J.seq h)
end Go.Ab
