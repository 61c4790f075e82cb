/- Merged texts (4 of 17) of the proof that ends in Mpy: Ty X P So Sx. -/
import Derived.Test.YtbikfokhjdjfpaaGreatDoorAbQmp3
import Derived.Test.YtbikfokhjdjfpaaGreatDoorProg
import Derived.KernelRfl
import Derived.Shelf.Sort.Plain
/- The seat's types: what the model's table says of each, as plain data. By program. -/
namespace Go.Ab
open Go.Proofs
theorem bV.of {P:Program} {t:TypeId} {s b:Nat} {z:List Value} (h:(P.underlying t).isSome=true) (h2:(P.info? t).map (fun i=>(i.size,i.bytes,i.zero.map Value.cells))=some (s,b,some z.toArray)):bV P t ⟨(P.underlying t).getD .invalid,s,b,z⟩:=by
 refine⟨?_,?_⟩
 ·cases hu:P.underlying t with
  | none=>simp[hu] at h
  | some d=>rfl
 cases hi:P.info? t with
 | none=>simp[hi] at h2
 | some info=>
  simp only[hi,Option.map_some,Option.some.injEq,Prod.mk.injEq,Option.map_eq_some_iff] at h2
  obtain⟨h3,h4,zv,h5,h6⟩:=h2
  exact⟨info,zv,rfl,h3,h4,h5,h6⟩
noncomputable def ty3:TI:=⟨(Tryz.prog.underlying 3).getD .invalid,1,8,[.int .i64 0]⟩
noncomputable def ty4:TI:=⟨(Tryz.prog.underlying 4).getD .invalid,1,1,[.bool false]⟩
noncomputable def ty5:TI:=⟨(Tryz.prog.underlying 5).getD .invalid,1,1,[.int .u8 0]⟩
noncomputable def ty9:TI:=⟨(Tryz.prog.underlying 9).getD .invalid,1,16,[.string ⟨#[]⟩]⟩
noncomputable def Ac:TI:=⟨(Tryz.prog.underlying 21).getD .invalid,1,4,[.int .i32 0]⟩
noncomputable def yN:TI:=⟨(Tryz.prog.underlying 22).getD .invalid,1,24,[.slice none 0 0]⟩
noncomputable def wD:TI:=⟨(Tryz.prog.underlying 23).getD .invalid,1,24,[.slice none 0 0]⟩
noncomputable def nR:TI:=⟨(Tryz.prog.underlying 24).getD .invalid,1,24,[.slice none 0 0]⟩
noncomputable def uD:TI:=⟨(Tryz.prog.underlying 25).getD .invalid,1,24,[.slice none 0 0]⟩
noncomputable def wQ:TI:=⟨(Tryz.prog.underlying 26).getD .invalid,1,24,[.slice none 0 0]⟩
noncomputable def Ad:TI:=⟨(Tryz.prog.underlying 28).getD .invalid,6,112,[.int .i64 0,.slice none 0 0,.slice none 0 0,.int .i64 0,.slice none 0 0,.slice none 0 0]⟩
noncomputable def yc:TI:=⟨(Tryz.prog.underlying 31).getD .invalid,1,24,[.slice none 0 0]⟩
noncomputable def wm:TI:=⟨(Tryz.prog.underlying 32).getD .invalid,1,24,[.slice none 0 0]⟩
noncomputable def zm:TI:=⟨(Tryz.prog.underlying 34).getD .invalid,6,112,[.int .i64 0,.slice none 0 0,.slice none 0 0,.int .i64 0,.slice none 0 0,.slice none 0 0]⟩
noncomputable def zM:TI:=⟨(Tryz.prog.underlying 37).getD .invalid,1,24,[.slice none 0 0]⟩
noncomputable def zT:TI:=⟨(Tryz.prog.underlying 46).getD .invalid,2,48,[.slice none 0 0,.slice none 0 0]⟩
noncomputable def zg:TI:=⟨(Tryz.prog.underlying 50).getD .invalid,2,48,[.slice none 0 0,.slice none 0 0]⟩
noncomputable def xF:TI:=⟨(Tryz.prog.underlying 63).getD .invalid,3,32,[.string ⟨#[]⟩,.int .i64 0,.int .i64 0]⟩
noncomputable def xx:TI:=⟨(Tryz.prog.underlying 70).getD .invalid,3,32,[.string ⟨#[]⟩,.int .i64 0,.int .i64 0]⟩
noncomputable def xo:TI:=⟨(Tryz.prog.underlying 72).getD .invalid,3,40,[.int .i64 0,.int .i64 0,.slice none 0 0]⟩
noncomputable def An:TI:=⟨(Tryz.prog.underlying 83).getD .invalid,1,24,[.slice none 0 0]⟩
noncomputable def wu:TI:=⟨(Tryz.prog.underlying 86).getD .invalid,2,16,[.int .i64 0,.int .i64 0]⟩
noncomputable def w3:TI:=⟨(Tryz.prog.underlying 91).getD .invalid,2,24,[.string ⟨#[]⟩,.int .i64 0]⟩
noncomputable def qb:TI:=⟨(Tryz.prog.underlying 113).getD .invalid,3,40,[.int .i64 0,.int .i64 0,.slice none 0 0]⟩
noncomputable def pO:TI:=⟨(Tryz.prog.underlying 115).getD .invalid,2,24,[.string ⟨#[]⟩,.int .i64 0]⟩
noncomputable def rn:TI:=⟨(Tryz.prog.underlying 117).getD .invalid,1,24,[.slice none 0 0]⟩
noncomputable def rG:TI:=⟨(Tryz.prog.underlying 133).getD .invalid,1,24,[.slice none 0 0]⟩
noncomputable def rk:TI:=⟨(Tryz.prog.underlying 144).getD .invalid,1,8,[.int .u64 0]⟩
noncomputable def tyL:List (Nat × TI):=[(3,ty3),(4,ty4),(5,ty5),(9,ty9),(21,Ac),(22,yN),(23,wD),(24,nR),(25,uD),(26,wQ),(28,Ad),(31,yc),(32,wm),(34,zm),(37,zM),(46,zT),(50,zg),(63,xF),(70,xx),(72,xo),(83,An),(86,wu),(91,w3),(113,qb),(115,pO),(117,rn),(133,rG),(144,rk)]
noncomputable def Ty:Types:=fun t=>(tyL.find? (fun p=>p.1 == t)).map (·.2)
theorem ok3:bV Tryz.prog 3 ty3:=bV.of (by kernel_rfl) (by kernel_rfl)
theorem I7:Ty 3=some ty3:=by kernel_rfl
theorem DT:ty3.size=1:=rfl
theorem Cg:ty3.bytes=8:=rfl
theorem EN:ty3.zero=[.int .i64 0]:=rfl
theorem Fz:ty3.isAgg=false:=by kernel_rfl
theorem Jx:kd Ty 3 = .int .i64:=by kernel_rfl
theorem ok4:bV Tryz.prog 4 ty4:=bV.of (by kernel_rfl) (by kernel_rfl)
theorem Jw:Ty 4=some ty4:=by kernel_rfl
theorem DU:ty4.size=1:=rfl
theorem CD:ty4.bytes=1:=rfl
theorem DB:ty4.zero=[.bool false]:=rfl
theorem E2:ty4.isAgg=false:=by kernel_rfl
theorem Jt:kd Ty 4 = .bool:=by kernel_rfl
theorem ok5:bV Tryz.prog 5 ty5:=bV.of (by kernel_rfl) (by kernel_rfl)
theorem Js:Ty 5=some ty5:=by kernel_rfl
theorem ET:ty5.size=1:=rfl
theorem Cb:ty5.bytes=1:=rfl
theorem Er:ty5.zero=[.int .u8 0]:=rfl
theorem Ff:ty5.isAgg=false:=by kernel_rfl
theorem IV:kd Ty 5 = .int .u8:=by kernel_rfl
theorem ok9:bV Tryz.prog 9 ty9:=bV.of (by kernel_rfl) (by kernel_rfl)
theorem IS:Ty 9=some ty9:=by kernel_rfl
theorem Dk:ty9.size=1:=rfl
theorem CC:ty9.bytes=16:=rfl
theorem EI:ty9.zero=[.string ⟨#[]⟩]:=rfl
theorem Fl:ty9.isAgg=false:=by kernel_rfl
theorem Fs:kd Ty 9 = .string:=by kernel_rfl
theorem I6:bV Tryz.prog 21 Ac:=bV.of (by kernel_rfl) (by kernel_rfl)
theorem FG:Ty 21=some Ac:=by kernel_rfl
theorem B1:Ac.size=1:=rfl
theorem yC:Ac.bytes=4:=rfl
theorem CJ:Ac.zero=[.int .i32 0]:=rfl
theorem Ds:Ac.isAgg=false:=by kernel_rfl
theorem HK:kd Ty 21 = .int .i32:=by kernel_rfl
theorem Jm:bV Tryz.prog 22 yN:=bV.of (by kernel_rfl) (by kernel_rfl)
theorem HH:Ty 22=some yN:=by kernel_rfl
theorem Bv:yN.size=1:=rfl
theorem yA:yN.bytes=24:=rfl
theorem BN:yN.zero=[.slice none 0 0]:=rfl
theorem Ed:yN.isAgg=false:=by kernel_rfl
theorem A0:kd Ty 22 = .slice xF:=by kernel_rfl
theorem Ip:bV Tryz.prog 23 wD:=bV.of (by kernel_rfl) (by kernel_rfl)
theorem Hc:Ty 23=some wD:=by kernel_rfl
theorem Bi:wD.size=1:=rfl
theorem Av:wD.bytes=24:=rfl
theorem CI:wD.zero=[.slice none 0 0]:=rfl
theorem EX:wD.isAgg=false:=by kernel_rfl
theorem AX:kd Ty 23 = .slice qb:=by kernel_rfl
theorem Jl:bV Tryz.prog 24 nR:=bV.of (by kernel_rfl) (by kernel_rfl)
theorem GS:Ty 24=some nR:=by kernel_rfl
theorem BE:nR.size=1:=rfl
theorem yM:nR.bytes=24:=rfl
theorem Dd:nR.zero=[.slice none 0 0]:=rfl
theorem DD:nR.isAgg=false:=by kernel_rfl
theorem aO:kd Ty 24 = .slice ty3:=by kernel_rfl
theorem Ia:bV Tryz.prog 25 uD:=bV.of (by kernel_rfl) (by kernel_rfl)
theorem HP:Ty 25=some uD:=by kernel_rfl
theorem CW:uD.size=1:=rfl
theorem zu:uD.bytes=24:=rfl
theorem Bf:uD.zero=[.slice none 0 0]:=rfl
theorem ER:uD.isAgg=false:=by kernel_rfl
theorem cy:kd Ty 25 = .slice ty9:=by kernel_rfl
theorem Jq:bV Tryz.prog 26 wQ:=bV.of (by kernel_rfl) (by kernel_rfl)
theorem GR:Ty 26=some wQ:=by kernel_rfl
theorem Bw:wQ.size=1:=rfl
theorem zq:wQ.bytes=24:=rfl
theorem Db:wQ.zero=[.slice none 0 0]:=rfl
theorem Ex:wQ.isAgg=false:=by kernel_rfl
theorem A3:kd Ty 26 = .slice pO:=by kernel_rfl
theorem H8:bV Tryz.prog 28 Ad:=bV.of (by kernel_rfl) (by kernel_rfl)
theorem HR:Ty 28=some Ad:=by kernel_rfl
theorem CH:Ad.size=6:=rfl
theorem Ai:Ad.bytes=112:=rfl
theorem Bm:Ad.zero=[.int .i64 0,.slice none 0 0,.slice none 0 0,.int .i64 0,.slice none 0 0,.slice none 0 0]:=rfl
theorem DH:Ad.isAgg=true:=by kernel_rfl
theorem G8:kd Ty 28 = .struct [(0,ty3),(1,wD),(2,nR),(3,ty3),(4,uD),(5,wQ)]:=by kernel_rfl
theorem Je:bV Tryz.prog 31 yc:=bV.of (by kernel_rfl) (by kernel_rfl)
theorem G6:Ty 31=some yc:=by kernel_rfl
theorem BC:yc.size=1:=rfl
theorem yy:yc.bytes=24:=rfl
theorem CZ:yc.zero=[.slice none 0 0]:=rfl
theorem Dv:yc.isAgg=false:=by kernel_rfl
theorem bj:kd Ty 31 = .slice xo:=by kernel_rfl
theorem IW:bV Tryz.prog 32 wm:=bV.of (by kernel_rfl) (by kernel_rfl)
theorem Hm:Ty 32=some wm:=by kernel_rfl
theorem Cn:wm.size=1:=rfl
theorem zO:wm.bytes=24:=rfl
theorem CO:wm.zero=[.slice none 0 0]:=rfl
theorem EP:wm.isAgg=false:=by kernel_rfl
theorem fm:kd Ty 32 = .slice w3:=by kernel_rfl
theorem Ik:bV Tryz.prog 34 zm:=bV.of (by kernel_rfl) (by kernel_rfl)
theorem pY:Ty 34=some zm:=by kernel_rfl
theorem B9:zm.size=6:=rfl
theorem y7:zm.bytes=112:=rfl
theorem Ce:zm.zero=[.int .i64 0,.slice none 0 0,.slice none 0 0,.int .i64 0,.slice none 0 0,.slice none 0 0]:=rfl
theorem Dr:zm.isAgg=true:=by kernel_rfl
theorem HB:kd Ty 34 = .struct [(0,ty3),(1,yc),(2,nR),(3,ty3),(4,uD),(5,wm)]:=by kernel_rfl
theorem HX:bV Tryz.prog 37 zM:=bV.of (by kernel_rfl) (by kernel_rfl)
theorem Hg:Ty 37=some zM:=by kernel_rfl
theorem Bn:zM.size=1:=rfl
theorem Aj:zM.bytes=24:=rfl
theorem Dc:zM.zero=[.slice none 0 0]:=rfl
theorem Eb:zM.isAgg=false:=by kernel_rfl
theorem tV:kd Ty 37 = .slice xx:=by kernel_rfl
theorem HZ:bV Tryz.prog 46 zT:=bV.of (by kernel_rfl) (by kernel_rfl)
theorem GF:Ty 46=some zT:=by kernel_rfl
theorem BH:zT.size=2:=rfl
theorem yX:zT.bytes=48:=rfl
theorem B8:zT.zero=[.slice none 0 0,.slice none 0 0]:=rfl
theorem DE:zT.isAgg=true:=by kernel_rfl
theorem HM:kd Ty 46 = .struct [(0,nR),(1,nR)]:=by kernel_rfl
theorem H4:bV Tryz.prog 50 zg:=bV.of (by kernel_rfl) (by kernel_rfl)
theorem Hz:Ty 50=some zg:=by kernel_rfl
theorem BO:zg.size=2:=rfl
theorem zh:zg.bytes=48:=rfl
theorem Bo:zg.zero=[.slice none 0 0,.slice none 0 0]:=rfl
theorem Dl:zg.isAgg=true:=by kernel_rfl
theorem Ho:kd Ty 50 = .struct [(0,nR),(1,nR)]:=by kernel_rfl
theorem Iq:bV Tryz.prog 63 xF:=bV.of (by kernel_rfl) (by kernel_rfl)
theorem G3:Ty 63=some xF:=by kernel_rfl
theorem Ca:xF.size=3:=rfl
theorem yI:xF.bytes=32:=rfl
theorem CS:xF.zero=[.string ⟨#[]⟩,.int .i64 0,.int .i64 0]:=rfl
theorem DO:xF.isAgg=true:=by kernel_rfl
theorem Hs:kd Ty 63 = .struct [(0,ty9),(1,ty3),(2,ty3)]:=by kernel_rfl
theorem IB:bV Tryz.prog 70 xx:=bV.of (by kernel_rfl) (by kernel_rfl)
theorem FC:Ty 70=some xx:=by kernel_rfl
theorem CN:xx.size=3:=rfl
theorem As:xx.bytes=32:=rfl
theorem Be:xx.zero=[.string ⟨#[]⟩,.int .i64 0,.int .i64 0]:=rfl
theorem Ep:xx.isAgg=true:=by kernel_rfl
theorem Hy:kd Ty 70 = .struct [(0,ty9),(1,ty3),(2,ty3)]:=by kernel_rfl
theorem Jk:bV Tryz.prog 72 xo:=bV.of (by kernel_rfl) (by kernel_rfl)
theorem AM:Ty 72=some xo:=by kernel_rfl
theorem Cp:xo.size=3:=rfl
theorem yT:xo.bytes=40:=rfl
theorem BF:xo.zero=[.int .i64 0,.int .i64 0,.slice none 0 0]:=rfl
theorem Du:xo.isAgg=true:=by kernel_rfl
theorem HI:kd Ty 72 = .struct [(0,ty3),(1,ty3),(2,nR)]:=by kernel_rfl
theorem Jj:bV Tryz.prog 83 An:=bV.of (by kernel_rfl) (by kernel_rfl)
theorem HQ:Ty 83=some An:=by kernel_rfl
theorem B7:An.size=1:=rfl
theorem Ax:An.bytes=24:=rfl
theorem BG:An.zero=[.slice none 0 0]:=rfl
theorem Em:An.isAgg=false:=by kernel_rfl
theorem gC:kd Ty 83 = .slice wu:=by kernel_rfl
theorem Jh:bV Tryz.prog 86 wu:=bV.of (by kernel_rfl) (by kernel_rfl)
theorem G2:Ty 86=some wu:=by kernel_rfl
theorem C2:wu.size=2:=rfl
theorem yD:wu.bytes=16:=rfl
theorem CB:wu.zero=[.int .i64 0,.int .i64 0]:=rfl
theorem DN:wu.isAgg=true:=by kernel_rfl
theorem uh:kd Ty 86 = .arr 2 ty3:=by kernel_rfl
theorem Ib:bV Tryz.prog 91 w3:=bV.of (by kernel_rfl) (by kernel_rfl)
theorem FI:Ty 91=some w3:=by kernel_rfl
theorem CA:w3.size=2:=rfl
theorem zd:w3.bytes=24:=rfl
theorem BU:w3.zero=[.string ⟨#[]⟩,.int .i64 0]:=rfl
theorem Ey:w3.isAgg=true:=by kernel_rfl
theorem HC:kd Ty 91 = .struct [(0,ty9),(1,ty3)]:=by kernel_rfl
theorem Hu:bV Tryz.prog 113 qb:=bV.of (by kernel_rfl) (by kernel_rfl)
theorem F0:Ty 113=some qb:=by kernel_rfl
theorem zN:qb.size=3:=rfl
theorem wP:qb.bytes=40:=rfl
theorem Az:qb.zero=[.int .i64 0,.int .i64 0,.slice none 0 0]:=rfl
theorem BI:qb.isAgg=true:=by kernel_rfl
theorem Gd:kd Ty 113 = .struct [(0,ty3),(1,ty3),(2,nR)]:=by kernel_rfl
theorem GO:bV Tryz.prog 115 pO:=bV.of (by kernel_rfl) (by kernel_rfl)
theorem Gp:Ty 115=some pO:=by kernel_rfl
theorem yO:pO.size=2:=rfl
theorem xk:pO.bytes=24:=rfl
theorem Ah:pO.zero=[.string ⟨#[]⟩,.int .i64 0]:=rfl
theorem Cf:pO.isAgg=true:=by kernel_rfl
theorem FP:kd Ty 115 = .struct [(0,ty9),(1,ty3)]:=by kernel_rfl
theorem GY:bV Tryz.prog 117 rn:=bV.of (by kernel_rfl) (by kernel_rfl)
theorem F5:Ty 117=some rn:=by kernel_rfl
theorem zA:rn.size=1:=rfl
theorem yf:rn.bytes=24:=rfl
theorem y9:rn.zero=[.slice none 0 0]:=rfl
theorem C9:rn.isAgg=false:=by kernel_rfl
theorem nt:kd Ty 117 = .slice ty4:=by kernel_rfl
theorem HL:bV Tryz.prog 133 rG:=bV.of (by kernel_rfl) (by kernel_rfl)
theorem FO:Ty 133=some rG:=by kernel_rfl
theorem yQ:rG.size=1:=rfl
theorem wN:rG.bytes=24:=rfl
theorem yF:rG.zero=[.slice none 0 0]:=rfl
theorem Cs:rG.isAgg=false:=by kernel_rfl
theorem Et:kd Ty 133 = .slice ty5:=by kernel_rfl
theorem HJ:bV Tryz.prog 144 rk:=bV.of (by kernel_rfl) (by kernel_rfl)
theorem F1:Ty 144=some rk:=by kernel_rfl
theorem AA:rk.size=1:=rfl
theorem xX:rk.bytes=8:=rfl
theorem zG:rk.zero=[.int .u64 0]:=rfl
theorem B5:rk.isAgg=false:=by kernel_rfl
theorem F3:kd Ty 144 = .int .u64:=by kernel_rfl
theorem ae:aU Tryz.prog Ty:=by
 have h:∀ p ∈ tyL,bV Tryz.prog p.1 p.2:=by
  refine List.forall_mem_cons.2 ⟨ok3,?_⟩
  refine List.forall_mem_cons.2 ⟨ok4,?_⟩
  refine List.forall_mem_cons.2 ⟨ok5,?_⟩
  refine List.forall_mem_cons.2 ⟨ok9,?_⟩
  refine List.forall_mem_cons.2 ⟨I6,?_⟩
  refine List.forall_mem_cons.2 ⟨Jm,?_⟩
  refine List.forall_mem_cons.2 ⟨Ip,?_⟩
  refine List.forall_mem_cons.2 ⟨Jl,?_⟩
  refine List.forall_mem_cons.2 ⟨Ia,?_⟩
  refine List.forall_mem_cons.2 ⟨Jq,?_⟩
  refine List.forall_mem_cons.2 ⟨H8,?_⟩
  refine List.forall_mem_cons.2 ⟨Je,?_⟩
  refine List.forall_mem_cons.2 ⟨IW,?_⟩
  refine List.forall_mem_cons.2 ⟨Ik,?_⟩
  refine List.forall_mem_cons.2 ⟨HX,?_⟩
  refine List.forall_mem_cons.2 ⟨HZ,?_⟩
  refine List.forall_mem_cons.2 ⟨H4,?_⟩
  refine List.forall_mem_cons.2 ⟨Iq,?_⟩
  refine List.forall_mem_cons.2 ⟨IB,?_⟩
  refine List.forall_mem_cons.2 ⟨Jk,?_⟩
  refine List.forall_mem_cons.2 ⟨Jj,?_⟩
  refine List.forall_mem_cons.2 ⟨Jh,?_⟩
  refine List.forall_mem_cons.2 ⟨Ib,?_⟩
  refine List.forall_mem_cons.2 ⟨Hu,?_⟩
  refine List.forall_mem_cons.2 ⟨GO,?_⟩
  refine List.forall_mem_cons.2 ⟨GY,?_⟩
  refine List.forall_mem_cons.2 ⟨HL,?_⟩
  refine List.forall_mem_cons.2 ⟨HJ,?_⟩
  simp
 intro t i hi
 unfold Ty at hi
 cases hf:tyL.find? (fun p=>p.1 == t) with
 | none=>simp[hf] at hi
 | some p=>
  simp only[hf,Option.map_some,Option.some.injEq] at hi
  have h1:=List.find?_some hf
  have h2:=h p (List.mem_of_find?_eq_some hf)
  simp only[beq_iff_eq] at h1
  rw[← h1,← hi]
  exact h2
attribute [simp] DT DU ET Dk B1 Bv Bi BE CW Bw CH BC Cn B9 Bn BH BO Ca CN Cp B7 C2 CA zN yO zA yQ AA Fz E2 Ff Fl Ds Ed EX DD ER Ex DH Dv EP Dr Eb DE Dl DO Ep Du Em DN Ey BI Cf C9 Cs B5 EN DB Er EI CJ BN CI Dd Bf Db Bm CZ CO Ce Dc B8 Bo CS Be BF BG CB BU Az Ah y9 yF zG I7 Jw Js IS FG HH Hc GS HP GR HR G6 Hm pY Hg GF Hz G3 FC AM HQ G2 FI F0 Gp F5 FO F1 Jx Jt IV Fs HK A0 AX aO cy A3 G8 bj fm HB tV HM Ho Hs Hy HI gC uh HC Gd FP nt Et F3 Cg CD Cb CC yC yA Av yM zu zq Ai yy zO y7 Aj yX zh yI As yT Ax yD zd wP xk yf wN xX
end Go.Ab
/- Contracts of impl.within and (impl.IQ).kids, on abstract values; no conditions but a bound on the length. -/
namespace Go.Ab
open Go.Proofs
section
variable {f:FuncId} {N:Nat} {k:List Item} {ρ:Env} {H:ak} {n:Nat} {Q:ag→ak→Nat→Prop} {id:Nat} {ops:List Oper} {y:Code}
theorem zE (h:∀ k':List Item,(∀ ρ H n,aa Tryz.prog f N (.code y::k) ρ H n Q→aa Tryz.prog f N k' ρ H n Q)→ct Tryz.prog f N k' Q Ty ops.toArray ops ρ H n) (hN:ops.all (fun o=>dok N o.dst)=true:=by decide):aa Tryz.prog f N (.code (.seq (.region id ops.toArray false) y)::k) ρ H n Q:=aa.au ae hN h
theorem zF (h:∀ k':List Item,(∀ ρ H n,aa Tryz.prog f N k ρ H n Q→aa Tryz.prog f N k' ρ H n Q)→ct Tryz.prog f N k' Q Ty ops.toArray ops ρ H n) (hN:ops.all (fun o=>dok N o.dst)=true:=by decide):aa Tryz.prog f N (.code (.region id ops.toArray false)::k) ρ H n Q:=aa.cg ae hN h
end
def within (n lo hi:Int):Bool:=decide (lo≤n) && decide (n≤hi)
theorem dL (n lo hi:Int):aq Tryz.prog 109 [int n,int lo,int hi] (fun r=>r=bool (within n lo hi)):=by
 refine aq.of Tryz.func109 rfl Tryz.ntmps109 (by simp) fun Q hQ=>?_
 refine aa.au ae (by decide) fun k' hk'=>?_
 simp
 refine hk' _ _ _ (aa.au ae (by decide) fun k' hk'=>?_)
 simp
 by_cases h:lo≤n
 all_goals
  simp[h]
  refine hk' _ _ _ (aa.ret Tryz.func109 (aK.one Tryz.results109) (hQ _ _ _ _ (oD.v _ _ _) ?_))
  simp[within,h]
structure Fo where
 kind:Int
 name:Str
 parent:Int
 deriving Inhabited,DecidableEq
abbrev IQ:=List Fo
set_option linter.unusedSimpArgs false
end Go.Ab
/- Contracts of impl.prefixWords and impl.nodeText. -/
namespace Go.Ab
open Go.Proofs
set_option linter.unusedSimpArgs false
theorem bU:Tryz.prog.follows .mixedOrders=true:=by kernel_rfl
theorem tx:Ent Tryz.prog 109:=Ent.of Tryz.func109 (by kernel_rfl) rfl
def fW (t:Bool) (l:List Str):ag:=.list t (l.map fun s=>[str s])
end Go.Ab
/- The abstract machine, part So: the library's sort of strings, laid on a slice of the caller's own. -/
namespace Go.Ab
open Go.Proofs Go.RowKit
set_option linter.unusedSectionVars false
theorem oY {α:Type} {enc:α→Value} [Inhabited α] {off:Nat} {d:Array α} {cl:Array Value} (k:Nat) :
  (Sort.putCells enc off d cl)[k]?=(cl[k]?).map fun x=>if off≤k∧k<off+d.size then enc d[k - off]! else x:=by
 simp only[Sort.putCells,Array.getElem?_mapIdx]
theorem sE {c:Ctx} (g:Good c) {id:Id} {ss ss':List Str} (ho:c.H id=some ⟨1,ss.map fun s=>[str s]⟩) (hl:ss'.length=ss.length) (off:Nat) (hoff:off=0∨ss'=[]) (m:Nat) (os:Array Obj) :
  let c':Ctx:={ c with H:=c.H.set id ⟨1,ss'.map fun s=>[str s]⟩,w:=Sort.grow (Sort.putRow encStr (Sort.ahead c.w m) (c.β id) off ss'.toArray) os }
  bm c c'∧Good c':=by
 intro c'
 obtain⟨hB,cl,el,hh,hsz,hel⟩:=g.obj id _ ho
 simp only[List.length_map,Nat.mul_one] at hsz
 have hnew:(Sort.putRow encStr (Sort.ahead c.w m) (c.β id) off ss'.toArray).heap[c.β id]?=some (.cells (Sort.putCells encStr off ss'.toArray cl) el (0,0)):=by
  simp only[Sort.putRow,Sort.mapBlock,Sort.ahead,Array.getElem?_modify,hh]
  simp[Sort.onCells]
 have hoth:∀ k,k ≠ c.β id→(Sort.putRow encStr (Sort.ahead c.w m) (c.β id) off ss'.toArray).heap[k]?=c.w.heap[k]?:=fun k hk=>by
  simp only[Sort.putRow,Sort.mapBlock,Sort.ahead,Array.getElem?_modify]
  rw[if_neg (Ne.symm hk)]
 obtain⟨k1,g1⟩:=lT g ho ⟨1,ss'.map fun s=>[str s]⟩ (Sort.putRow encStr (Sort.ahead c.w m) (c.β id) off ss'.toArray) cl (Sort.putCells encStr off ss'.toArray cl) el el ⟨rfl,rfl,rfl⟩ (by simp[Sort.ahead]) hh hoth hnew
  (by simp[Sort.putCells]) rfl (by simp[hl]) (by
   refine⟨by simp[Sort.putCells];omega,fun i e he=>?_⟩
   rw[List.getElem?_map] at he
   obtain⟨s,hs,rfl⟩:=Option.map_eq_some_iff.1 he
   refine⟨rfl,fun j a ha=>?_⟩
   have hi:i<ss'.length:=(List.getElem?_eq_some_iff.1 hs).1
   have ho0:off=0:=hoff.elim (fun h=>h) fun h=>by subst h;simp at hi
   subst ho0
   match j,ha with
   | 0,ha=>
    simp only[List.getElem?_cons_zero,Option.some.injEq] at ha
    subst ha
    refine⟨encStr s,?_,.v _⟩
    rw[oY]
    have hic:i<cl.size:=by omega
    simp only[Nat.mul_one,Nat.add_zero,Array.getElem?_eq_getElem hic,Option.map_some,Nat.zero_le,true_and,Nat.zero_add,Nat.sub_zero,List.size_toArray,hi,if_true,Option.some.injEq]
    have:ss'.toArray[i]! = s:=by
     obtain⟨h1,h2⟩:=List.getElem?_eq_some_iff.1 hs
     simp[h1,h2]
    rw[this]
   | j+1,ha=>simp at ha)
 obtain⟨k2,g2⟩:=cN g1 c'.w ⟨rfl,rfl,rfl⟩ (by simp[c']) fun k hk=>Sort.heap_grow_old _ _ hk
 exact⟨k1.trans k2,g2⟩
theorem kB {H:ak} {l:List Sh} (hf:∀ t ∈ l,t = .c):∀ {as1' bs:List (List ag)} {S:List Id},bx (Row H l) as1' bs S→as1'=bs∧S=[]:=by
 intro as1'
 induction as1' with
 | nil=>intro bs S hr;match bs,hr with
  | [],h=>exact⟨rfl,h⟩
  | _::_,hr=>exact hr.elim
 | cons a _ ih=>
  intro bs S hr
  match bs,hr with
  | b::bs,⟨_,_,q1,q2,q3,_⟩=>
   obtain⟨rfl,rfl,_⟩:=q1.fill hf
   obtain⟨rfl,rfl⟩:=ih q2
   exact⟨rfl,q3⟩
  | [],hr=>exact hr.elim
theorem eb.sort {P:Program} {f:FuncId} {ss:List Str} (hlen:ss.length<4611686018427387904)
  (hs:∀ (blk off cap:Nat) (w:World),Sort.Holds encStr w blk off ss.toArray→blk<w.heap.size→Calls P f #[.slice (some ⟨blk,off,none⟩) ss.length cap] w fun e w'=>
   e = .returned (.tuple #[])∧∃ n os,w'=Sort.grow (Sort.putRow encStr (Sort.ahead w n) blk off (ss.mergeSort fun x y=>decide (x≤y)).toArray) os)
  (hnil:∀ w:World,Calls P f #[.slice none 0 0] w fun e w'=>e = .returned (.tuple #[])∧Below w.heap.size w w') :
  eb P f (fun v=>[v]) (.s [.c]) (fW true ss) (fun e r=>e=fW true (ss.mergeSort fun x y=>decide (x≤y))∧r = .tup []):=by
 intro H n v K ids hsep c xs hH hn g r
 subst hH hn
 obtain⟨x,rfl,hx⟩:∃ x,xs=[x]∧Rep c v x:=by
  obtain⟨hl,hr⟩:=r
  match xs,hl with
  | [x],_=>exact⟨x,rfl,hr 0 v x rfl rfl⟩
 obtain⟨h0,S,h1,h2⟩:=hsep
 simp only[List.map_cons,Row,Tr] at h1
 obtain⟨S1,S2,h3,h4,rfl,h5⟩:=h1
 rcases h3 with ⟨rfl,e,rfl⟩ | ⟨id,els,es',T,rfl,he,q3,q4,q5,rfl⟩
 ·have hss:ss=[]:=by simpa[fW] using e
  subst hss
  rw[hx.bS]
  refine (hnil c.w).mono ?_
  rintro e w' ⟨rfl,hb⟩
  obtain⟨hk,hg⟩:=cN g w' ⟨hb.os,hb.tape,hb.output⟩ hb.size hb.block
  refine⟨_,.tup [],{ c with w:=w' },rfl,rfl,⟨_,⟨rfl,rfl⟩,⟨h0,_,?_,h2⟩,fun _ _=>rfl,Nat.le_refl _⟩,.tup [] [] rfl (by simp),hg,hk⟩
  simp only[List.map_cons,Row,Tr]
  exact⟨[],S2,.inl (by simp[fW]),h4,rfl,by simp⟩
 ·simp only[fW,ag.list.injEq,true_and] at he
  subst he
  obtain⟨rfl,rfl⟩:=kB (by simp) q4
  have hm:(ss.mergeSort fun x y=>decide (x≤y)).length=ss.length:=List.length_mergeSort ss
  have q3':c.H id=some ⟨1,ss.map fun s=>[str s]⟩:=q3
  have hcell:∀ i s,ss[i]?=some s→c.w.cell? ⟨c.β id,i,none⟩=some (encStr s):=fun i s hi=>by
   obtain⟨x,h1,h2⟩:=g.cell q3' (i:=i) (j:=0) (e:=[str s]) (a:=str s) (by rw[List.getElem?_map,hi];rfl) rfl
   rw[h2.bS] at h1
   simpa using h1
  cases hx with
  | arr _ _ _ _ _ _ hn hg h=>
   obtain⟨hle,a,cap,rfl,hab,hsp,hlc,hoff,hcl⟩:=h _ q3' (by simp)
   obtain⟨bk,off,sp⟩:=a
   simp only at hab hsp
   subst hab hsp
   have hz:off=0∨ss=[]:=by
    rcases hoff with h | h
    ·left;simpa using h
    ·right;simpa[h] using hlc
   have hz':off=0∨(ss.mergeSort fun x y=>decide (x≤y))=[]:=hz.imp_right fun h=>by subst h;simp
   have hbk:c.β id<c.w.heap.size:=g.lt q3'
   have key:=hs (c.β id) off cap c.w (fun j hj=>by
    have hj':j<ss.length:=by simpa using hj
    have h0:off=0:=hz.elim (fun h=>h) fun h=>by subst h;simp at hj'
    subst h0
    refine⟨?_,g.frozen q3' _⟩
    rw[Nat.zero_add,hcell j ss[j] (List.getElem?_eq_getElem hj')]
    simp[hj']) hbk
   simp only[List.length_map] at *
   refine key.mono ?_
   rintro e w' ⟨rfl,m,os,rfl⟩
   obtain⟨hk,hg'⟩:=sE g q3' hm off hz' m os
   refine⟨_,.tup [],{ c with H:=c.H.set id ⟨1,(ss.mergeSort fun x y=>decide (x≤y)).map fun s=>[str s]⟩,w:=Sort.grow (Sort.putRow encStr (Sort.ahead c.w m) (c.β id) off (ss.mergeSort fun x y=>decide (x≤y)).toArray) os },rfl,rfl,⟨_,⟨rfl,rfl⟩,⟨h0,id::S2,?_,?_⟩,fun i hi=>?_,Nat.le_refl _⟩,.tup [] [] rfl (by simp),hg',hk⟩
   ·simp only[List.map_cons,Row,Tr]
    refine⟨[id],S2,.inr ⟨id,(ss.mergeSort fun x y=>decide (x≤y)).map fun s=>[str s],(ss.mergeSort fun x y=>decide (x≤y)).map fun s=>[str s],[],by simp[hm],rfl,?_,?_,by simp,rfl⟩,h4.frame fun i hi=>?_,rfl,?_⟩
    ·exact ak.bB _ _ _
    ·exact bx.xw (by simp[str,flat]) (by simp)
    ·exact ak.aQ _ _ (by rintro rfl;exact h5 i (by simp) hi)
    ·intro i hi;exact h5 i (by simpa using hi)
   ·intro i hi;exact h2 i (by simpa using hi)
   ·exact ak.aQ _ _ (by rintro rfl;exact (h2 i (by simp)).2 hi)
end Go.Ab
/- The abstract machine, part Sx: regions that draw their order with one call whose result the caller owns; all else stands ahead of it or waits for it. -/
namespace Go.Ab
set_option linter.unusedSectionVars false
set_option linter.unusedVariables false
section
variable (P:Program) (N:Nat) (ops:Array Oper) (κ:Op→Nat) (cix:Nat)
end
section
variable {P:Program} {N:Nat} {ops:Array Oper} {κ:Op→Nat} {cix:Nat}
end
section
variable {P:Program} {f:FuncId} {N:Nat} {k:List Item} {ρ:Env} {H:ak} {n:Nat} {Q:ag→ak→Nat→Prop} {κ:Op→Nat}
end
section
variable (P:Program) (f:FuncId) (N:Nat) (k:List Item) (Q:ag→ak→Nat→Prop) (Ty:Types) (κ:Op→Nat) (ops:Array Oper)
end
section
variable {P:Program} {f:FuncId} {N:Nat} {k:List Item} {Q:ag→ak→Nat→Prop} {Ty:Types} {κ:Op→Nat} {ops:Array Oper} {o:Oper} {l:List Oper} {ρ:Env} {H:ak} {n:Nat} {c:Nat}
theorem xV {d:Operand} {args:Array Operand} {ats:Array TypeId}:args.toList.map (loc (.call ⟨.value d,args,ats⟩) ρ).ev=args.toList.map ρ.ev∧(loc (.call ⟨.value d,args,ats⟩) ρ).ev d=ρ.ev d:=
 ⟨List.map_congr_left fun x hx=>fu (by simp[Op.operands,Call.operands];exact .inr (by simpa using hx)),fu (by simp[Op.operands,Call.operands])⟩
end
end Go.Ab
