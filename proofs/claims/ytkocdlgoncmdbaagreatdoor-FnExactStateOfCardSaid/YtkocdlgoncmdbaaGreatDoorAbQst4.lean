/- Merged texts (4 of 18) of the proof that ends in Sty: Ty X P So Sx. -/
import Derived.Test.YtkocdlgoncmdbaaGreatDoorAbQst3
import Derived.Test.YtkocdlgoncmdbaaGreatDoorProg
import Derived.KernelRfl
import Derived.Shelf.Sort.Plain
open Go.Proofs.Tryz
set_option linter.unusedSectionVars false
set_option linter.unusedSimpArgs false
set_option linter.unusedVariables false
namespace Go.Ab
open Go.Proofs
theorem b5.of {P:Program} {t:TypeId} {s b:Nat} {z:List Value} (h:(P.underlying t).isSome=true) (h2:(P.info? t).map (fun i=>(i.size,i.bytes,i.zero.map Value.cells))=some (s,b,some z.toArray)):b5 P t ⟨(P.underlying t).getD .invalid,s,b,z⟩:=by
 refine⟨?_,?_⟩
 ·cases hu:P.underlying t with
  | none=>simp[hu] at h
  | some d=>rfl
 cases hi:P.info? t with
 | none=>simp[hi] at h2
 | some info=>
  simp only[hi,Option.map_some,Option.some.injEq,Prod.mk.injEq,Option.map_eq_some_iff] at h2;obtain⟨h3,h4,zv,h5,h6⟩:=h2;exact⟨info,zv,rfl,h3,h4,h5,h6⟩
noncomputable def rj:TI:=⟨(Tryz.prog.underlying 3).getD .invalid,1,8,[.int .i64 0]⟩
noncomputable def ty4:TI:=⟨(Tryz.prog.underlying 4).getD .invalid,1,1,[.bool false]⟩
noncomputable def Dj:TI:=⟨(Tryz.prog.underlying 9).getD .invalid,1,16,[.string ⟨#[]⟩]⟩
noncomputable def zc:TI:=⟨(Tryz.prog.underlying 22).getD .invalid,1,24,[.slice none 0 0]⟩
noncomputable def w0:TI:=⟨(Tryz.prog.underlying 23).getD .invalid,1,24,[.slice none 0 0]⟩
noncomputable def lZ:TI:=⟨(Tryz.prog.underlying 24).getD .invalid,1,24,[.slice none 0 0]⟩
noncomputable def uM:TI:=⟨(Tryz.prog.underlying 25).getD .invalid,1,24,[.slice none 0 0]⟩
noncomputable def vV:TI:=⟨(Tryz.prog.underlying 26).getD .invalid,1,24,[.slice none 0 0]⟩
noncomputable def vy:TI:=⟨(Tryz.prog.underlying 28).getD .invalid,6,112,[.int .i64 0,.slice none 0 0,.slice none 0 0,.int .i64 0,.slice none 0 0,.slice none 0 0]⟩
noncomputable def zp:TI:=⟨(Tryz.prog.underlying 32).getD .invalid,1,24,[.slice none 0 0]⟩
noncomputable def wI:TI:=⟨(Tryz.prog.underlying 34).getD .invalid,1,24,[.slice none 0 0]⟩
noncomputable def vj:TI:=⟨(Tryz.prog.underlying 35).getD .invalid,1,24,[.slice none 0 0]⟩
noncomputable def tM:TI:=⟨(Tryz.prog.underlying 37).getD .invalid,6,112,[.int .i64 0,.slice none 0 0,.slice none 0 0,.int .i64 0,.slice none 0 0,.slice none 0 0]⟩
noncomputable def wy:TI:=⟨(Tryz.prog.underlying 46).getD .invalid,1,24,[.slice none 0 0]⟩
noncomputable def uN:TI:=⟨(Tryz.prog.underlying 47).getD .invalid,1,24,[.slice none 0 0]⟩
noncomputable def yC:TI:=⟨(Tryz.prog.underlying 49).getD .invalid,2,48,[.slice none 0 0,.slice none 0 0]⟩
noncomputable def wE:TI:=⟨(Tryz.prog.underlying 53).getD .invalid,1,24,[.slice none 0 0]⟩
noncomputable def zd:TI:=⟨(Tryz.prog.underlying 55).getD .invalid,2,48,[.slice none 0 0,.slice none 0 0]⟩
noncomputable def xe:TI:=⟨(Tryz.prog.underlying 62).getD .invalid,3,32,[.string ⟨#[]⟩,.int .i64 0,.int .i64 0]⟩
noncomputable def wD:TI:=⟨(Tryz.prog.underlying 68).getD .invalid,3,32,[.string ⟨#[]⟩,.int .i64 0,.int .i64 0]⟩
noncomputable def wV:TI:=⟨(Tryz.prog.underlying 96).getD .invalid,3,40,[.int .i64 0,.int .i64 0,.slice none 0 0]⟩
noncomputable def wG:TI:=⟨(Tryz.prog.underlying 99).getD .invalid,2,24,[.string ⟨#[]⟩,.int .i64 0]⟩
noncomputable def pg:TI:=⟨(Tryz.prog.underlying 107).getD .invalid,2,24,[.string ⟨#[]⟩,.int .i64 0]⟩
noncomputable def pq:TI:=⟨(Tryz.prog.underlying 108).getD .invalid,3,40,[.int .i64 0,.int .i64 0,.slice none 0 0]⟩
noncomputable def pj:TI:=⟨(Tryz.prog.underlying 124).getD .invalid,9,184,[.int .i64 0,.slice none 0 0,.slice none 0 0,.int .i64 0,.slice none 0 0,.slice none 0 0,.slice none 0 0,.slice none 0 0,.slice none 0 0]⟩
noncomputable def pd:TI:=⟨(Tryz.prog.underlying 131).getD .invalid,3,24,[.int .i64 0,.int .i64 0,.int .i64 0]⟩
noncomputable def pf:TI:=⟨(Tryz.prog.underlying 155).getD .invalid,10,208,[.slice none 0 0,.int .i64 0,.slice none 0 0,.slice none 0 0,.int .i64 0,.slice none 0 0,.slice none 0 0,.slice none 0 0,.slice none 0 0,.slice none 0 0]⟩
noncomputable def rN:TI:=⟨(Tryz.prog.underlying 156).getD .invalid,1,24,[.slice none 0 0]⟩
noncomputable def qA:TI:=⟨(Tryz.prog.underlying 185).getD .invalid,1,8,[.int .u64 0]⟩
noncomputable def tyL:List (Nat × TI):=[(3,rj),(4,ty4),(9,Dj),(22,zc),(23,w0),(24,lZ),(25,uM),(26,vV),(28,vy),(32,zp),(34,wI),(35,vj),(37,tM),(46,wy),(47,uN),(49,yC),(53,wE),(55,zd),(62,xe),(68,wD),(96,wV),(99,wG),(107,pg),(108,pq),(124,pj),(131,pd),(155,pf),(156,rN),(185,qA)]
noncomputable def Ty:Types:=fun t=>(tyL.find? (fun p=>p.1 == t)).map (·.2)
theorem ok3:b5 prog 3 rj:=b5.of (by kernel_rfl) (by kernel_rfl)
theorem Ty_3:Ty 3=some rj:=by kernel_rfl
theorem Dl:rj.size=1:=rfl
theorem A6:rj.bytes=8:=rfl
theorem DR:rj.zero=[.int .i64 0]:=rfl
theorem Gs:rj.isAgg=false:=by kernel_rfl
theorem kd_3:kd Ty 3 = .int .i64:=by kernel_rfl
theorem ok4:b5 prog 4 ty4:=b5.of (by kernel_rfl) (by kernel_rfl)
theorem Ty_4:Ty 4=some ty4:=by kernel_rfl
theorem EA:ty4.size=1:=rfl
theorem Bg:ty4.bytes=1:=rfl
theorem D8:ty4.zero=[.bool false]:=rfl
theorem Gw:ty4.isAgg=false:=by kernel_rfl
theorem kd_4:kd Ty 4 = .bool:=by kernel_rfl
theorem ok9:b5 prog 9 Dj:=b5.of (by kernel_rfl) (by kernel_rfl)
theorem Ty_9:Ty 9=some Dj:=by kernel_rfl
theorem E0:Dj.size=1:=rfl
theorem CY:Dj.bytes=16:=rfl
theorem Fp:Dj.zero=[.string ⟨#[]⟩]:=rfl
theorem FL:Dj.isAgg=false:=by kernel_rfl
theorem kd_9:kd Ty 9 = .string:=by kernel_rfl
theorem ok22:b5 prog 22 zc:=b5.of (by kernel_rfl) (by kernel_rfl)
theorem Ty_22:Ty 22=some zc:=by kernel_rfl
theorem Ca:zc.size=1:=rfl
theorem zo:zc.bytes=24:=rfl
theorem C4:zc.zero=[.slice none 0 0]:=rfl
theorem EJ:zc.isAgg=false:=by kernel_rfl
theorem Au:kd Ty 22 = .slice xe:=by kernel_rfl
theorem ok23:b5 prog 23 w0:=b5.of (by kernel_rfl) (by kernel_rfl)
theorem Ty_23:Ty 23=some w0:=by kernel_rfl
theorem BS:w0.size=1:=rfl
theorem yd:w0.bytes=24:=rfl
theorem C2:w0.zero=[.slice none 0 0]:=rfl
theorem E6:w0.isAgg=false:=by kernel_rfl
theorem Ak:kd Ty 23 = .slice wV:=by kernel_rfl
theorem ok24:b5 prog 24 lZ:=b5.of (by kernel_rfl) (by kernel_rfl)
theorem Ty_24:Ty 24=some lZ:=by kernel_rfl
theorem CU:lZ.size=1:=rfl
theorem Ac:lZ.bytes=24:=rfl
theorem C5:lZ.zero=[.slice none 0 0]:=rfl
theorem Fi:lZ.isAgg=false:=by kernel_rfl
theorem aS:kd Ty 24 = .slice rj:=by kernel_rfl
theorem ok25:b5 prog 25 uM:=b5.of (by kernel_rfl) (by kernel_rfl)
theorem Ty_25:Ty 25=some uM:=by kernel_rfl
theorem BN:uM.size=1:=rfl
theorem yN:uM.bytes=24:=rfl
theorem De:uM.zero=[.slice none 0 0]:=rfl
theorem D1:uM.isAgg=false:=by kernel_rfl
theorem du:kd Ty 25 = .slice Dj:=by kernel_rfl
theorem ok26:b5 prog 26 vV:=b5.of (by kernel_rfl) (by kernel_rfl)
theorem Ty_26:Ty 26=some vV:=by kernel_rfl
theorem CF:vV.size=1:=rfl
theorem zj:vV.bytes=24:=rfl
theorem Cj:vV.zero=[.slice none 0 0]:=rfl
theorem Es:vV.isAgg=false:=by kernel_rfl
theorem AH:kd Ty 26 = .slice wG:=by kernel_rfl
theorem ok28:b5 prog 28 vy:=b5.of (by kernel_rfl) (by kernel_rfl)
theorem Ty_28:Ty 28=some vy:=by kernel_rfl
theorem BH:vy.size=6:=rfl
theorem zN:vy.bytes=112:=rfl
theorem Bp:vy.zero=[.int .i64 0,.slice none 0 0,.slice none 0 0,.int .i64 0,.slice none 0 0,.slice none 0 0]:=rfl
theorem En:vy.isAgg=true:=by kernel_rfl
theorem kd_28:kd Ty 28 = .struct [(0,rj),(1,w0),(2,lZ),(3,rj),(4,uM),(5,vV)]:=by kernel_rfl
theorem ok32:b5 prog 32 zp:=b5.of (by kernel_rfl) (by kernel_rfl)
theorem Ty_32:Ty 32=some zp:=by kernel_rfl
theorem A9:zp.size=1:=rfl
theorem yK:zp.bytes=24:=rfl
theorem Dc:zp.zero=[.slice none 0 0]:=rfl
theorem Fh:zp.isAgg=false:=by kernel_rfl
theorem Hd:kd Ty 32 = .slice wD:=by kernel_rfl
theorem ok34:b5 prog 34 wI:=b5.of (by kernel_rfl) (by kernel_rfl)
theorem Ty_34:Ty 34=some wI:=by kernel_rfl
theorem B8:wI.size=1:=rfl
theorem yA:wI.bytes=24:=rfl
theorem Bj:wI.zero=[.slice none 0 0]:=rfl
theorem E7:wI.isAgg=false:=by kernel_rfl
theorem b9:kd Ty 34 = .slice pq:=by kernel_rfl
theorem ok35:b5 prog 35 vj:=b5.of (by kernel_rfl) (by kernel_rfl)
theorem Ty_35:Ty 35=some vj:=by kernel_rfl
theorem BV:vj.size=1:=rfl
theorem xM:vj.bytes=24:=rfl
theorem CJ:vj.zero=[.slice none 0 0]:=rfl
theorem DF:vj.isAgg=false:=by kernel_rfl
theorem dM:kd Ty 35 = .slice pg:=by kernel_rfl
theorem ok37:b5 prog 37 tM:=b5.of (by kernel_rfl) (by kernel_rfl)
theorem AU:Ty 37=some tM:=by kernel_rfl
theorem Bs:tM.size=6:=rfl
theorem zO:tM.bytes=112:=rfl
theorem Cn:tM.zero=[.int .i64 0,.slice none 0 0,.slice none 0 0,.int .i64 0,.slice none 0 0,.slice none 0 0]:=rfl
theorem EX:tM.isAgg=true:=by kernel_rfl
theorem kd_37:kd Ty 37 = .struct [(0,rj),(1,wI),(2,lZ),(3,rj),(4,uM),(5,vj)]:=by kernel_rfl
theorem ok46:b5 prog 46 wy:=b5.of (by kernel_rfl) (by kernel_rfl)
theorem Ty_46:Ty 46=some wy:=by kernel_rfl
theorem CV:wy.size=1:=rfl
theorem zV:wy.bytes=24:=rfl
theorem Bq:wy.zero=[.slice none 0 0]:=rfl
theorem Ec:wy.isAgg=false:=by kernel_rfl
theorem q0:kd Ty 46 = .slice vy:=by kernel_rfl
theorem ok47:b5 prog 47 uN:=b5.of (by kernel_rfl) (by kernel_rfl)
theorem Ty_47:Ty 47=some uN:=by kernel_rfl
theorem Bx:uN.size=1:=rfl
theorem yt:uN.bytes=24:=rfl
theorem C1:uN.zero=[.slice none 0 0]:=rfl
theorem Eo:uN.isAgg=false:=by kernel_rfl
theorem fM:kd Ty 47 = .slice pd:=by kernel_rfl
theorem ok49:b5 prog 49 yC:=b5.of (by kernel_rfl) (by kernel_rfl)
theorem Ty_49:Ty 49=some yC:=by kernel_rfl
theorem A3:yC.size=2:=rfl
theorem xQ:yC.bytes=48:=rfl
theorem BT:yC.zero=[.slice none 0 0,.slice none 0 0]:=rfl
theorem Fq:yC.isAgg=true:=by kernel_rfl
theorem kd_49:kd Ty 49 = .struct [(0,wy),(1,uN)]:=by kernel_rfl
theorem ok53:b5 prog 53 wE:=b5.of (by kernel_rfl) (by kernel_rfl)
theorem Ty_53:Ty 53=some wE:=by kernel_rfl
theorem B9:wE.size=1:=rfl
theorem ye:wE.bytes=24:=rfl
theorem BZ:wE.zero=[.slice none 0 0]:=rfl
theorem Er:wE.isAgg=false:=by kernel_rfl
theorem iR:kd Ty 53 = .slice tM:=by kernel_rfl
theorem ok55:b5 prog 55 zd:=b5.of (by kernel_rfl) (by kernel_rfl)
theorem Ty_55:Ty 55=some zd:=by kernel_rfl
theorem Cv:zd.size=2:=rfl
theorem zG:zd.bytes=48:=rfl
theorem Dd:zd.zero=[.slice none 0 0,.slice none 0 0]:=rfl
theorem E3:zd.isAgg=true:=by kernel_rfl
theorem kd_55:kd Ty 55 = .struct [(0,wE),(1,uN)]:=by kernel_rfl
theorem ok62:b5 prog 62 xe:=b5.of (by kernel_rfl) (by kernel_rfl)
theorem Ty_62:Ty 62=some xe:=by kernel_rfl
theorem A8:xe.size=3:=rfl
theorem xU:xe.bytes=32:=rfl
theorem CG:xe.zero=[.string ⟨#[]⟩,.int .i64 0,.int .i64 0]:=rfl
theorem Dk:xe.isAgg=true:=by kernel_rfl
theorem kd_62:kd Ty 62 = .struct [(0,Dj),(1,rj),(2,rj)]:=by kernel_rfl
theorem ok68:b5 prog 68 wD:=b5.of (by kernel_rfl) (by kernel_rfl)
theorem Hl:Ty 68=some wD:=by kernel_rfl
theorem Ce:wD.size=3:=rfl
theorem zr:wD.bytes=32:=rfl
theorem AX:wD.zero=[.string ⟨#[]⟩,.int .i64 0,.int .i64 0]:=rfl
theorem FE:wD.isAgg=true:=by kernel_rfl
theorem kd_68:kd Ty 68 = .struct [(0,Dj),(1,rj),(2,rj)]:=by kernel_rfl
theorem ok96:b5 prog 96 wV:=b5.of (by kernel_rfl) (by kernel_rfl)
theorem Ty_96:Ty 96=some wV:=by kernel_rfl
theorem BK:wV.size=3:=rfl
theorem zR:wV.bytes=40:=rfl
theorem C9:wV.zero=[.int .i64 0,.int .i64 0,.slice none 0 0]:=rfl
theorem DE:wV.isAgg=true:=by kernel_rfl
theorem kd_96:kd Ty 96 = .struct [(0,rj),(1,rj),(2,lZ)]:=by kernel_rfl
theorem ok99:b5 prog 99 wG:=b5.of (by kernel_rfl) (by kernel_rfl)
theorem Ty_99:Ty 99=some wG:=by kernel_rfl
theorem Cw:wG.size=2:=rfl
theorem yU:wG.bytes=24:=rfl
theorem CN:wG.zero=[.string ⟨#[]⟩,.int .i64 0]:=rfl
theorem Fk:wG.isAgg=true:=by kernel_rfl
theorem kd_99:kd Ty 99 = .struct [(0,Dj),(1,rj)]:=by kernel_rfl
theorem ok107:b5 prog 107 pg:=b5.of (by kernel_rfl) (by kernel_rfl)
theorem DA:Ty 107=some pg:=by kernel_rfl
theorem zk:pg.size=2:=rfl
theorem xr:pg.bytes=24:=rfl
theorem yu:pg.zero=[.string ⟨#[]⟩,.int .i64 0]:=rfl
theorem BX:pg.isAgg=true:=by kernel_rfl
theorem kd_107:kd Ty 107 = .struct [(0,Dj),(1,rj)]:=by kernel_rfl
theorem ok108:b5 prog 108 pq:=b5.of (by kernel_rfl) (by kernel_rfl)
theorem ub:Ty 108=some pq:=by kernel_rfl
theorem yY:pq.size=3:=rfl
theorem wU:pq.bytes=40:=rfl
theorem zJ:pq.zero=[.int .i64 0,.int .i64 0,.slice none 0 0]:=rfl
theorem CB:pq.isAgg=true:=by kernel_rfl
theorem kd_108:kd Ty 108 = .struct [(0,rj),(1,rj),(2,lZ)]:=by kernel_rfl
theorem ok124:b5 prog 124 pj:=b5.of (by kernel_rfl) (by kernel_rfl)
theorem Ty_124:Ty 124=some pj:=by kernel_rfl
theorem zC:pj.size=9:=rfl
theorem wh:pj.bytes=184:=rfl
theorem yZ:pj.zero=[.int .i64 0,.slice none 0 0,.slice none 0 0,.int .i64 0,.slice none 0 0,.slice none 0 0,.slice none 0 0,.slice none 0 0,.slice none 0 0]:=rfl
theorem C6:pj.isAgg=true:=by kernel_rfl
theorem kd_124:kd Ty 124 = .struct [(0,tM),(6,lZ),(7,lZ),(8,lZ)]:=by kernel_rfl
theorem ok131:b5 prog 131 pd:=b5.of (by kernel_rfl) (by kernel_rfl)
theorem Ty_131:Ty 131=some pd:=by kernel_rfl
theorem xZ:pd.size=3:=rfl
theorem wx:pd.bytes=24:=rfl
theorem zi:pd.zero=[.int .i64 0,.int .i64 0,.int .i64 0]:=rfl
theorem B5:pd.isAgg=true:=by kernel_rfl
theorem yq:kd Ty 131 = .arr 3 rj:=by kernel_rfl
theorem ok155:b5 prog 155 pf:=b5.of (by kernel_rfl) (by kernel_rfl)
theorem Ty_155:Ty 155=some pf:=by kernel_rfl
theorem za:pf.size=10:=rfl
theorem vw:pf.bytes=208:=rfl
theorem z6:pf.zero=[.slice none 0 0,.int .i64 0,.slice none 0 0,.slice none 0 0,.int .i64 0,.slice none 0 0,.slice none 0 0,.slice none 0 0,.slice none 0 0,.slice none 0 0]:=rfl
theorem CH:pf.isAgg=true:=by kernel_rfl
theorem kd_155:kd Ty 155 = .struct [(0,lZ),(1,pj)]:=by kernel_rfl
theorem ok156:b5 prog 156 rN:=b5.of (by kernel_rfl) (by kernel_rfl)
theorem Ty_156:Ty 156=some rN:=by kernel_rfl
theorem yO:rN.size=1:=rfl
theorem wo:rN.bytes=24:=rfl
theorem yp:rN.zero=[.slice none 0 0]:=rfl
theorem BD:rN.isAgg=false:=by kernel_rfl
theorem DM:kd Ty 156 = .slice pf:=by kernel_rfl
theorem ok185:b5 prog 185 qA:=b5.of (by kernel_rfl) (by kernel_rfl)
theorem Ty_185:Ty 185=some qA:=by kernel_rfl
theorem yw:qA.size=1:=rfl
theorem vC:qA.bytes=8:=rfl
theorem zY:qA.zero=[.int .u64 0]:=rfl
theorem B3:qA.isAgg=false:=by kernel_rfl
theorem kd_185:kd Ty 185 = .int .u64:=by kernel_rfl
theorem ay:aW prog Ty:=by
 have h:∀ p ∈ tyL,b5 prog p.1 p.2:=by
  refine List.forall_mem_cons.2 ⟨ok3,?_⟩;refine List.forall_mem_cons.2 ⟨ok4,?_⟩;refine List.forall_mem_cons.2 ⟨ok9,?_⟩;refine List.forall_mem_cons.2 ⟨ok22,?_⟩;refine List.forall_mem_cons.2 ⟨ok23,?_⟩;refine List.forall_mem_cons.2 ⟨ok24,?_⟩;refine List.forall_mem_cons.2 ⟨ok25,?_⟩;refine List.forall_mem_cons.2 ⟨ok26,?_⟩;refine List.forall_mem_cons.2 ⟨ok28,?_⟩;refine List.forall_mem_cons.2 ⟨ok32,?_⟩;refine List.forall_mem_cons.2 ⟨ok34,?_⟩;refine List.forall_mem_cons.2 ⟨ok35,?_⟩;refine List.forall_mem_cons.2 ⟨ok37,?_⟩;refine List.forall_mem_cons.2 ⟨ok46,?_⟩;refine List.forall_mem_cons.2 ⟨ok47,?_⟩;refine List.forall_mem_cons.2 ⟨ok49,?_⟩;refine List.forall_mem_cons.2 ⟨ok53,?_⟩;refine List.forall_mem_cons.2 ⟨ok55,?_⟩;refine List.forall_mem_cons.2 ⟨ok62,?_⟩;refine List.forall_mem_cons.2 ⟨ok68,?_⟩;refine List.forall_mem_cons.2 ⟨ok96,?_⟩;refine List.forall_mem_cons.2 ⟨ok99,?_⟩;refine List.forall_mem_cons.2 ⟨ok107,?_⟩;refine List.forall_mem_cons.2 ⟨ok108,?_⟩;refine List.forall_mem_cons.2 ⟨ok124,?_⟩;refine List.forall_mem_cons.2 ⟨ok131,?_⟩;refine List.forall_mem_cons.2 ⟨ok155,?_⟩;refine List.forall_mem_cons.2 ⟨ok156,?_⟩;refine List.forall_mem_cons.2 ⟨ok185,?_⟩;simp
 intro t i hi;unfold Ty at hi;cases hf:tyL.find? (fun p=>p.1 == t) with
 | none=>simp[hf] at hi
 | some p=>
  simp only[hf,Option.map_some,Option.some.injEq] at hi;have h1:=List.find?_some hf;have h2:=h p (List.mem_of_find?_eq_some hf);simp only[beq_iff_eq] at h1;rw[<- h1,<- hi];exact h2
attribute [simp] Dl EA E0 Ca BS CU BN CF BH A9 B8 BV Bs CV Bx A3 B9 Cv A8 Ce BK Cw zk yY zC xZ za yO yw Gs Gw FL EJ E6 Fi D1 Es En Fh E7 DF EX Ec Eo Fq Er E3 Dk FE DE Fk BX CB C6 B5 CH BD B3 DR D8 Fp C4 C2 C5 De Cj Bp Dc Bj CJ Cn Bq C1 BT BZ Dd CG AX C9 CN yu zJ yZ zi z6 yp zY Ty_3 Ty_4 Ty_9 Ty_22 Ty_23 Ty_24 Ty_25 Ty_26 Ty_28 Ty_32 Ty_34 Ty_35 AU Ty_46 Ty_47 Ty_49 Ty_53 Ty_55 Ty_62 Hl Ty_96 Ty_99 DA ub Ty_124 Ty_131 Ty_155 Ty_156 Ty_185 kd_3 kd_4 kd_9 Au Ak aS du AH kd_28 Hd b9 dM kd_37 q0 fM kd_49 iR kd_55 kd_62 kd_68 kd_96 kd_99 kd_107 kd_108 kd_124 yq kd_155 DM kd_185 A6 Bg CY zo yd Ac yN zj zN yK yA xM zO zV yt xQ ye zG xU zr zR yU xr wU wh wx vw wo vC
end Go.Ab
namespace Go.Ab
open Go.Proofs
section
variable {f:FuncId} {N:Nat} {k:List Item} {O:Env} {H:ax} {n:Nat} {Q:au->ax->Nat->Prop} {id:Nat} {ops:List Oper} {y:Code}
theorem zE (h:∀ k':List Item,(∀ O H n,J prog f N (.code y::k) O H n Q->J prog f N k' O H n Q)->cd prog f N k' Q Ty ops.toArray ops O H n) (hN:ops.all (fun o=>dC N o.dst)=true:=by decide):J prog f N (.code (.seq (.region id ops.toArray false) y)::k) O H n Q:=J.seqE ay hN h
theorem zF (h:∀ k':List Item,(∀ O H n,J prog f N k O H n Q->J prog f N k' O H n Q)->cd prog f N k' Q Ty ops.toArray ops O H n) (hN:ops.all (fun o=>dC N o.dst)=true:=by decide):J prog f N (.code (.region id ops.toArray false)::k) O H n Q:=J.evalE ay hN h
end
def within (n lo hi:Int):Bool:=decide (lo<=n) && decide (n<=hi)
theorem db (n lo hi:Int):aC prog 90 [int n,int lo,int hi] (fun r=>r=bool (within n lo hi)):=by
 refine aC.of func90 rfl ntmps90 (by simp) fun Q hQ=>?_
 refine zE fun _ V=>?_
 simp;refine V _ _ _ (zE fun _ V=>?_);simp
 by_cases h:lo<=n
 all_goals
  simp[h];refine V _ _ _ (J.ret func90 (aR.one results90) (hQ _ _ _ _ (eG.v _ _ _) ?_));simp[within,h]
structure FZ where
 kind:Int
 name:cP
 parent:Int
 deriving Inhabited,DecidableEq
abbrev Proc:=List FZ
end Go.Ab
namespace Go.Ab
open Go.Proofs
theorem bq:Tryz.prog.follows .mixedOrders=true:=by kernel_rfl
theorem Dg:a8 prog 90:=a8.of func90 (by kernel_rfl) rfl
end Go.Ab
namespace Go.Ab
open Go.Proofs Go.RowKit
end Go.Ab
namespace Go.Ab
section
variable (P:Program) (N:Nat) (ops:Array Oper) (κ:Op->Nat) (cix:Nat)
end
section
variable {P:Program} {N:Nat} {ops:Array Oper} {κ:Op->Nat} {cix:Nat}
end
section
variable {P:Program} {f:FuncId} {N:Nat} {k:List Item} {O:Env} {H:ax} {n:Nat} {Q:au->ax->Nat->Prop} {κ:Op->Nat}
end
section
variable (P:Program) (f:FuncId) (N:Nat) (k:List Item) (Q:au->ax->Nat->Prop) (Ty:Types) (κ:Op->Nat) (ops:Array Oper)
end
section
variable {P:Program} {f:FuncId} {N:Nat} {k:List Item} {Q:au->ax->Nat->Prop} {Ty:Types} {κ:Op->Nat} {ops:Array Oper} {o:Oper} {l:List Oper} {O:Env} {H:ax} {n:Nat} {c:Nat}
theorem wg {d:Operand} {args:Array Operand} {ats:Array TypeId}:args.toList.map (loc (.call ⟨.value d,args,ats⟩) O).ev=args.toList.map O.ev/\(loc (.call ⟨.value d,args,ats⟩) O).ev d=O.ev d:=
 ⟨List.map_congr_left fun x hx=>dm (by simp[Op.operands,Call.operands];exact .inr (by simpa using hx)),dm (by simp[Op.operands,Call.operands])⟩
end
end Go.Ab
namespace Go.Ab
open Go.Proofs
theorem zA {f:FuncId} {N:Nat} {k:List Item} {Q:au -> ax -> Nat -> Prop} {l:List Oper} {O:Env} {H:ax} {n:Nat} {d:Option Tmp} {g:Operand} {args:Array Operand} {ats:Array TypeId} {ty:TypeId} {pos:String} {af:Array Edge} {R:au -> Prop} {f':FuncId} {xs ys:List au} {ops:List Oper}
 (h:aC prog f' ys R) (c9:a8 prog f') (ha:bS H n xs ys) (has:args.toList.map O.ev=xs) (hk:∀ v,R v -> cd prog f N k Q Ty ops.toArray l (O.put d v) H n) (hN:ops.all (fun o=>dC N o.dst)=true:=by decide) (hl:(⟨d,.call ⟨.value g,args,ats⟩,ty,pos,af,none⟩::l:List Oper).all (fun o=>dC N o.dst)=true:=by decide) (hg:O.ev g=.fn (.func f') [] []:=by rfl):
 bz prog f N k Q ops.toArray (⟨d,.call ⟨.value g,args,ats⟩,ty,pos,af,none⟩::l) O H n:=bz.bN ay h c9 ha hN hl hg has hk
end Go.Ab
namespace Go.Ab
open Go.Proofs
theorem zW {f:FuncId} {N:Nat} {k:List Item} {Q:au -> ax -> Nat -> Prop} {l:List Oper} {O:Env} {H:ax} {n:Nat} {K:List bX} {ids:List Id} {d:Option Tmp} {g:Operand} {args:Array Operand} {ats:Array TypeId} {ty:TypeId} {pos:String} {af:Array Edge} {R:au -> Prop} {f':FuncId} {xs ys:List au} {ops:List Oper} {sh:Sh}
 (h:bG prog f' ys sh R) (c9:a8 prog f') (ha:bS H n xs ys) (hs:Sep H n K ids) (has:args.toList.map O.ev=xs) (hk:∀ v H1 U r,Sep H1 U ((sh,v,r)::K) ids -> R r -> n <= U -> (∀ i ∈ ids,H1 i=H i) -> cd prog f N k Q Ty ops.toArray l (O.put d v) H1 U) (hN:ops.all (fun o=>dC N o.dst)=true:=by decide) (hl:(⟨d,.call ⟨.value g,args,ats⟩,ty,pos,af,none⟩::l:List Oper).all (fun o=>dC N o.dst)=true:=by decide) (hg:O.ev g=.fn (.func f') [] []:=by rfl):
 bz prog f N k Q ops.toArray (⟨d,.call ⟨.value g,args,ats⟩,ty,pos,af,none⟩::l) O H n:=bz.lK ay h c9 ha hs hN hl hg has hk
end Go.Ab
namespace Go.Ab
open Go.Proofs
theorem zS {f:FuncId} {N:Nat} {k:List Item} {Q:au -> ax -> Nat -> Prop} {O:Env} {H:ax} {n:Nat} {id:Nat} {ops:List Oper} {y z:Code} (h:∀ k':List Item,(∀ O H n,J prog f N (.code y::.code z::k) O H n Q -> J prog f N k' O H n Q) -> cd prog f N k' Q Ty ops.toArray ops O H n) (hN:ops.all (fun o=>dC N o.dst)=true:=by decide):J prog f N (.code (.seq (.seq (.region id ops.toArray false) y) z)::k) O H n Q:=J.seq (zE h hN)
theorem zI {f:FuncId} {N:Nat} {k:List Item} {Q:au -> ax -> Nat -> Prop} {O:Env} {H:ax} {n:Nat} {id j:Nat} {ops:List Oper} (h:∀ k':List Item,(∀ O H n,J prog f N k O H n Q -> J prog f N k' O H n Q) -> cd prog f N k' Q Ty ops.toArray ops O H n) (hN:ops.all (fun o=>dC N o.dst)=true:=by decide):J prog f N (.inBlock j::.code (.region id ops.toArray false)::k) O H n Q:=J.inBlock (zF h hN)
theorem zK {f:FuncId} {N:Nat} {k:List Item} {Q:au -> ax -> Nat -> Prop} {O:Env} {H:ax} {n:Nat} {y z:Code} (h:J prog f N (.code y::.code z::k) O H n Q):J prog f N (.code .skip::.code (.seq y z)::k) O H n Q:=J.skip (J.seq h)
end Go.Ab
