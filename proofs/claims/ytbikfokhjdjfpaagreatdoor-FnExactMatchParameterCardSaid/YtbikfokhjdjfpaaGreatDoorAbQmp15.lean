/- Merged texts (15 of 17) of the proof that ends in Mpy: Ncw Sf. -/
import Derived.Test.YtbikfokhjdjfpaaGreatDoorAbQmp14
/- Walks by program for YtbikfokhjdjfpaaGreatDoorAbNc. -/
namespace Go.Ab.Vg
open Go.Proofs
set_option maxRecDepth 100000
set_option linter.unusedSimpArgs false
set_option linter.unusedVariables false
attribute [local simp] Control.cells aj.cells aA.cells al gp aL bC pA zB
theorem e53:Ent Tryz.prog 53:=Ent.of Tryz.func53 (by kernel_rfl) rfl
theorem xM (s:List Int) (v_:Int) (Z:Int→Prop) (h:m5 s v_ Z):aq Tryz.prog 53 [.list false (s.map al),int v_] (fun r=>∃ y:Int,Z y∧r=int y):=by
 unfold m5 at h
 refine aq.of Tryz.func53 rfl Tryz.ntmps53 (by simp) fun Q hQ=>?_
 refine aa.cut (fun ρ H n=>(ρ 0 = .list false (s.map al)∧ρ 1=int v_)) (by simp) ?_
 rintro ρ H n1 hh
 refine zE fun k' hk'=>?_
 simp[hh]
 apply hk'
 refine aa.seq ?_
 refine zE fun k' hk'=>?_
 obtain⟨cf,elen2,h⟩:=atm h
 have f3:=fun H=>ax (H:=H) (fr:=false) (f:=al) aO elen2
 simp[hh,f3,-aH]
 apply hk'
 refine aa.block ?_
 refine aa.aw h (fun (sJ:Int) ρ H n=>match sJ with | v6=>(ρ 0 = .list false (s.map al)∧ρ 1=int v_∧ρ 7=int cf∧ρ 8=int v6)) (by simp[hh]) ?_
 clear hh
 rintro v6 ρ H n7 K h hh IH8
 refine zE fun k' hk'=>?_
 obtain⟨d,e,h⟩:=atm h
 have f11:=aT (k:=.i64) e
 simp[hh,f11,-ai]
 apply hk'
 refine aa.seq ?_
 refine aa.ite (b:=d) (by simp[hh]) (fun a=>?_) (fun a=>?_)
 ·replace h:=h.1 a
  refine aa.skip ?_
  refine aa.seq ?_
  refine aa.block ?_
  refine zE fun k' hk'=>?_
  simp[hh,a]
  apply hk'
  refine zE fun k' hk'=>?_
  obtain⟨g,h⟩:=h
  obtain⟨t,i,h⟩:=atm h
  have f14:=fun H=>aE (H:=H) (fr:=false) (f:=al) (k:=.i64) aO (fun _=>rfl) g i
  obtain⟨j,l,h⟩:=atm h
  have f16:=cJ (k:=.i64) l
  simp[hh,f14,f16,a,-ah,-ai]
  apply hk'
  refine aa.ite (b:=j) (by simp[hh,a]) (fun c=>?_) (fun c=>?_)
  ·replace h:=h.1 c
   refine zE fun k' hk'=>?_
   simp[hh,a,c]
   apply hk'
   exact aa.aV (v:=int v6) Tryz.func53 Tryz.results53 (by simp[hh,a,c]) (hQ _ _ _ _ (.of (.v _)) ⟨v6,h,rfl⟩)
  replace h:=h.2 c
  refine aa.skip ?_
  refine aa.inBlock ?_
  refine zF fun k' hk'=>?_
  obtain⟨o,h⟩:=h
  obtain⟨p,q,h⟩:=atm h
  have f19:=aI o q
  simp[hh,f19,a,c,-ai]
  apply hk'
  refine IH8 (p) _ _ _ h (by simp[hh,a,c])
 replace h:=h.2 a
 refine aa.exit rfl ?_
 refine zE fun k' hk'=>?_
 simp[hh,a]
 apply hk'
 exact aa.aV (v:=int (-1)) Tryz.func53 Tryz.results53 (by simp[hh,a]) (hQ _ _ _ _ (.of (.v _)) ⟨(-1),h,rfl⟩)
theorem kb (s:List Int) (v_:Int) (hp:eK s v_):aq Tryz.prog 53 [.list false (s.map al),int v_] (fun r=>r=int (aW s v_)):=(xM s v_ _ (BM s v_ hp)).mono (by rintro _ ⟨_,rfl,rfl⟩;rfl)
theorem e51:Ent Tryz.prog 51:=Ent.of Tryz.func51 (by kernel_rfl) rfl
theorem Ay {gF4:FuncId} {cF4:List ag} {gF5:FuncId} {cF5:List ag} (b:Big) (nodes:List Int) (edges:List Int) (outer:List Str) (f4:Int→Int) (D4:Int→Prop) (f5:Int→Str) (D5:Int→Prop) (heF4:Ent Tryz.prog gF4) (hcF4:∀ H n,bA H n cF4 cF4) (hF4:∀ z0,D4 z0→aq Tryz.prog gF4 ((int z0)::cF4) (fun r=>r=int (f4 z0))) (heF5:Ent Tryz.prog gF5) (hcF5:∀ H n,bA H n cF5 cF5) (hF5:∀ z0,D5 z0→aq Tryz.prog gF5 ((int z0)::cF5) (fun r=>r=str (f5 z0))) (Z:Big→Prop) (h:oR b nodes edges outer f4 D4 f5 D5 Z):a7 Tryz.prog 51 [.agg (bC false b),.list false (nodes.map al),.list false (edges.map al),.list false (outer.map aL),.fn (.func gF4) [] cF4,.fn (.func gF5) [] cF5] (.a [.c,.s [.c,.c,.s [.c]],.s [.c],.c,.s [.c],.s [.c,.c]]) (fun r=>∃ y:Big,Z y∧r = .agg (bC true y)):=by
 unfold oR at h
 have sp:Sep bc 0 [] []:=Sep.nil (by simp)
 refine a7.of Tryz.func51 rfl Tryz.ntmps51 (by simp) fun Q hQ=>?_
 refine aa.cut (fun ρ H n=>(ρ 0 = .agg (bC false b)∧ρ 1 = .list false (nodes.map al)∧ρ 2 = .list false (edges.map al)∧ρ 3 = .list false (outer.map aL)∧ρ 4 = .fn (.func gF4) [] cF4∧ρ 5 = .fn (.func gF5) [] cF5)∧Sep H n [] []) (by refine⟨by simp ,sp⟩) ?_
 rintro ρ H n1 ⟨hh,sp⟩
 refine zE fun k' hk'=>?_
 simp[hh]
 apply hk'
 refine aa.cut (fun ρ H n=>((ρ 1 = .list false (nodes.map al)∧ρ 2 = .list false (edges.map al)∧ρ 3 = .list false (outer.map aL)∧ρ 4 = .fn (.func gF4) [] cF4∧ρ 5 = .fn (.func gF5) [] cF5∧ρ 6=pA n1 6∧ρ 12=pA (n1+1) 12)∧H (n1,6)=some ⟨6,[bC false b]⟩∧H (n1+1,12)=some ⟨6,[zB]⟩)∧Sep H n [] [(n1+1,12),(n1,6)]) (by refine⟨by simp[hh],sp.var.var⟩) ?_
 clear hh
 rintro ρ H n4 ⟨⟨hh,e,g⟩,sp⟩
 refine aa.cut (fun ρ H n=>((ρ 1 = .list false (nodes.map al)∧ρ 2 = .list false (edges.map al)∧ρ 3 = .list false (outer.map aL)∧ρ 4 = .fn (.func gF4) [] cF4∧ρ 5 = .fn (.func gF5) [] cF5∧ρ 6=pA n1 6∧ρ 12=pA (n1+1) 12)∧H (n1,6)=some ⟨6,[bC false b]⟩∧H (n1+1,12)=some ⟨6,[zB]⟩)∧Sep H n [] [(n1+1,12),(n1,6)]) (by refine⟨by simp[hh,e,g],sp⟩) ?_
 clear hh e g
 rintro ρ H n5 ⟨⟨hh,e,g⟩,sp⟩
 obtain⟨cK,elen6,h⟩:=atm h
 have f7:=fun H=>ax (H:=H) (fr:=false) (f:=al) aO elen6
 obtain⟨hb8,h⟩:=h
 obtain⟨r9,er9,h⟩:=atm h
 have hid12:=sp.1
 refine aa.seq (aa.A4 (Reg.Inv { m:=9,c:=5,a:=7,st:=8,d:=13,B:=[(1,.list false (nodes.map al)),(2,.list false (edges.map al)),(3,.list false (outer.map aL)),(4,.fn (.func gF4) [] cF4),(5,.fn (.func gF5) [] cF5),(6,pA n1 6),(12,pA (n1+1) 12)],F:=fun GI AI=>[(0,20,pA n1 6),(1,21,int b.roots),(2,22,.list false (edges.map al)),(3,23,int cK),(4,24,.list false (outer.map aL)),(5,25,(gv GI 0)),(6,26,.agg [int b.roots,.v (.slice none 0 0),.v (.slice none 0 0),int cK,(gv GI 0),.v (.slice none 0 0)]),(7,13,.ptr (AI,13) 1 0 0)],ent:=fun GI=>[(.s [.c],(gv GI 0),.list true (r9.map aL))],ob0:=⟨6,[zB]⟩,ob1:=fun GI=>⟨6,[[int b.roots,.v (.slice none 0 0),.v (.slice none 0 0),int cK,(gv GI 0),.v (.slice none 0 0)]]⟩,RG:=fun GI=>Ab.ay (gv GI 0)=true,onC:=[6,8],onA:=[8],H0:=H,n0:=n5,K:=[],ids:=[(n1+1,12),(n1,6)] }) bU (by decide) (Reg.init (Old.cons hh.1 (Old.cons hh.2.1 (Old.cons hh.2.2.1 (Old.cons hh.2.2.2.1 (Old.cons hh.2.2.2.2.1 (Old.cons hh.2.2.2.2.2.1 (Old.cons hh.2.2.2.2.2.2 Old.nil))))))) sp) ?_ ?_)
 ·rintro (_ | _ | _ | _ | _ | _ | _ | _ | _ | i)
  ·exact Reg.det (i:=0) rfl rfl rfl rfl (fun L' ρ' H' n' G' A' hO hT hd hG hcl hfr sp=>⟨pA n1 6,aJ ae (by rw[aC];have t6:=hO.at 5 rfl;have mm6_1:=(hfr (n1,6) (by simp)).trans e;simp[t6,mm6_1]),by simp⟩)
  ·exact Reg.det (i:=1) rfl rfl rfl rfl (fun L' ρ' H' n' G' A' hO hT hd hG hcl hfr sp=>⟨int b.roots,aJ ae (by rw[aC];have t20:=hT.at 0 rfl (hd ⟨0,.data⟩ (by simp) rfl);have mm6_1:=(hfr (n1,6) (by simp)).trans e;simp[t20,mm6_1]),by simp⟩)
  ·exact Reg.det (i:=2) rfl rfl rfl rfl (fun L' ρ' H' n' G' A' hO hT hd hG hcl hfr sp=>⟨.list false (edges.map al),aJ ae (by rw[aC];have t2:=hO.at 1 rfl;simp[t2]),by simp⟩)
  ·exact Reg.det (i:=3) rfl rfl rfl rfl (fun L' ρ' H' n' G' A' hO hT hd hG hcl hfr sp=>⟨int cK,aJ ae (by rw[aC];have t22:=hT.at 2 rfl (hd ⟨2,.data⟩ (by simp) rfl);simp[t22,f7,-aH]),by simp⟩)
  ·exact Reg.det (i:=4) rfl rfl rfl rfl (fun L' ρ' H' n' G' A' hO hT hd hG hcl hfr sp=>⟨.list false (outer.map aL),aJ ae (by rw[aC];have t3:=hO.at 2 rfl;simp[t3]),by simp⟩)
  ·refine Reg.call rfl rfl rfl ⟨_,rZ outer hb8,fun L' ρ' H' n' G' A' hO hT hd hfr sp=>by have t24:=hT.at 4 rfl (hd ⟨4,.data⟩ (by simp) rfl);exact⟨by simp[t24],bA.of_eq (xs:=[.list false (outer.map aL)]) (by simp[t24]) (.cons (o6 false outer) .nil)⟩⟩ Ii ?_
   rintro H' n' v r ids sp rfl
   rw[← er9] at sp
   have hov:=Sep.ay sp
   replace sp:=Sep.rot sp
   try simp only[List.cons_append,List.nil_append,List.append_assoc] at sp
   replace sp:=Sep.swap (K1:=([])) (K2:=[(.s [.c],v,.list true (r9.map aL))]) sp
   exact⟨[v],hov,sp,fun A'=>by simp⟩
  ·exact Reg.det (i:=6) rfl rfl rfl rfl (fun L' ρ' H' n' G' A' hO hT hd hG hcl hfr sp=>⟨.agg [int b.roots,.v (.slice none 0 0),.v (.slice none 0 0),int cK,(gv G' 0),.v (.slice none 0 0)],aJ ae (by rw[aC];have t21:=hT.at 1 rfl (hd ⟨1,.data⟩ (by simp) rfl);have t23:=hT.at 3 rfl (hd ⟨3,.data⟩ (by simp) rfl);have t25:=hT.at 5 rfl (hd ⟨5,.data⟩ (by simp) rfl);have hG2:Ab.ay (gv G' 0)=true:=hG (hd ⟨5,.data⟩ (by simp) rfl);have hG3:ar (gv G' 0)=some [gv G' 0]:=(by simp only[z8,hG2,and_self]);simp[t21,t23,t25,hG2,hG3,-ay,-ar,cAx,o1x]),by simp⟩) (hc:=fun _=>⟨⟨5,.data⟩,by simp,rfl,by simp⟩)
  ·exact Reg.alloc ae rfl pY rfl rfl rfl
  ·exact Reg.store ae rfl rfl rfl hid12 ⟨⟨6,.data⟩,by simp,rfl,by simp⟩ ⟨⟨7,.data⟩,by simp,rfl,by simp⟩ (fun L' ρ' H' G' A' hO hT hd hG hw=>by have t13:=hT.at 7 rfl (hd ⟨7,.data⟩ (by simp) rfl);have t26:=hT.at 6 rfl (hd ⟨6,.data⟩ (by simp) rfl);have hG2:Ab.ay (gv G' 0)=true:=hG;simp[t13,t26,hG2,hw,pY,-ay,vB,qD,vJ,uT,qK,vT,vI])
  ·exact jV.none (by simp)
 ·rintro L' ⟨ρ,H,n15⟩ hI hr
  obtain⟨b1,p,hO,hT,hG,sp,ce,hn0_,hA_,j⟩:=Reg.fin (by kernel_rfl) rfl (show (5:Nat)<9∧(7:Nat)<9∧(8:Nat)<9 by decide) (by intro G' A';simp) hI hr
  show aa _ _ _ _ ρ H n15 _
  replace hO:Old ρ _:=hO
  replace hT:zK ρ _:=hT
  clear hh
  have h1:=hO.at 0 rfl
  have h2:=hO.at 1 rfl
  have h3:=hO.at 2 rfl
  have h4:=hO.at 3 rfl
  have h5:=hO.at 4 rfl
  have h6:=hO.at 5 rfl
  have h12:=hO.at 6 rfl
  have h20:=hT.at 0 rfl
  have h21:=hT.at 1 rfl
  have h22:=hT.at 2 rfl
  have h23:=hT.at 3 rfl
  have h24:=hT.at 4 rfl
  have h25:=hT.at 5 rfl
  have h26:=hT.at 6 rfl
  have h13:=hT.at 7 rfl
  have g:H (n1+1,12)=some ⟨6,[zB]⟩:=(ce (n1+1,12) (by simp)).trans g
  have e:H (n1,6)=some ⟨6,[bC false b]⟩:=(ce (n1,6) (by simp)).trans e
  have j:H (p,13)=some ⟨6,[[int b.roots,.v (.slice none 0 0),.v (.slice none 0 0),int cK,(gv b1 0),.v (.slice none 0 0)]]⟩:=j
  replace sp:Sep H n15 [oS (gv b1 0) r9] [(p,13),(n1+1,12),(n1,6)]:=sp
  refine aa.cut (fun ρ H n=>∃ (Y:ag),((ρ 1 = .list false (nodes.map al)∧ρ 2 = .list false (edges.map al)∧ρ 4 = .fn (.func gF4) [] cF4∧ρ 5 = .fn (.func gF5) [] cF5∧ρ 6=pA n1 6∧ρ 12=pA (n1+1) 12∧ρ 13 = .ptr (p,13) 1 0 0)∧H (n1,6)=some ⟨6,[bC false b]⟩∧H (n1+1,12)=some ⟨6,[zB]⟩∧H (p,13)=some ⟨6,[[int b.roots,.v (.slice none 0 0),.v (.slice none 0 0),int cK,Y,.v (.slice none 0 0)]]⟩)∧Sep H n [oS Y r9] [(p,13),(n1+1,12),(n1,6)]) (by refine⟨(gv b1 0),by simp[e,g,j,h1,h2,h3,h4,h5,h6,h12,h20,h21,h22,h23,h24,h25,h26,h13],sp⟩) ?_
  clear e g j h1 h2 h3 h4 h5 h6 h12 h20 h21 h22 h23 h24 h25 h26 h13
  rintro ρ H n18 ⟨Y,⟨hh,e,g,j⟩,sp⟩
  refine aa.seq ?_
  refine zE fun k' hk'=>?_
  obtain⟨I,cs,h⟩:=atm h
  have f20:=fun H=>ax (H:=H) (fr:=false) (f:=al) aO cs
  simp[hh,e,g,j,f20,-aH]
  apply hk'
  refine aa.block ?_
  refine aa.aw h (fun (sJ:Int × (List aj)) ρ H n=>match sJ with | (v40,u)=>∃ (T U V W:ag),((ρ 2 = .list false (edges.map al)∧ρ 4 = .fn (.func gF4) [] cF4∧ρ 5 = .fn (.func gF5) [] cF5∧ρ 6=pA n1 6∧ρ 12=pA (n1+1) 12∧ρ 13 = .ptr (p,13) 1 0 0∧ρ 27 = .list false (nodes.map al)∧ρ 28=int I∧ρ 29=int v40)∧H (n1,6)=some ⟨6,[bC false b]⟩∧H (n1+1,12)=some ⟨6,[zB]⟩∧H (p,13)=some ⟨6,[[int b.roots,V,U,int cK,W,T]]⟩)∧Sep H n [oW T ([]:List aA),oI U ([]:List Int),oN V u,oS W r9] [(p,13),(n1+1,12),(n1,6)]) (by refine⟨.v (.slice none 0 0),.v (.slice none 0 0),.v (.slice none 0 0),Y,by simp[hh,e,g,j],(Sep.cu (Sep.cu (Sep.cu sp)))⟩) ?_
  clear hh e g j
  rintro⟨v40,u⟩ ρ H gg K h ⟨T,U,V,W,⟨hh,e,g,j⟩,sp⟩ c0
  refine zE fun k' hk'=>?_
  obtain⟨c1,c2,h⟩:=atm h
  have f50:=aT (k:=.i64) c2
  simp[hh,e,g,j,f50,-ai]
  apply hk'
  refine aa.seq ?_
  refine aa.ite (b:=c1) (by simp[hh,e,g,j]) (fun J=>?_) (fun J=>?_)
  ·replace h:=h.1 J
   refine aa.skip ?_
   refine aa.seq ?_
   refine aa.block ?_
   refine zE fun k' hk'=>?_
   obtain⟨c3,h⟩:=h
   obtain⟨L,c4,h⟩:=atm h
   have f53:=fun H=>aE (H:=H) (fr:=false) (f:=al) (k:=.i64) aO (fun _=>rfl) c3 c4
   simp[hh,e,g,j,f53,J,-ah]
   apply hk'
   refine aa.cut (fun ρ H n=>∃ (M N O R:ag),((ρ 2 = .list false (edges.map al)∧ρ 4 = .fn (.func gF4) [] cF4∧ρ 5 = .fn (.func gF5) [] cF5∧ρ 6=pA n1 6∧ρ 12=pA (n1+1) 12∧ρ 13 = .ptr (p,13) 1 0 0∧ρ 15=int L∧ρ 27 = .list false (nodes.map al)∧ρ 28=int I∧ρ 29=int v40)∧H (n1,6)=some ⟨6,[bC false b]⟩∧H (n1+1,12)=some ⟨6,[zB]⟩∧H (p,13)=some ⟨6,[[int b.roots,O,N,int cK,R,M]]⟩)∧Sep H n [oW M ([]:List aA),oI N ([]:List Int),oN O u,oS R r9] [(p,13),(n1+1,12),(n1,6)]) (by refine⟨T,U,V,W,by simp[hh,e,g,j,J],sp⟩) ?_
   clear hh e g j
   rintro ρ H c6 ⟨M,N,O,R,⟨hh,e,g,j⟩,sp⟩
   obtain⟨c8,h⟩:=h
   obtain⟨o,b2,h⟩:=atm h
   have f61:=fun H=>aE (H:=H) (fr:=false) (f:=(aj.cells false)) (k:=.i64) bj (fun _=>rfl) c8 b2
   obtain⟨c9,h⟩:=h
   obtain⟨gi,da,h⟩:=atm h
   have dc:=b2.trans da.symm
   subst dc
   have f65:=fun H=>aE (H:=H) (fr:=false) (f:=(aj.cells false)) (k:=.i64) bj (fun _=>rfl) c9 b2
   obtain⟨dl,h⟩:=h
   obtain⟨E,ds,h⟩:=atm h
   have hid69:=sp.1
   refine aa.seq (aa.A4 (Reg.Inv { m:=17,c:=13,a:=15,st:=16,d:=16,B:=[(2,.list false (edges.map al)),(4,.fn (.func gF4) [] cF4),(5,.fn (.func gF5) [] cF5),(6,pA n1 6),(12,pA (n1+1) 12),(13,.ptr (p,13) 1 0 0),(15,int L),(27,.list false (nodes.map al)),(28,int I),(29,int v40)],F:=fun GI AI=>[(0,33,.ptr (n1,6) 1 0 1),(1,34,.list false (b.nodes.map (aj.cells false))),(2,35,int L),(3,36,.iptr false [int o.control,int o.parent,.list false (o.links.map al)]),(4,37,.iptr false [int o.control,int o.parent,.list false (o.links.map al)]),(5,38,int o.control),(6,39,.fn (.func gF4) [] cF4),(7,40,.ptr (n1,6) 1 0 1),(8,41,.list false (b.nodes.map (aj.cells false))),(9,42,int L),(10,43,.iptr false [int o.control,int o.parent,.list false (o.links.map al)]),(11,44,.iptr false [int o.parent,.list false (o.links.map al)]),(12,45,int o.parent),(13,46,int E),(14,47,.agg [int o.control,int E,.v (.slice none 0 0)]),(15,16,.ptr (AI,16) 1 0 0)],ent:=fun GI=>[],ob0:=⟨3,[[int 0,int 0,.v (.slice none 0 0)]]⟩,ob1:=fun GI=>⟨3,[[int o.control,int E,.v (.slice none 0 0)]]⟩,RG:=fun GI=>True,onC:=[14,16],onA:=[16],H0:=H,n0:=c6,K:=[oW M ([]:List aA),oI N ([]:List Int),oN O u,oS R r9],ids:=[(p,13),(n1+1,12),(n1,6)] }) bU (by decide) (Reg.init (Old.cons hh.1 (Old.cons hh.2.1 (Old.cons hh.2.2.1 (Old.cons hh.2.2.2.1 (Old.cons hh.2.2.2.2.1 (Old.cons hh.2.2.2.2.2.1 (Old.cons hh.2.2.2.2.2.2.1 (Old.cons hh.2.2.2.2.2.2.2.1 (Old.cons hh.2.2.2.2.2.2.2.2.1 (Old.cons hh.2.2.2.2.2.2.2.2.2 Old.nil)))))))))) sp) ?_ ?_)
   ·rintro (_ | _ | _ | _ | _ | _ | _ | _ | _ | _ | _ | _ | _ | _ | _ | _ | _ | i)
    ·exact Reg.det (i:=0) rfl rfl rfl rfl (fun L' ρ' H' n' G' A' hO hT hd hG hcl hfr sp=>⟨.ptr (n1,6) 1 0 1,aJ ae (by rw[aC];have t6:=hO.at 3 rfl;have mm6_1:=(hfr (n1,6) (by simp)).trans e;simp[t6,mm6_1]),by simp⟩)
    ·exact Reg.det (i:=1) rfl rfl rfl rfl (fun L' ρ' H' n' G' A' hO hT hd hG hcl hfr sp=>⟨.list false (b.nodes.map (aj.cells false)),aJ ae (by rw[aC];have t33:=hT.at 0 rfl (hd ⟨0,.data⟩ (by simp) rfl);have mm6_1:=(hfr (n1,6) (by simp)).trans e;simp[t33,mm6_1]),by simp⟩)
    ·exact Reg.det (i:=2) rfl rfl rfl rfl (fun L' ρ' H' n' G' A' hO hT hd hG hcl hfr sp=>⟨int L,aJ ae (by rw[aC];have t15:=hO.at 6 rfl;simp[t15]),by simp⟩)
    ·exact Reg.det (i:=3) rfl rfl rfl rfl (fun L' ρ' H' n' G' A' hO hT hd hG hcl hfr sp=>⟨.iptr false [int o.control,int o.parent,.list false (o.links.map al)],aJ ae (by rw[aC];have t34:=hT.at 1 rfl (hd ⟨1,.data⟩ (by simp) rfl);have t35:=hT.at 2 rfl (hd ⟨2,.data⟩ (by simp) rfl);simp[t34,t35,f61,-ah]),by simp⟩)
    ·exact Reg.det (i:=4) rfl rfl rfl rfl (fun L' ρ' H' n' G' A' hO hT hd hG hcl hfr sp=>⟨.iptr false [int o.control,int o.parent,.list false (o.links.map al)],aJ ae (by rw[aC];have t36:=hT.at 3 rfl (hd ⟨3,.data⟩ (by simp) rfl);simp[t36]),by simp⟩)
    ·exact Reg.det (i:=5) rfl rfl rfl rfl (fun L' ρ' H' n' G' A' hO hT hd hG hcl hfr sp=>⟨int o.control,aJ ae (by rw[aC];have t37:=hT.at 4 rfl (hd ⟨4,.data⟩ (by simp) rfl);simp[t37]),by simp⟩)
    ·exact Reg.det (i:=6) rfl rfl rfl rfl (fun L' ρ' H' n' G' A' hO hT hd hG hcl hfr sp=>⟨.fn (.func gF4) [] cF4,aJ ae (by rw[aC];have t4:=hO.at 1 rfl;simp[t4]),by simp⟩)
    ·exact Reg.det (i:=7) rfl rfl rfl rfl (fun L' ρ' H' n' G' A' hO hT hd hG hcl hfr sp=>⟨.ptr (n1,6) 1 0 1,aJ ae (by rw[aC];have t6:=hO.at 3 rfl;have mm6_1:=(hfr (n1,6) (by simp)).trans e;simp[t6,mm6_1]),by simp⟩)
    ·exact Reg.det (i:=8) rfl rfl rfl rfl (fun L' ρ' H' n' G' A' hO hT hd hG hcl hfr sp=>⟨.list false (b.nodes.map (aj.cells false)),aJ ae (by rw[aC];have t40:=hT.at 7 rfl (hd ⟨7,.data⟩ (by simp) rfl);have mm6_1:=(hfr (n1,6) (by simp)).trans e;simp[t40,mm6_1]),by simp⟩)
    ·exact Reg.det (i:=9) rfl rfl rfl rfl (fun L' ρ' H' n' G' A' hO hT hd hG hcl hfr sp=>⟨int L,aJ ae (by rw[aC];have t15:=hO.at 6 rfl;simp[t15]),by simp⟩)
    ·exact Reg.det (i:=10) rfl rfl rfl rfl (fun L' ρ' H' n' G' A' hO hT hd hG hcl hfr sp=>⟨.iptr false [int o.control,int o.parent,.list false (o.links.map al)],aJ ae (by rw[aC];have t41:=hT.at 8 rfl (hd ⟨8,.data⟩ (by simp) rfl);have t42:=hT.at 9 rfl (hd ⟨9,.data⟩ (by simp) rfl);simp[t41,t42,f65,-ah]),by simp⟩)
    ·exact Reg.det (i:=11) rfl rfl rfl rfl (fun L' ρ' H' n' G' A' hO hT hd hG hcl hfr sp=>⟨.iptr false [int o.parent,.list false (o.links.map al)],aJ ae (by rw[aC];have t43:=hT.at 10 rfl (hd ⟨10,.data⟩ (by simp) rfl);simp[t43]),by simp⟩)
    ·exact Reg.det (i:=12) rfl rfl rfl rfl (fun L' ρ' H' n' G' A' hO hT hd hG hcl hfr sp=>⟨int o.parent,aJ ae (by rw[aC];have t44:=hT.at 11 rfl (hd ⟨11,.data⟩ (by simp) rfl);simp[t44]),by simp⟩)
    ·exact Reg.yd rfl rfl rfl (fun _=>rfl) (fun _=>trivial) (fun L' ρ' H' n' G' A' hO hT hd hfr sp=>⟨_,by have t39:=hT.at 6 rfl (hd ⟨6,.data⟩ (by simp) rfl);have t45:=hT.at 12 rfl (hd ⟨12,.data⟩ (by simp) rfl);exact aN.AV (xs:=[int o.parent]) (xs2:=[int o.parent]) (hF4 o.parent dl) heF4 (.cons (.v _ _ _) .nil) (hcF4 _ _) (by simp[t39,t45]) (by simp[t39,t45]),by simp[ds]⟩)
    ·exact Reg.det (i:=14) rfl rfl rfl rfl (fun L' ρ' H' n' G' A' hO hT hd hG hcl hfr sp=>⟨.agg [int o.control,int E,.v (.slice none 0 0)],aJ ae (by rw[aC];have t38:=hT.at 5 rfl (hd ⟨5,.data⟩ (by simp) rfl);have t46:=hT.at 13 rfl (hd ⟨13,.data⟩ (by simp) rfl);simp[t38,t46]),by simp⟩) (hc:=fun _=>⟨⟨13,.data⟩,by simp,rfl,by simp⟩)
    ·exact Reg.alloc ae rfl AM rfl rfl rfl
    ·exact Reg.store ae rfl rfl rfl hid69 ⟨⟨14,.data⟩,by simp,rfl,by simp⟩ ⟨⟨15,.data⟩,by simp,rfl,by simp⟩ (fun L' ρ' H' G' A' hO hT hd hG hw=>by have t16:=hT.at 15 rfl (hd ⟨15,.data⟩ (by simp) rfl);have t47:=hT.at 14 rfl (hd ⟨14,.data⟩ (by simp) rfl);simp[t16,t47,hw,AM,-ay,vB,qD,vJ,uT,qK,vT,vI])
    ·exact jV.none (by simp)
   ·rintro L' ⟨ρ,H,ci⟩ hI hr
    obtain⟨gj,t,hO,hT,hG,sp,b3,hn0_,hA_,l⟩:=Reg.fin (by kernel_rfl) rfl (show (13:Nat)<17∧(15:Nat)<17∧(16:Nat)<17 by decide) (by intro G' A';simp) hI hr
    show aa _ _ _ _ ρ H ci _
    replace hO:Old ρ _:=hO
    replace hT:zK ρ _:=hT
    clear hh
    have h2:=hO.at 0 rfl
    have h4:=hO.at 1 rfl
    have h5:=hO.at 2 rfl
    have h6:=hO.at 3 rfl
    have h12:=hO.at 4 rfl
    have h13:=hO.at 5 rfl
    have h15:=hO.at 6 rfl
    have h27:=hO.at 7 rfl
    have h28:=hO.at 8 rfl
    have h29:=hO.at 9 rfl
    have h33:=hT.at 0 rfl
    have h34:=hT.at 1 rfl
    have h35:=hT.at 2 rfl
    have h36:=hT.at 3 rfl
    have h37:=hT.at 4 rfl
    have h38:=hT.at 5 rfl
    have h39:=hT.at 6 rfl
    have h40:=hT.at 7 rfl
    have h41:=hT.at 8 rfl
    have h42:=hT.at 9 rfl
    have h43:=hT.at 10 rfl
    have h44:=hT.at 11 rfl
    have h45:=hT.at 12 rfl
    have h46:=hT.at 13 rfl
    have h47:=hT.at 14 rfl
    have h16:=hT.at 15 rfl
    have j:H (p,13)=some ⟨6,[[int b.roots,O,N,int cK,R,M]]⟩:=(b3 (p,13) (by simp)).trans j
    have g:H (n1+1,12)=some ⟨6,[zB]⟩:=(b3 (n1+1,12) (by simp)).trans g
    have e:H (n1,6)=some ⟨6,[bC false b]⟩:=(b3 (n1,6) (by simp)).trans e
    have l:H (t,16)=some ⟨3,[[int o.control,int E,.v (.slice none 0 0)]]⟩:=l
    replace sp:Sep H ci [oW M ([]:List aA),oI N ([]:List Int),oN O u,oS R r9] [(t,16),(p,13),(n1+1,12),(n1,6)]:=sp
    refine aa.cut (fun ρ H n=>∃ (ab v75 v76 ac:ag),((ρ 2 = .list false (edges.map al)∧ρ 4 = .fn (.func gF4) [] cF4∧ρ 5 = .fn (.func gF5) [] cF5∧ρ 6=pA n1 6∧ρ 12=pA (n1+1) 12∧ρ 13 = .ptr (p,13) 1 0 0∧ρ 15=int L∧ρ 16 = .ptr (t,16) 1 0 0∧ρ 27 = .list false (nodes.map al)∧ρ 28=int I∧ρ 29=int v40)∧H (n1,6)=some ⟨6,[bC false b]⟩∧H (n1+1,12)=some ⟨6,[zB]⟩∧H (p,13)=some ⟨6,[[int b.roots,v76,v75,int cK,ac,ab]]⟩∧H (t,16)=some ⟨3,[[int o.control,int E,.v (.slice none 0 0)]]⟩)∧Sep H n [oW ab ([]:List aA),oI v75 ([]:List Int),oN v76 u,oS ac r9] [(t,16),(p,13),(n1+1,12),(n1,6)]) (by refine⟨M,N,O,R,by simp[e,g,j,l,h2,h4,h5,h6,h12,h13,h15,h27,h28,h29,h33,h34,h35,h36,h37,h38,h39,h40,h41,h42,h43,h44,h45,h46,h47,h16],sp⟩) ?_
    clear e g j l h2 h4 h5 h6 h12 h13 h15 h27 h28 h29 h33 h34 h35 h36 h37 h38 h39 h40 h41 h42 h43 h44 h45 h46 h47 h16
    rintro ρ H go ⟨ab,v75,v76,ac,⟨hh,e,g,j,l⟩,sp⟩
    refine aa.seq ?_
    refine zE fun k' hk'=>?_
    obtain⟨d0,h⟩:=h
    obtain⟨b5,d1,h⟩:=atm h
    have f81:=fun H=>aE (H:=H) (fr:=false) (f:=(aj.cells false)) (k:=.i64) bj (fun _=>rfl) d0 d1
    obtain⟨b7,d2,h⟩:=atm h
    have f83:=fun H=>ax (H:=H) (fr:=false) (f:=al) aO d2
    simp[hh,e,g,j,l,f81,f83,-ah,-aH]
    apply hk'
    refine aa.block ?_
    refine aa.aw h (fun (sJ:Int × (List Int)) ρ H n=>match sJ with | (ad,af)=>∃ (X v109 C G D:ag),((ρ 2 = .list false (edges.map al)∧ρ 4 = .fn (.func gF4) [] cF4∧ρ 5 = .fn (.func gF5) [] cF5∧ρ 6=pA n1 6∧ρ 12=pA (n1+1) 12∧ρ 13 = .ptr (p,13) 1 0 0∧ρ 16 = .ptr (t,16) 1 0 0∧ρ 27 = .list false (nodes.map al)∧ρ 28=int I∧ρ 29=int v40∧ρ 53 = .list false (b5.links.map al)∧ρ 54=int b7∧ρ 55=int ad)∧H (n1,6)=some ⟨6,[bC false b]⟩∧H (n1+1,12)=some ⟨6,[zB]⟩∧H (p,13)=some ⟨6,[[int b.roots,G,C,int cK,D,v109]]⟩∧H (t,16)=some ⟨3,[[int o.control,int E,X]]⟩)∧Sep H n [oI X af,oW v109 ([]:List aA),oI C ([]:List Int),oN G u,oS D r9] [(t,16),(p,13),(n1+1,12),(n1,6)]) (by refine⟨.v (.slice none 0 0),ab,v75,v76,ac,by simp[hh,e,g,j,l],(Sep.cu sp)⟩) ?_
    clear hh e g j l
    rintro⟨ad,af⟩ ρ H n113 K h ⟨X,v109,C,G,D,⟨hh,e,g,j,l⟩,sp⟩ cj
    refine zE fun k' hk'=>?_
    obtain⟨d3,d4,h⟩:=atm h
    have f117:=aT (k:=.i64) d4
    simp[hh,e,g,j,l,f117,-ai]
    apply hk'
    refine aa.seq ?_
    refine aa.ite (b:=d3) (by simp[hh,e,g,j,l]) (fun q=>?_) (fun q=>?_)
    ·replace h:=h.1 q
     refine aa.skip ?_
     refine aa.seq ?_
     refine aa.block ?_
     refine zE fun k' hk'=>?_
     obtain⟨d5,h⟩:=h
     obtain⟨am,d6,h⟩:=atm h
     have f120:=fun H=>aE (H:=H) (fr:=false) (f:=al) (k:=.i64) aO (fun _=>rfl) d5 d6
     simp[hh,e,g,j,l,f120,q,-ah]
     apply hk'
     refine zE fun k' hk'=>?_
     obtain⟨d7,h⟩:=h
     obtain⟨cl,d8,h⟩:=atm h
     simp[hh,e,g,j,l,q]
     refine aG.aB ae (kb edges am d7) e53 (.cons (cY false edges) (.cons (.v _ _ _) .nil)) (by decide) (by decide) rfl (by simp[hh,e,g,j,l,q]) ?_
     rintro _ rfl
     rw[← d8]
     simp[hh,e,g,j,l,q]
     apply hk'
     refine zE fun k' hk'=>?_
     obtain⟨d9,el,h⟩:=atm h
     have f124:=jz (k:=.i64) el
     simp[hh,e,g,j,l,f124,q,-ai]
     apply hk'
     refine aa.ite (b:=d9) (by simp[hh,e,g,j,l,q]) (fun A=>?_) (fun A=>?_)
     ·replace h:=h.1 A
      refine zF fun k' hk'=>?_
      obtain⟨em,h⟩:=h
      obtain⟨b8,es,h⟩:=atm h
      simp[hh,e,g,j,l,q,A,-ba]
      refine a8 [] [oW v109 ([]:List aA),oI C ([]:List Int),oN G u,oS D r9] [[int cl]] [al cl] sp aO (by simp) (by simp) (by simp) (by simp[-ay,o1x]) (bz (az.v _ az.nil)) (by simp) (by simpa using em) ?_
      rintro v127 ev n129 sp an gs
      replace sp:Sep ev n129 [oI v127 b8,oW v109 ([]:List aA),oI C ([]:List Int),oN G u,oS D r9] [(t,16),(p,13),(n1+1,12),(n1,6)]:=Sep.ap es sp
      have e:=(an _ (by simp)).trans e
      have g:=(an _ (by simp)).trans g
      have j:=(an _ (by simp)).trans j
      have l:=(an _ (by simp)).trans l
      have f133:=Sep.oc sp
      simp[hh,e,g,j,l,f133,q,A,-ar,-ay,cAx,o1x]
      apply hk'
      refine aa.cut (fun ρ H n=>∃ (ao aM a0 a1 v138:ag),((ρ 2 = .list false (edges.map al)∧ρ 4 = .fn (.func gF4) [] cF4∧ρ 5 = .fn (.func gF5) [] cF5∧ρ 6=pA n1 6∧ρ 12=pA (n1+1) 12∧ρ 13 = .ptr (p,13) 1 0 0∧ρ 16 = .ptr (t,16) 1 0 0∧ρ 27 = .list false (nodes.map al)∧ρ 28=int I∧ρ 29=int v40∧ρ 53 = .list false (b5.links.map al)∧ρ 54=int b7∧ρ 55=int ad)∧H (n1,6)=some ⟨6,[bC false b]⟩∧H (n1+1,12)=some ⟨6,[zB]⟩∧H (p,13)=some ⟨6,[[int b.roots,a1,a0,int cK,v138,aM]]⟩∧H (t,16)=some ⟨3,[[int o.control,int E,ao]]⟩)∧Sep H n [oI ao b8,oW aM ([]:List aA),oI a0 ([]:List Int),oN a1 u,oS v138 r9] [(t,16),(p,13),(n1+1,12),(n1,6)]) (by refine⟨v127,v109,C,G,D,by simp[hh,e,g,j,l,f133,q,A,-ar,-ay,cAx,o1x],(Sep.bF (w:=(t,16)) sp (by simp))⟩) ?_
      clear hh e g j l
      rintro ρ H n139 ⟨ao,aM,a0,a1,v138,⟨hh,e,g,j,l⟩,sp⟩
      refine aa.inBlock ?_
      refine zF fun k' hk'=>?_
      obtain⟨ex,h⟩:=h
      obtain⟨v141,ey,h⟩:=atm h
      have f142:=aI ex ey
      simp[hh,e,g,j,l,f142,-ai]
      apply hk'
      refine cj (v141,b8) _ _ _ h (by refine⟨ao,aM,a0,a1,v138,by simp[hh,e,g,j,l],sp⟩)
     replace h:=h.2 A
     refine aa.zC ae aD bU (by decide) (by kernel_rfl) fun k' hk'=>?_
     obtain⟨e0,h⟩:=h
     obtain⟨e1,e2,h⟩:=atm h
     simp[hh,e,g,j,l,q,A]
     refine bn.AV (xs1:=[int am]) (xs2:=[int am]) ae aD (hF5 am e0) heF5 (.cons (.v _ _ _) .nil) (hcF5 _ _) (by decide) rfl (by simp[hh,e,g,j,l,q,A]) ?_
     rw[← e2]
     obtain⟨e3,h⟩:=h
     obtain⟨gu,e4,h⟩:=atm h
     simp[hh,e,g,j,l,q,A]
     refine bn.aB ae aD (tN r9 e1 e3) Hl (.cons (Sep.bb sp.f4 (aS (by simp))) (.cons (.v _ _ _) .nil)) (by decide) rfl (by simp[hh,e,g,j,l,q,A]) ?_
     rw[← e4]
     obtain⟨e7,h⟩:=h
     obtain⟨v148,e8,h⟩:=atm h
     have f149:=aI e7 e8
     obtain⟨fd,h⟩:=h
     obtain⟨b9,fl,h⟩:=atm h
     simp[hh,e,g,j,l,f149,q,A,-ai,-ba]
     refine vQ [] [oW v109 ([]:List aA),oI C ([]:List Int),oN G u,oS D r9] [[int v148]] [al v148] sp aO (by simp) (by simp) (by simp) (by simp[-ay,o1x]) (bz (az.v _ az.nil)) (by simp) (by simpa using fd) ?_
     rintro v152 fo n154 sp a2 gw
     replace sp:Sep fo n154 [oI v152 b9,oW v109 ([]:List aA),oI C ([]:List Int),oN G u,oS D r9] [(t,16),(p,13),(n1+1,12),(n1,6)]:=Sep.ap fl sp
     have e:=(a2 _ (by simp)).trans e
     have g:=(a2 _ (by simp)).trans g
     have j:=(a2 _ (by simp)).trans j
     have l:=(a2 _ (by simp)).trans l
     have f158:=Sep.oc sp
     simp[hh,e,g,j,l,f149,f158,q,A,-ar,-ai,-ay,cAx,o1x]
     apply hk'
     refine aa.cut (fun ρ H n=>∃ (v159 v160 a3 v162 a4:ag),((ρ 2 = .list false (edges.map al)∧ρ 4 = .fn (.func gF4) [] cF4∧ρ 5 = .fn (.func gF5) [] cF5∧ρ 6=pA n1 6∧ρ 12=pA (n1+1) 12∧ρ 13 = .ptr (p,13) 1 0 0∧ρ 16 = .ptr (t,16) 1 0 0∧ρ 27 = .list false (nodes.map al)∧ρ 28=int I∧ρ 29=int v40∧ρ 53 = .list false (b5.links.map al)∧ρ 54=int b7∧ρ 55=int ad)∧H (n1,6)=some ⟨6,[bC false b]⟩∧H (n1+1,12)=some ⟨6,[zB]⟩∧H (p,13)=some ⟨6,[[int b.roots,v162,a3,int cK,a4,v160]]⟩∧H (t,16)=some ⟨3,[[int o.control,int E,v159]]⟩)∧Sep H n [oI v159 b9,oW v160 ([]:List aA),oI a3 ([]:List Int),oN v162 u,oS a4 r9] [(t,16),(p,13),(n1+1,12),(n1,6)]) (by refine⟨v152,v109,C,G,D,by simp[hh,e,g,j,l,f149,f158,q,A,-ar,-ai,-ay,cAx,o1x],(Sep.bF (w:=(t,16)) sp (by simp))⟩) ?_
     clear hh e g j l
     rintro ρ H n164 ⟨v159,v160,a3,v162,a4,⟨hh,e,g,j,l⟩,sp⟩
     refine aa.inBlock ?_
     refine zF fun k' hk'=>?_
     obtain⟨fs,h⟩:=h
     obtain⟨fz,f0,h⟩:=atm h
     have f167:=aI fs f0
     simp[hh,e,g,j,l,f167,-ai]
     apply hk'
     refine cj (fz,b9) _ _ _ h (by refine⟨v159,v160,a3,v162,a4,by simp[hh,e,g,j,l],sp⟩)
    replace h:=h.2 q
    refine aa.exit rfl ?_
    refine zF fun k' hk'=>?_
    obtain⟨f6,h⟩:=h
    obtain⟨cc,f8,h⟩:=atm h
    simp[hh,e,g,j,l,q,-ba]
    refine a8 [oI X af] [oW v109 ([]:List aA),oI C ([]:List Int),oS D r9] [[int o.control,int E,X]] [(aj.cells true) (aj.mk o.control E af)] sp.f3 bj (by simp) (by simp) (by simp) (by simp[-ay,o1x,Sep.ay sp.f3.dr]) (bz (az.v _ (az.v _ (az.own az.nil)))) (by simp) (by simpa using f6) ?_
    rintro co f9 n172 sp a5 g0
    replace sp:Sep f9 n172 [oN co cc,oW v109 ([]:List aA),oI C ([]:List Int),oS D r9] [(t,16),(p,13),(n1+1,12),(n1,6)]:=Sep.ap f8 sp
    have e:=(a5 _ (by simp)).trans e
    have g:=(a5 _ (by simp)).trans g
    have j:=(a5 _ (by simp)).trans j
    have l:=(a5 _ (by simp)).trans l
    have f176:=Sep.oc sp
    simp[hh,e,g,j,l,f176,q,-ar,-ay,cAx,o1x]
    apply hk'
    refine aa.cut (fun ρ H n=>∃ (a9 bd be bi:ag),((ρ 2 = .list false (edges.map al)∧ρ 4 = .fn (.func gF4) [] cF4∧ρ 5 = .fn (.func gF5) [] cF5∧ρ 6=pA n1 6∧ρ 12=pA (n1+1) 12∧ρ 13 = .ptr (p,13) 1 0 0∧ρ 27 = .list false (nodes.map al)∧ρ 28=int I∧ρ 29=int v40)∧H (n1,6)=some ⟨6,[bC false b]⟩∧H (n1+1,12)=some ⟨6,[zB]⟩∧H (p,13)=some ⟨6,[[int b.roots,a9,be,int cK,bi,bd]]⟩)∧Sep H n [oN a9 cc,oW bd ([]:List aA),oI be ([]:List Int),oS bi r9] [(p,13),(n1+1,12),(n1,6)]) (by refine⟨co,v109,C,D,by simp[hh,e,g,j,l,f176,q,-ar,-ay,cAx,o1x],(Sep.sub (Sep.bF (w:=(p,13)) sp (by simp)) (by simp +contextual))⟩) ?_
    clear hh e g j l
    rintro ρ H n181 ⟨a9,bd,be,bi,⟨hh,e,g,j⟩,sp⟩
    refine aa.inBlock ?_
    refine zF fun k' hk'=>?_
    obtain⟨gc,h⟩:=h
    obtain⟨v183,gd,h⟩:=atm h
    have f184:=aI gc gd
    simp[hh,e,g,j,f184,-ai]
    apply hk'
    refine c0 (v183,cc) _ _ _ h (by refine⟨bd,be,a9,bi,by simp[hh,e,g,j],sp.f2.f2⟩)
  replace h:=h.2 J
  refine aa.exit rfl ?_
  refine zE fun k' hk'=>?_
  have f185:=Sep.oc sp.f2
  have f186:=Sep.oc sp.f1
  have f187:=Sep.oc sp.f3
  have f188:=Sep.oc sp
  simp[hh,e,g,j,f185,f186,f187,f188,J,-ar,-ay,cAx,o1x]
  apply hk'
  refine aa.cut (fun ρ H n=>∃ (bk bs bv b0:ag),(ρ 12=pA (n1+1) 12∧H (n1+1,12)=some ⟨6,[[int b.roots,bv,bs,int cK,b0,bk]]⟩)∧Sep H n [oW bk ([]:List aA),oI bs ([]:List Int),oN bv u,oS b0 r9] [(n1+1,12)]) (by refine⟨T,U,V,W,by simp[hh,e,g,j,f185,f186,f187,f188,J,-ar,-ay,cAx,o1x],(Sep.sub (Sep.bF (w:=(n1+1,12)) sp (by simp)) (by simp +contextual))⟩) ?_
  clear hh e g j
  rintro ρ H n193 ⟨bk,bs,bv,b0,⟨hh,g⟩,sp⟩
  exact aa.yk ae (v:=.agg [int b.roots,bv,bs,int cK,b0,bk]) Tryz.func51 Tryz.results51 (by simp[hh,g,dO]) (hQ _ _ _ _ (Sep.sub (ids':=[]) (Sep.pack (az.v _ (az.own (az.own (az.v _ (az.own (az.own az.nil)))))) sp.f3.f2.f3) (by simp)) ⟨(Big.mk b.roots u ([]:List Int) cK r9 ([]:List aA)),h,rfl⟩)
theorem Dx {gF4:FuncId} {cF4:List ag} {gF5:FuncId} {cF5:List ag} (b:Big) (nodes:List Int) (edges:List Int) (outer:List Str) (f4:Int→Int) (D4:Int→Prop) (f5:Int→Str) (D5:Int→Prop) (heF4:Ent Tryz.prog gF4) (hcF4:∀ H n,bA H n cF4 cF4) (hF4:∀ z0,D4 z0→aq Tryz.prog gF4 ((int z0)::cF4) (fun r=>r=int (f4 z0))) (heF5:Ent Tryz.prog gF5) (hcF5:∀ H n,bA H n cF5 cF5) (hF5:∀ z0,D5 z0→aq Tryz.prog gF5 ((int z0)::cF5) (fun r=>r=str (f5 z0))) (hp:pK b nodes edges outer f4 D4 f5 D5):a7 Tryz.prog 51 [.agg (bC false b),.list false (nodes.map al),.list false (edges.map al),.list false (outer.map aL),.fn (.func gF4) [] cF4,.fn (.func gF5) [] cF5] (.a [.c,.s [.c,.c,.s [.c]],.s [.c],.c,.s [.c],.s [.c,.c]]) (fun r=>r = .agg [int ((mg b nodes edges outer f4 D4 f5 D5).roots),.list true (((mg b nodes edges outer f4 D4 f5 D5).nodes).map (aj.cells true)),.list true (((mg b nodes edges outer f4 D4 f5 D5).sites).map al),int ((mg b nodes edges outer f4 D4 f5 D5).edges),.list true (((mg b nodes edges outer f4 D4 f5 D5).outer).map aL),.list true (((mg b nodes edges outer f4 D4 f5 D5).inner).map aA.cells)]):=(Ay b nodes edges outer f4 D4 f5 D5 heF4 hcF4 hF4 heF5 hcF5 hF5 _ (Ew b nodes edges outer f4 D4 f5 D5 hp)).mono (by rintro _ ⟨_,rfl,rfl⟩;rfl)
theorem E8:Ent Tryz.prog 161:=Ent.of Tryz.func161 (by kernel_rfl) rfl
theorem xh (s:List aA) (Z:(List aA)→Prop) (h:mB s Z):a7 Tryz.prog 161 [.list false (s.map aA.cells)] (.s [.c,.c]) (fun r=>∃ y:List aA,Z y∧r = .list true (y.map aA.cells)):=by
 unfold mB at h
 have sp:Sep bc 0 [] []:=Sep.nil (by simp)
 refine a7.of Tryz.func161 rfl Tryz.ntmps161 (by simp) fun Q hQ=>?_
 refine aa.cut (fun ρ H n=>ρ 0 = .list false (s.map aA.cells)∧Sep H n [] []) (by refine⟨by simp ,sp⟩) ?_
 rintro ρ H n1 ⟨hh,sp⟩
 refine zE fun k' hk'=>?_
 simp[hh]
 apply hk'
 refine aa.seq ?_
 refine zE fun k' hk'=>?_
 simp[hh]
 refine aG.isNil (fr:=false) (els:=s.map aA.cells) ae (by decide) (by decide) fm (by simp[hh]) (by simp[hh]) ?_
 rintro c2 hc3
 replace h:=h c2 (fun hq=>by simpa using hc3 hq)
 simp[hh]
 apply hk'
 refine aa.ite (b:=c2) (by simp[hh]) (fun dc2=>?_) (fun dc2=>?_)
 ·replace h:=h.1 dc2
  refine zE fun k' hk'=>?_
  simp[hh,dc2]
  apply hk'
  exact aa.aV (v:=.v (.slice none 0 0)) Tryz.func161 Tryz.results161 (by simp[hh,dc2]) (hQ _ _ _ _ (Sep.sub (ids':=[]) (Sep.cu sp) (by simp)) ⟨[],h,rfl⟩)
 replace h:=h.2 dc2
 refine aa.skip ?_
 refine zE fun k' hk'=>?_
 obtain⟨hb6,h⟩:=h
 obtain⟨l7,el7,h⟩:=atm h
 simp[hh,dc2,-ba]
 refine gU (s.map aA.cells) (Sep.addEmpty (l:=[.c,.c]) sp) (by simp) fm (by simp) (by simp) (by simp[dE]) (by simp[-ay,o1x]) (by simpa using hb6) ?_
 rintro v8 H9 d sp e g
 replace sp:Sep H9 d [oW v8 l7] []:=by refine Sep.ap el7 ?_;exact sp
 simp[hh,dc2]
 apply hk'
 refine aa.cut (fun ρ H n=>∃ (a:ag),ρ 2=a∧Sep H n [oW a l7] []) (by refine⟨v8,by simp[hh,dc2],sp⟩) ?_
 clear hh
 rintro ρ H n15 ⟨a,hh,sp⟩
 exact aa.aV (v:=a) Tryz.func161 Tryz.results161 (by simp[hh]) (hQ _ _ _ _ (Sep.sub (ids':=[]) sp (by simp)) ⟨l7,h,rfl⟩)
theorem mj (s:List aA) (hp:nr s):a7 Tryz.prog 161 [.list false (s.map aA.cells)] (.s [.c,.c]) (fun r=>r = .list true ((we s).map aA.cells)):=(xh s _ (CR s hp)).mono (by rintro _ ⟨_,rfl,rfl⟩;rfl)
theorem II:Ent Tryz.prog 112:=Ent.of Tryz.func112 (by kernel_rfl) rfl
theorem Df (b:Big) (Z:Big→Prop) (h:qF b Z):a7 Tryz.prog 112 [.agg (bC false b)] (.a [.c,.s [.c,.c,.s [.c]],.s [.c],.c,.s [.c],.s [.c,.c]]) (fun r=>∃ y:Big,Z y∧r = .agg (bC true y)):=by
 unfold qF at h
 have sp:Sep bc 0 [] []:=Sep.nil (by simp)
 refine a7.of Tryz.func112 rfl Tryz.ntmps112 (by simp) fun Q hQ=>?_
 refine aa.cut (fun ρ H n=>ρ 0 = .agg (bC false b)∧Sep H n [] []) (by refine⟨by simp ,sp⟩) ?_
 rintro ρ H n1 ⟨hh,sp⟩
 refine zE fun k' hk'=>?_
 simp[hh]
 apply hk'
 refine aa.cut (fun ρ H n=>((ρ 1=pA n1 1∧ρ 2=pA (n1+1) 2)∧H (n1,1)=some ⟨6,[bC false b]⟩∧H (n1+1,2)=some ⟨6,[zB]⟩)∧Sep H n [] [(n1+1,2),(n1,1)]) (by refine⟨by simp[hh],sp.var.var⟩) ?_
 clear hh
 rintro ρ H n4 ⟨⟨hh,e,d⟩,sp⟩
 refine aa.cut (fun ρ H n=>((ρ 1=pA n1 1∧ρ 2=pA (n1+1) 2)∧H (n1,1)=some ⟨6,[bC false b]⟩∧H (n1+1,2)=some ⟨6,[zB]⟩)∧Sep H n [] [(n1+1,2),(n1,1)]) (by refine⟨by simp[hh,e,d],sp⟩) ?_
 clear hh e d
 rintro ρ H n5 ⟨⟨hh,e,d⟩,sp⟩
 obtain⟨hb6,h⟩:=h
 obtain⟨r7,er7,h⟩:=atm h
 obtain⟨hb9,h⟩:=h
 obtain⟨o,ci,h⟩:=atm h
 obtain⟨W,h⟩:=h
 obtain⟨p,X,h⟩:=atm h
 refine aa.F2 (fun H n=>H (n1,1)=some ⟨6,[bC false b]⟩∧H (n1+1,2)=some ⟨6,[zB]⟩∧Sep H n [] [(n1+1,2),(n1,1)]) [4,9,12,13,14,15] (.free 0 (.free 1 (.free 2 (.free 3 (.free 5 (.free 6 (.free 7 (.free 8 (.free 10 (.free 11 (.hard 4 (.hard 9 (.hard 12 (.hard 13 (.hard 14 (.hard 15 (.fin) (.stop)) (.stop)) (.hard 14 (.hard 13 (.hard 15 (.fin) (.stop)) (.stop)) (.stop))) (.hard 14 (.hard 12 (.hard 13 (.hard 15 (.fin) (.stop)) (.stop)) (.stop)) (.stop))) (.hard 14 (.hard 9 (.hard 12 (.hard 13 (.hard 15 (.fin) (.stop)) (.stop)) (.stop)) (.stop)) (.stop))) (.hard 14 (.hard 4 (.hard 9 (.hard 12 (.hard 13 (.hard 15 (.fin) (.stop)) (.stop)) (.stop)) (.stop)) (.stop)) (.stop))))))))))))) (fun ρ H n=>∃ (Y:ag) (ab:ag) (ac:ag) (l:Nat),((ρ 1=pA n1 1∧ρ 2=pA (n1+1) 2∧ρ 3 = .ptr (l,3) 1 0 0)∧H (n1,1)=some ⟨6,[bC false b]⟩∧H (n1+1,2)=some ⟨6,[zB]⟩∧H (l,3)=some ⟨6,[[int b.roots,.v (.slice none 0 0),ac,int b.edges,ab,Y]]⟩)∧Sep H n [oW Y p,oS ab o,oI ac r7] [(l,3),(n1+1,2),(n1,1)]) bU (by decide) (by kernel_rfl) ?_ ?_
 ·refine RunT.free (pA n1 1) rfl rfl ⟨e,d,sp⟩ (fun H n hS=>by obtain⟨e,d,sp⟩:=hS;exact (by exact aJ ae (by rw[aC];simp[hh,e,d]))) ?_
  refine RunT.free (int b.roots) rfl rfl ⟨e,d,sp⟩ (fun H n hS=>by obtain⟨e,d,sp⟩:=hS;exact (by exact aJ ae (by rw[aC];simp[hh,e,d]))) ?_
  refine RunT.free (.ptr (n1,1) 1 0 2) rfl rfl ⟨e,d,sp⟩ (fun H n hS=>by obtain⟨e,d,sp⟩:=hS;exact (by exact aJ ae (by rw[aC];simp[hh,e,d]))) ?_
  refine RunT.free (.list false (b.sites.map al)) rfl rfl ⟨e,d,sp⟩ (fun H n hS=>by obtain⟨e,d,sp⟩:=hS;exact (by exact aJ ae (by rw[aC];simp[hh,e,d]))) ?_
  refine RunT.free (.ptr (n1,1) 1 0 3) rfl rfl ⟨e,d,sp⟩ (fun H n hS=>by obtain⟨e,d,sp⟩:=hS;exact (by exact aJ ae (by rw[aC];simp[hh,e,d]))) ?_
  refine RunT.free (int b.edges) rfl rfl ⟨e,d,sp⟩ (fun H n hS=>by obtain⟨e,d,sp⟩:=hS;exact (by exact aJ ae (by rw[aC];simp[hh,e,d]))) ?_
  refine RunT.free (.ptr (n1,1) 1 0 4) rfl rfl ⟨e,d,sp⟩ (fun H n hS=>by obtain⟨e,d,sp⟩:=hS;exact (by exact aJ ae (by rw[aC];simp[hh,e,d]))) ?_
  refine RunT.free (.list false (b.outer.map aL)) rfl rfl ⟨e,d,sp⟩ (fun H n hS=>by obtain⟨e,d,sp⟩:=hS;exact (by exact aJ ae (by rw[aC];simp[hh,e,d]))) ?_
  refine RunT.free (.ptr (n1,1) 1 0 5) rfl rfl ⟨e,d,sp⟩ (fun H n hS=>by obtain⟨e,d,sp⟩:=hS;exact (by exact aJ ae (by rw[aC];simp[hh,e,d]))) ?_
  refine RunT.free (.list false (b.inner.map aA.cells)) rfl rfl ⟨e,d,sp⟩ (fun H n hS=>by obtain⟨e,d,sp⟩:=hS;exact (by exact aJ ae (by rw[aC];simp[hh,e,d]))) ?_
  refine⟨?_,?_,trivial⟩
  ·refine RunT.cd (as1:=[.list false (b.sites.map al)]) rfl rfl (py b.sites hb6) e81 (.cons (cY false b.sites) .nil) sp (by simp[hh,e,d]) (by simp[hh,e,d]) ?_
   rintro q ds n22 _ sp rfl e7 c9
   rw[← er7] at sp
   replace sp:Sep ds n22 [oI q r7] [(n1+1,2),(n1,1)]:=sp
   have e:=(c9 _ (by simp)).trans e
   have d:=(c9 _ (by simp)).trans d
   refine⟨(fun _=>⟨e,d,sp.dr⟩),?_⟩
   refine⟨?_,?_,trivial⟩
   ·refine RunT.cd (as1:=[.list false (b.outer.map aL)]) rfl rfl (mI b.outer hb9) Fp (.cons (o6 false b.outer) .nil) sp (by simp[hh,e,d]) (by simp[hh,e,d]) ?_
    rintro t d0 n29 _ sp rfl e8 da
    rw[← ci] at sp
    replace sp:Sep d0 n29 [oS t o,oI q r7] [(n1+1,2),(n1,1)]:=sp
    have e:=(da _ (by simp)).trans e
    have d:=(da _ (by simp)).trans d
    refine⟨(fun _=>⟨e,d,sp.dr.dr⟩),?_⟩
    refine⟨?_,?_,trivial⟩
    ·refine RunT.cd (as1:=[.list false (b.inner.map aA.cells)]) rfl rfl (mj b.inner W) E8 (.cons (xW false b.inner) .nil) sp (by simp[hh,e,d]) (by simp[hh,e,d]) ?_
     rintro M d1 n36 _ sp rfl fd dc
     rw[← X] at sp
     replace sp:Sep d1 n36 [oW M p,oS t o,oI q r7] [(n1+1,2),(n1,1)]:=sp
     have e:=(dc _ (by simp)).trans e
     have d:=(dc _ (by simp)).trans d
     refine⟨(fun _=>⟨e,d,sp.dr.dr.dr⟩),?_⟩
     refine⟨?_,?_,trivial⟩
     ·have f48:=Sep.oc sp.f2
      have f49:=Sep.oc sp.f1
      have f50:=Sep.oc sp
      refine RunT.same (v:=(.agg [int b.roots,.v (.slice none 0 0),q,int b.edges,t,M])) ae rfl rfl (by simp[hh,e,d,f48,f49,f50,-ar,-ay,cAx,o1x]) (fun hl=>absurd (hl.symm.trans (show cU _ _ _=true by kernel_rfl)) (by decide)) ?_
      refine⟨?_,trivial⟩
      refine RunT.step (v:=pA n36 3) ae rfl rfl (by simp[hh,e,d,f48,f49,f50,-ar,-ay,cAx,o1x]<;>first | exact⟨rfl,rfl⟩ | exact rfl) (fun _=>⟨(by simp[hh,e,d,f48,f49,f50,ak.aP,-ar,-ay,cAx,o1x]),(by simp[hh,e,d,f48,f49,f50,ak.aP,-ar,-ay,cAx,o1x]),(Sep.sub sp.var.dr.dr.dr (by simp +contextual))⟩) ?_
      refine⟨?_,trivial⟩
      have f63:=Sep.oc sp.f2
      have f64:=Sep.oc sp.f1
      have f65:=Sep.oc sp
      refine RunT.step (v:=.undef) ae rfl rfl (by simp[hh,e,d,f48,f49,f50,f63,f64,f65,-ar,-ay,cAx,o1x]<;>first | exact⟨rfl,rfl⟩ | exact rfl) (fun hl=>absurd (hl.symm.trans (show cU _ _ _=true by kernel_rfl)) (by decide)) ?_
      refine RunT.fin (by refine⟨M,t,q,n36,by simp[hh,e,d,f48,f49,f50,f63,f64,f65,-ar,-ay,cAx,o1x],sp.var⟩)
     refine RunT.step (v:=pA n36 3) ae rfl rfl (by simp[hh,e,d]<;>first | exact⟨rfl,rfl⟩ | exact rfl) (fun _=>⟨(by simp[hh,e,d,ak.aP]),(by simp[hh,e,d,ak.aP]),(Sep.sub sp.var.dr.dr.dr (by simp +contextual))⟩) ?_
     refine⟨?_,trivial⟩
     have f78:=Sep.oc sp.f2
     have f79:=Sep.oc sp.f1
     have f80:=Sep.oc sp
     refine RunT.same (v:=(.agg [int b.roots,.v (.slice none 0 0),q,int b.edges,t,M])) ae rfl rfl (by simp[hh,e,d,f78,f79,f80,-ar,-ay,cAx,o1x]) (fun hl=>absurd (hl.symm.trans (show cU _ _ _=true by kernel_rfl)) (by decide)) ?_
     refine⟨?_,trivial⟩
     have f87:=Sep.oc sp.f2
     have f88:=Sep.oc sp.f1
     have f89:=Sep.oc sp
     refine RunT.step (v:=.undef) ae rfl rfl (by simp[hh,e,d,f78,f79,f80,f87,f88,f89,-ar,-ay,cAx,o1x]<;>first | exact⟨rfl,rfl⟩ | exact rfl) (fun hl=>absurd (hl.symm.trans (show cU _ _ _=true by kernel_rfl)) (by decide)) ?_
     refine RunT.fin (by refine⟨M,t,q,n36,by simp[hh,e,d,f78,f79,f80,f87,f88,f89,-ar,-ay,cAx,o1x],sp.var⟩)
    refine RunT.step (v:=pA n29 3) ae rfl rfl (by simp[hh,e,d]<;>first | exact⟨rfl,rfl⟩ | exact rfl) (fun _=>⟨(by simp[hh,e,d,ak.aP]),(by simp[hh,e,d,ak.aP]),(Sep.sub sp.var.dr.dr (by simp +contextual))⟩) ?_
    refine⟨?_,trivial⟩
    refine RunT.cd (as1:=[.list false (b.inner.map aA.cells)]) rfl rfl (mj b.inner W) E8 (.cons (xW false b.inner) .nil) sp.var (by simp[hh,e,d]) (by simp[hh,e,d]) ?_
    rintro cj ad d2 _ sp rfl fl cl
    rw[← X] at sp
    replace sp:Sep ad d2 [oW cj p,oS t o,oI q r7] [(n29,3),(n1+1,2),(n1,1)]:=sp
    have e:ad (n1,1)=some ⟨6,[bC false b]⟩:=(cl _ (by simp)).trans (by simp[hh,e,d,ak.aP])
    have d:ad (n1+1,2)=some ⟨6,[zB]⟩:=(cl _ (by simp)).trans (by simp[hh,e,d,ak.aP])
    have g:ad (n29,3)=some ⟨6,[zB]⟩:=(cl _ (by simp)).trans (by simp[hh,e,d,ak.aP])
    refine⟨(fun _=>⟨e,d,(Sep.sub sp.dr.dr.dr (by simp +contextual))⟩),?_⟩
    refine⟨?_,trivial⟩
    have f109:=Sep.oc sp.f2
    have f110:=Sep.oc sp.f1
    have f111:=Sep.oc sp
    refine RunT.same (v:=(.agg [int b.roots,.v (.slice none 0 0),q,int b.edges,t,cj])) ae rfl rfl (by simp[hh,e,d,g,f109,f110,f111,-ar,-ay,cAx,o1x]) (fun hl=>absurd (hl.symm.trans (show cU _ _ _=true by kernel_rfl)) (by decide)) ?_
    refine⟨?_,trivial⟩
    have f118:=Sep.oc sp.f2
    have f119:=Sep.oc sp.f1
    have f120:=Sep.oc sp
    refine RunT.step (v:=.undef) ae rfl rfl (by simp[hh,e,d,g,f109,f110,f111,f118,f119,f120,-ar,-ay,cAx,o1x]<;>first | exact⟨rfl,rfl⟩ | exact rfl) (fun hl=>absurd (hl.symm.trans (show cU _ _ _=true by kernel_rfl)) (by decide)) ?_
    refine RunT.fin (by refine⟨cj,t,q,n29,by simp[hh,e,d,g,f109,f110,f111,f118,f119,f120,-ar,-ay,cAx,o1x],(Sep.bF (w:=(n29,3)) sp (by simp))⟩)
   refine RunT.step (v:=pA n22 3) ae rfl rfl (by simp[hh,e,d]<;>first | exact⟨rfl,rfl⟩ | exact rfl) (fun _=>⟨(by simp[hh,e,d,ak.aP]),(by simp[hh,e,d,ak.aP]),(Sep.sub sp.var.dr (by simp +contextual))⟩) ?_
   refine⟨?_,trivial⟩
   refine RunT.cd (as1:=[.list false (b.outer.map aL)]) rfl rfl (mI b.outer hb9) Fp (.cons (o6 false b.outer) .nil) sp.var (by simp[hh,e,d]) (by simp[hh,e,d]) ?_
   rintro v131 af n128 _ sp rfl fn co
   rw[← ci] at sp
   replace sp:Sep af n128 [oS v131 o,oI q r7] [(n22,3),(n1+1,2),(n1,1)]:=sp
   have e:af (n1,1)=some ⟨6,[bC false b]⟩:=(co _ (by simp)).trans (by simp[hh,e,d,ak.aP])
   have d:af (n1+1,2)=some ⟨6,[zB]⟩:=(co _ (by simp)).trans (by simp[hh,e,d,ak.aP])
   have g:af (n22,3)=some ⟨6,[zB]⟩:=(co _ (by simp)).trans (by simp[hh,e,d,ak.aP])
   refine⟨(fun _=>⟨e,d,(Sep.sub sp.dr.dr (by simp +contextual))⟩),?_⟩
   refine⟨?_,trivial⟩
   refine RunT.cd (as1:=[.list false (b.inner.map aA.cells)]) rfl rfl (mj b.inner W) E8 (.cons (xW false b.inner) .nil) sp (by simp[hh,e,d,g]) (by simp[hh,e,d,g]) ?_
   rintro v138 d3 n135 _ sp rfl fo cs
   rw[← X] at sp
   replace sp:Sep d3 n135 [oW v138 p,oS v131 o,oI q r7] [(n22,3),(n1+1,2),(n1,1)]:=sp
   have e:=(cs _ (by simp)).trans e
   have d:=(cs _ (by simp)).trans d
   have g:=(cs _ (by simp)).trans g
   refine⟨(fun _=>⟨e,d,(Sep.sub sp.dr.dr.dr (by simp +contextual))⟩),?_⟩
   refine⟨?_,trivial⟩
   have f147:=Sep.oc sp.f2
   have f148:=Sep.oc sp.f1
   have f149:=Sep.oc sp
   refine RunT.same (v:=(.agg [int b.roots,.v (.slice none 0 0),q,int b.edges,v131,v138])) ae rfl rfl (by simp[hh,e,d,g,f147,f148,f149,-ar,-ay,cAx,o1x]) (fun hl=>absurd (hl.symm.trans (show cU _ _ _=true by kernel_rfl)) (by decide)) ?_
   refine⟨?_,trivial⟩
   have f156:=Sep.oc sp.f2
   have f157:=Sep.oc sp.f1
   have f158:=Sep.oc sp
   refine RunT.step (v:=.undef) ae rfl rfl (by simp[hh,e,d,g,f147,f148,f149,f156,f157,f158,-ar,-ay,cAx,o1x]<;>first | exact⟨rfl,rfl⟩ | exact rfl) (fun hl=>absurd (hl.symm.trans (show cU _ _ _=true by kernel_rfl)) (by decide)) ?_
   refine RunT.fin (by refine⟨v138,v131,q,n22,by simp[hh,e,d,g,f147,f148,f149,f156,f157,f158,-ar,-ay,cAx,o1x],(Sep.bF (w:=(n22,3)) sp (by simp))⟩)
  refine RunT.step (v:=pA n5 3) ae rfl rfl (by simp[hh,e,d]<;>first | exact⟨rfl,rfl⟩ | exact rfl) (fun _=>⟨(by simp[hh,e,d,ak.aP]),(by simp[hh,e,d,ak.aP]),(Sep.sub sp.var (by simp +contextual))⟩) ?_
  refine⟨?_,trivial⟩
  refine RunT.cd (as1:=[.list false (b.sites.map al)]) rfl rfl (py b.sites hb6) e81 (.cons (cY false b.sites) .nil) sp.var (by simp[hh,e,d]) (by simp[hh,e,d]) ?_
  rintro N am n166 _ sp rfl fs c0
  rw[← er7] at sp
  replace sp:Sep am n166 [oI N r7] [(n5,3),(n1+1,2),(n1,1)]:=sp
  have e:am (n1,1)=some ⟨6,[bC false b]⟩:=(c0 _ (by simp)).trans (by simp[hh,e,d,ak.aP])
  have d:am (n1+1,2)=some ⟨6,[zB]⟩:=(c0 _ (by simp)).trans (by simp[hh,e,d,ak.aP])
  have g:am (n5,3)=some ⟨6,[zB]⟩:=(c0 _ (by simp)).trans (by simp[hh,e,d,ak.aP])
  refine⟨(fun _=>⟨e,d,(Sep.sub sp.dr (by simp +contextual))⟩),?_⟩
  refine⟨?_,trivial⟩
  refine RunT.cd (as1:=[.list false (b.outer.map aL)]) rfl rfl (mI b.outer hb9) Fp (.cons (o6 false b.outer) .nil) sp (by simp[hh,e,d,g]) (by simp[hh,e,d,g]) ?_
  rintro an d4 n173 _ sp rfl fz c1
  rw[← ci] at sp
  replace sp:Sep d4 n173 [oS an o,oI N r7] [(n5,3),(n1+1,2),(n1,1)]:=sp
  have e:=(c1 _ (by simp)).trans e
  have d:=(c1 _ (by simp)).trans d
  have g:=(c1 _ (by simp)).trans g
  refine⟨(fun _=>⟨e,d,(Sep.sub sp.dr.dr (by simp +contextual))⟩),?_⟩
  refine⟨?_,trivial⟩
  refine RunT.cd (as1:=[.list false (b.inner.map aA.cells)]) rfl rfl (mj b.inner W) E8 (.cons (xW false b.inner) .nil) sp (by simp[hh,e,d,g]) (by simp[hh,e,d,g]) ?_
  rintro v183 d5 n180 _ sp rfl f0 c2
  rw[← X] at sp
  replace sp:Sep d5 n180 [oW v183 p,oS an o,oI N r7] [(n5,3),(n1+1,2),(n1,1)]:=sp
  have e:=(c2 _ (by simp)).trans e
  have d:=(c2 _ (by simp)).trans d
  have g:=(c2 _ (by simp)).trans g
  refine⟨(fun _=>⟨e,d,(Sep.sub sp.dr.dr.dr (by simp +contextual))⟩),?_⟩
  refine⟨?_,trivial⟩
  have f192:=Sep.oc sp.f2
  have f193:=Sep.oc sp.f1
  have f194:=Sep.oc sp
  refine RunT.same (v:=(.agg [int b.roots,.v (.slice none 0 0),N,int b.edges,an,v183])) ae rfl rfl (by simp[hh,e,d,g,f192,f193,f194,-ar,-ay,cAx,o1x]) (fun hl=>absurd (hl.symm.trans (show cU _ _ _=true by kernel_rfl)) (by decide)) ?_
  refine⟨?_,trivial⟩
  have f201:=Sep.oc sp.f2
  have f202:=Sep.oc sp.f1
  have f203:=Sep.oc sp
  refine RunT.step (v:=.undef) ae rfl rfl (by simp[hh,e,d,g,f192,f193,f194,f201,f202,f203,-ar,-ay,cAx,o1x]<;>first | exact⟨rfl,rfl⟩ | exact rfl) (fun hl=>absurd (hl.symm.trans (show cU _ _ _=true by kernel_rfl)) (by decide)) ?_
  refine RunT.fin (by refine⟨v183,an,N,n5,by simp[hh,e,d,g,f192,f193,f194,f201,f202,f203,-ar,-ay,cAx,o1x],(Sep.bF (w:=(n5,3)) sp (by simp))⟩)
 clear hh e d
 rintro ρ H n20 ⟨Y,ab,ac,l,⟨hh,e,d,g⟩,sp⟩
 refine aa.seq ?_
 refine zE fun k' hk'=>?_
 obtain⟨ao,d6,h⟩:=atm h
 have f205:=fun H=>ax (H:=H) (fr:=false) (f:=(aj.cells false)) bj d6
 simp[hh,e,d,g,f205,-aH]
 apply hk'
 refine aa.block ?_
 refine aa.aw h (fun (sJ:Int × (List aj)) ρ H n=>match sJ with | (O,G)=>∃ (R aM a0 a1 a2 T U V:ag),((ρ 2=pA (n1+1) 2∧ρ 3 = .ptr (l,3) 1 0 0∧ρ 21 = .list false (b.nodes.map (aj.cells false))∧ρ 22=int ao∧ρ 23=int O)∧H (n1+1,2)=some ⟨6,[[int 0,a2,a1,int 0,a0,aM]]⟩∧H (l,3)=some ⟨6,[[int b.roots,R,V,int b.edges,U,T]]⟩)∧Sep H n [oN R G,oW aM ([]:List aA),oS a0 ([]:List Str),oI a1 ([]:List Int),oN a2 ([]:List aj),oW T p,oS U o,oI V r7] [(l,3),(n1+1,2)]) (by refine⟨.v (.slice none 0 0),.v (.slice none 0 0),.v (.slice none 0 0),.v (.slice none 0 0),.v (.slice none 0 0),Y,ab,ac,by simp[hh,e,d,g],(Sep.sub (Sep.cu (Sep.cu (Sep.cu (Sep.cu (Sep.cu sp))))) (by simp +contextual))⟩) ?_
 clear hh e d g
 rintro⟨O,G⟩ ρ H n247 K h ⟨R,aM,a0,a1,a2,T,U,V,⟨hh,d,g⟩,sp⟩ d7
 refine zE fun k' hk'=>?_
 obtain⟨d8,d9,h⟩:=atm h
 have f251:=aT (k:=.i64) d9
 simp[hh,d,g,f251,-ai]
 apply hk'
 refine aa.seq ?_
 refine aa.ite (b:=d8) (by simp[hh,d,g]) (fun J=>?_) (fun J=>?_)
 ·replace h:=h.1 J
  refine aa.skip ?_
  refine aa.seq ?_
  refine aa.block ?_
  refine zE fun k' hk'=>?_
  obtain⟨el,h⟩:=h
  obtain⟨j,em,h⟩:=atm h
  have f254:=fun H=>aE (H:=H) (fr:=false) (f:=(aj.cells false)) (k:=.i64) bj (fun _=>rfl) el em
  simp[hh,d,g,f254,J,-ah]
  apply hk'
  refine aa.cut (fun ρ H n=>∃ (a3 a4 a5 a9 bd be bi bk:ag),((ρ 2=pA (n1+1) 2∧ρ 3 = .ptr (l,3) 1 0 0∧ρ 5=pA n247 5∧ρ 21 = .list false (b.nodes.map (aj.cells false))∧ρ 22=int ao∧ρ 23=int O)∧H (n1+1,2)=some ⟨6,[[int 0,bd,a9,int 0,a5,a4]]⟩∧H (l,3)=some ⟨6,[[int b.roots,a3,bk,int b.edges,bi,be]]⟩∧H (n247,5)=some ⟨3,[[int j.control,int j.parent,.list false (j.links.map al)]]⟩)∧Sep H n [oN a3 G,oW a4 ([]:List aA),oS a5 ([]:List Str),oI a9 ([]:List Int),oN bd ([]:List aj),oW be p,oS bi o,oI bk r7] [(n247,5),(l,3),(n1+1,2)]) (by refine⟨R,aM,a0,a1,a2,T,U,V,by simp[hh,d,g,f254,J,-ah],sp.var⟩) ?_
  clear hh d g
  rintro ρ H n264 ⟨a3,a4,a5,a9,bd,be,bi,bk,⟨hh,d,g,i⟩,sp⟩
  refine aa.cut (fun ρ H n=>∃ (I u A B C D E F:ag),((ρ 2=pA (n1+1) 2∧ρ 3 = .ptr (l,3) 1 0 0∧ρ 5=pA n247 5∧ρ 21 = .list false (b.nodes.map (aj.cells false))∧ρ 22=int ao∧ρ 23=int O)∧H (n1+1,2)=some ⟨6,[[int 0,C,B,int 0,A,u]]⟩∧H (l,3)=some ⟨6,[[int b.roots,I,F,int b.edges,E,D]]⟩∧H (n247,5)=some ⟨3,[[int j.control,int j.parent,.list false (j.links.map al)]]⟩)∧Sep H n [oN I G,oW u ([]:List aA),oS A ([]:List Str),oI B ([]:List Int),oN C ([]:List aj),oW D p,oS E o,oI F r7] [(n247,5),(l,3),(n1+1,2)]) (by refine⟨a3,a4,a5,a9,bd,be,bi,bk,by simp[hh,d,g,i],sp⟩) ?_
  clear hh d g i
  rintro ρ H n273 ⟨I,u,A,B,C,D,E,F,⟨hh,d,g,i⟩,sp⟩
  obtain⟨es,h⟩:=h
  obtain⟨c3,ev,h⟩:=atm h
  obtain⟨ex,h⟩:=h
  obtain⟨c4,ey,h⟩:=atm h
  refine aa.FA (fun H n=>H (n1+1,2)=some ⟨6,[[int 0,C,B,int 0,A,u]]⟩∧H (l,3)=some ⟨6,[[int b.roots,I,F,int b.edges,E,D]]⟩∧H (n247,5)=some ⟨3,[[int j.control,int j.parent,.list false (j.links.map al)]]⟩∧Sep H n [oN I G,oW u ([]:List aA),oS A ([]:List Str),oI B ([]:List Int),oN C ([]:List aj),oW D p,oS E o,oI F r7] [(n247,5),(l,3),(n1+1,2)]) [8,9,10,11,12,13] (.free 0 (.free 1 (.free 2 (.free 3 (.free 4 (.free 5 (.free 6 (.free 7 (.hard 8 (.hard 9 (.hard 10 (.hard 11 (.hard 12 (.hard 13 (.fin) (.stop)) (.stop)) (.stop)) (.stop)) (.stop)) (.stop)))))))))) (fun ρ H n=>∃ (bs bv b0 b1 b2 b3 b5 b7:ag),((ρ 2=pA (n1+1) 2∧ρ 3 = .ptr (l,3) 1 0 0∧ρ 21 = .list false (b.nodes.map (aj.cells false))∧ρ 22=int ao∧ρ 23=int O)∧H (n1+1,2)=some ⟨6,[[int 0,b2,b1,int 0,b0,bv]]⟩∧H (l,3)=some ⟨6,[[int b.roots,bs,b7,int b.edges,b5,b3]]⟩)∧Sep H n [oN bs c4,oW bv ([]:List aA),oS b0 ([]:List Str),oI b1 ([]:List Int),oN b2 ([]:List aj),oW b3 p,oS b5 o,oI b7 r7] [(l,3),(n1+1,2)]) bU (by decide) (by kernel_rfl) ?_ ?_
  ·refine RunT.free (.ptr (l,3) 1 0 1) rfl rfl ⟨d,g,i,sp⟩ (fun H n hS=>by obtain⟨d,g,i,sp⟩:=hS;exact (by exact aJ ae (by rw[aC];simp[hh,d,g,i]))) ?_
   refine RunT.free I rfl rfl ⟨d,g,i,sp⟩ (fun H n hS=>by obtain⟨d,g,i,sp⟩:=hS;exact (by exact aJ ae (by rw[aC];simp[hh,d,g,i]))) ?_
   refine RunT.free (pA n247 5) rfl rfl ⟨d,g,i,sp⟩ (fun H n hS=>by obtain⟨d,g,i,sp⟩:=hS;exact (by exact aJ ae (by rw[aC];simp[hh,d,g,i]))) ?_
   refine RunT.free (int j.control) rfl rfl ⟨d,g,i,sp⟩ (fun H n hS=>by obtain⟨d,g,i,sp⟩:=hS;exact (by exact aJ ae (by rw[aC];simp[hh,d,g,i]))) ?_
   refine RunT.free (.ptr (n247,5) 1 0 1) rfl rfl ⟨d,g,i,sp⟩ (fun H n hS=>by obtain⟨d,g,i,sp⟩:=hS;exact (by exact aJ ae (by rw[aC];simp[hh,d,g,i]))) ?_
   refine RunT.free (int j.parent) rfl rfl ⟨d,g,i,sp⟩ (fun H n hS=>by obtain⟨d,g,i,sp⟩:=hS;exact (by exact aJ ae (by rw[aC];simp[hh,d,g,i]))) ?_
   refine RunT.free (.ptr (n247,5) 1 0 2) rfl rfl ⟨d,g,i,sp⟩ (fun H n hS=>by obtain⟨d,g,i,sp⟩:=hS;exact (by exact aJ ae (by rw[aC];simp[hh,d,g,i]))) ?_
   refine RunT.free (.list false (j.links.map al)) rfl rfl ⟨d,g,i,sp⟩ (fun H n hS=>by obtain⟨d,g,i,sp⟩:=hS;exact (by exact aJ ae (by rw[aC];simp[hh,d,g,i]))) ?_
   refine⟨?_,trivial⟩
   refine RunT.cd (as1:=[.list false (j.links.map al)]) rfl rfl (py j.links es) e81 (.cons (cY false j.links) .nil) sp (by simp[hh,d,g,i]) (by simp[hh,d,g,i]) ?_
   rintro L e0 n289 _ sp rfl f4 c6
   rw[← ev] at sp
   replace sp:Sep e0 n289 [oI L c3,oN I G,oW u ([]:List aA),oS A ([]:List Str),oI B ([]:List Int),oN C ([]:List aj),oW D p,oS E o,oI F r7] [(n247,5),(l,3),(n1+1,2)]:=sp
   have d:=(c6 _ (by simp)).trans d
   have g:=(c6 _ (by simp)).trans g
   have i:=(c6 _ (by simp)).trans i
   refine⟨(fun _=>⟨d,g,i,sp.dr⟩),?_⟩
   refine⟨?_,trivial⟩
   have f301:=Sep.oc sp
   refine RunT.same (v:=(.agg [int j.control,int j.parent,L])) ae rfl rfl (by simp[hh,d,g,i,f301,-ar,-ay,cAx,o1x]) (fun _=>⟨d,g,i,sp.dr⟩) ?_
   refine⟨?_,trivial⟩
   refine RunT.same (v:=(.list true [[int j.control,int j.parent,L]])) ae rfl rfl (by simp[hh,d,g,i,f301,-ar,-ay,cAx,o1x]) (fun _=>⟨d,g,i,sp.dr⟩) ?_
   refine⟨?_,trivial⟩
   refine RunT.append (v:=I) (xv:=(.list true [[int j.control,int j.parent,L]])) ae [oI L c3] [oW u ([]:List aA),oS A ([]:List Str),oI B ([]:List Int),oN C ([]:List aj),oW D p,oS E o,oI F r7] [[int j.control,int j.parent,L]] [(aj.cells true) (aj.mk j.control j.parent c3)] rfl rfl (by simp[hh,d,g,i,f301,-ar,-ay,cAx,o1x]) (by simp[hh,d,g,i,f301,-ar,-ay,cAx,o1x]) sp.f1 bj (by simp) (by simp) (by simp[dE]) (by simp[-ay,o1x,Sep.ay sp.f1.dr]) (bz (az.v _ (az.v _ (az.own az.nil)))) (by simp) (by simpa using ex) ?_
   rintro dl e1 n309 sp c8 f8
   replace sp:Sep e1 n309 [oN dl c4,oW u ([]:List aA),oS A ([]:List Str),oI B ([]:List Int),oN C ([]:List aj),oW D p,oS E o,oI F r7] [(n247,5),(l,3),(n1+1,2)]:=by refine Sep.ap ey ?_;exact sp
   have d:=(c8 _ (by simp)).trans d
   have g:=(c8 _ (by simp)).trans g
   have i:=(c8 _ (by simp)).trans i
   refine⟨(fun hl=>absurd (hl.symm.trans (show cU _ _ _=true by kernel_rfl)) (by decide)),?_⟩
   refine⟨?_,trivial⟩
   refine RunT.same (v:=(.ptr (l,3) 1 0 1)) ae rfl rfl (by simp[hh,d,g,i,f301,-ar,-ay,cAx,o1x]) (fun hl=>absurd (hl.symm.trans (show cU _ _ _=true by kernel_rfl)) (by decide)) ?_
   refine⟨?_,trivial⟩
   have f327:=Sep.oc sp
   refine RunT.step (v:=.undef) ae rfl rfl (by simp[hh,d,g,i,f301,f327,-ar,-ay,cAx,o1x]<;>first | exact⟨rfl,rfl⟩ | exact rfl) (fun hl=>absurd (hl.symm.trans (show cU _ _ _=true by kernel_rfl)) (by decide)) ?_
   refine RunT.fin (by refine⟨dl,u,A,B,C,D,E,F,by simp[hh,d,g,i,f301,f327,-ar,-ay,cAx,o1x],(Sep.sub (Sep.bF (w:=(l,3)) sp (by simp)) (by simp +contextual))⟩)
  clear hh d g i
  rintro ρ H n287 ⟨bs,bv,b0,b1,b2,b3,b5,b7,⟨hh,d,g⟩,sp⟩
  refine aa.inBlock ?_
  refine zF fun k' hk'=>?_
  obtain⟨e2,h⟩:=h
  obtain⟨e3,e4,h⟩:=atm h
  have f330:=aI e2 e4
  simp[hh,d,g,f330,-ai]
  apply hk'
  refine d7 (e3,c4) _ _ _ h (by refine⟨bs,bv,b0,b1,b2,b3,b5,b7,by simp[hh,d,g],sp⟩)
 replace h:=h.2 J
 refine aa.exit rfl ?_
 refine zE fun k' hk'=>?_
 have f331:=Sep.oc sp
 have f332:=Sep.oc sp.f7
 have f333:=Sep.oc sp.f6
 have f334:=Sep.oc sp.f5
 simp[hh,d,g,f331,f332,f333,f334,J,-ar,-ay,cAx,o1x]
 apply hk'
 refine aa.cut (fun ρ H n=>∃ (b8 b9 cc ce:ag),(ρ 2=pA (n1+1) 2∧H (n1+1,2)=some ⟨6,[[int b.roots,b8,ce,int b.edges,cc,b9]]⟩)∧Sep H n [oN b8 G,oW b9 p,oS cc o,oI ce r7] [(n1+1,2)]) (by refine⟨R,T,U,V,by simp[hh,d,g,f331,f332,f333,f334,J,-ar,-ay,cAx,o1x],(Sep.sub (Sep.dr (Sep.f1 (Sep.dr (Sep.f1 (Sep.dr (Sep.f1 (Sep.dr (Sep.f1 (Sep.bF (w:=(n1+1,2)) sp (by simp)))))))))) (by simp +contextual))⟩) ?_
 clear hh d g
 rintro ρ H n339 ⟨b8,b9,cc,ce,⟨hh,d⟩,sp⟩
 exact aa.yk ae (v:=.agg [int b.roots,b8,ce,int b.edges,cc,b9]) Tryz.func112 Tryz.results112 (by simp[hh,d,dO]) (hQ _ _ _ _ (Sep.sub (ids':=[]) (Sep.pack (az.v _ (az.own (az.own (az.v _ (az.own (az.own az.nil)))))) sp.f2.f3.f2) (by simp)) ⟨(Big.mk b.roots G r7 b.edges o p),h,rfl⟩)
theorem Fe (b:Big) (hp:ou b):a7 Tryz.prog 112 [.agg (bC false b)] (.a [.c,.s [.c,.c,.s [.c]],.s [.c],.c,.s [.c],.s [.c,.c]]) (fun r=>r = .agg [int ((vD b).roots),.list true (((vD b).nodes).map (aj.cells true)),.list true (((vD b).sites).map al),int ((vD b).edges),.list true (((vD b).outer).map aL),.list true (((vD b).inner).map aA.cells)]):=(Df b _ (Fg b hp)).mono (by rintro _ ⟨_,rfl,rfl⟩;rfl)
theorem e56:Ent Tryz.prog 56:=Ent.of Tryz.func56 (by kernel_rfl) rfl
theorem xK (sig:List Control) (b:Big) (Z:(Big × Bool)→Prop) (h:mN sig b Z):a7 Tryz.prog 56 [.list false (sig.map Control.cells),.agg (bC false b)] (.t [.a [.c,.s [.c,.c,.s [.c]],.s [.c],.c,.s [.c],.s [.c,.c]],.c]) (fun r=>∃ y:Big × Bool,Z y∧r = .tup [.agg (bC true y.1),bool y.2]):=by
 unfold mN at h
 have sp:Sep bc 0 [] []:=Sep.nil (by simp)
 refine a7.of Tryz.func56 rfl Tryz.ntmps56 (by simp) fun Q hQ=>?_
 refine aa.cut (fun ρ H n=>(ρ 0 = .list false (sig.map Control.cells)∧ρ 1 = .agg (bC false b))∧Sep H n [] []) (by refine⟨by simp ,sp⟩) ?_
 rintro ρ H n1 ⟨hh,sp⟩
 refine zE fun k' hk'=>?_
 simp[hh]
 apply hk'
 refine aa.cut (fun ρ H n=>((ρ 0 = .list false (sig.map Control.cells)∧ρ 3=pA n1 3∧ρ 4=pA (n1+1) 4)∧H (n1,3)=some ⟨6,[bC false b]⟩∧H (n1+1,4)=some ⟨6,[zB]⟩)∧Sep H n [] [(n1+1,4),(n1,3)]) (by refine⟨by simp[hh],sp.var.var⟩) ?_
 clear hh
 rintro ρ H n4 ⟨⟨hh,e,d⟩,sp⟩
 refine aa.seq ?_
 refine zE fun k' hk'=>?_
 obtain⟨hb5,h⟩:=h
 obtain⟨r6,er6,h⟩:=atm h
 simp[hh,e,d]
 refine aG.aB ae (kv sig b hb5) Gs (.cons (iR false sig) (.cons (bg false b) .nil)) (by decide) (by decide) rfl (by simp[hh,e,d]) ?_
 rintro _ rfl
 rw[← er6]
 simp[hh,e,d]
 apply hk'
 refine aa.ite (b:=(!r6)) (by simp[hh,e,d]) (fun dr6=>?_) (fun dr6=>?_)
 ·have dr6:r6=false:=by simpa using dr6
  replace h:=h.2 dr6
  refine zE fun k' hk'=>?_
  simp[hh,e,d,dr6]
  apply hk'
  refine aa.cut (fun ρ H n=>((ρ 4=pA (n1+1) 4∧ρ 5=bool false)∧H (n1+1,4)=some ⟨6,[zB]⟩)∧Sep H n [] [(n1+1,4)]) (by refine⟨by simp[hh,e,d,dr6],(Sep.sub (Sep.bF (w:=(n1+1,4)) sp (by simp)) (by simp +contextual))⟩) ?_
  clear hh e d
  rintro ρ H n7 ⟨⟨hh,d⟩,sp⟩
  exact aa.tf ae (v:=.agg [int 0,.v (.slice none 0 0),.v (.slice none 0 0),int 0,.v (.slice none 0 0),.v (.slice none 0 0)]) (w:=bool false) Tryz.func56 Tryz.results56 (by simp[hh,d,dO]) (by simp[hh,d,dO]) (hQ _ _ _ _ (Sep.sub (ids':=[]) (Sep.fy (az.own (az.v _ az.nil)) (Sep.pack (az.v _ (az.own (az.own (az.v _ (az.own (az.own az.nil)))))) (Sep.f3 (Sep.f2 (Sep.f1 (Sep.cu (Sep.cu (Sep.cu (Sep.cu sp))))))))) (by simp)) ⟨((Big.mk 0 [] [] 0 [] []),false),h,rfl⟩)
 have dr6:r6=true:=by simpa using dr6
 replace h:=h.1 dr6
 refine aa.skip ?_
 refine zE fun k' hk'=>?_
 obtain⟨p,h⟩:=h
 obtain⟨g,q,h⟩:=atm h
 simp[hh,e,d,dr6]
 refine aG.cd ae (Fe b p) II (.cons (bg false b) .nil) sp (by decide) (by decide) rfl (by simp[hh,e,d,dr6]) ?_
 rintro D E n18 _ sp rfl F o
 rw[← q] at sp
 have e:=(o _ (by simp)).trans e
 have d:=(o _ (by simp)).trans d
 replace sp:=Sep.unpack sp
 obtain⟨L28,hv,u,sp⟩:=sp
 subst hv
 obtain⟨v22,A,v24,G,B,C,hv⟩:=cK (by simpa using u)
 subst hv
 simp only[dp,List.cons_append,List.nil_append] at sp
 replace sp:=Sep.scalar sp
 obtain⟨hv,sp⟩:=sp
 subst hv
 replace sp:=Sep.rot sp
 try simp only[List.cons_append,List.nil_append,List.append_assoc] at sp
 replace sp:=Sep.rot sp
 try simp only[List.cons_append,List.nil_append,List.append_assoc] at sp
 replace sp:=Sep.scalar sp
 obtain⟨hv,sp⟩:=sp
 subst hv
 replace sp:=Sep.rot sp
 try simp only[List.cons_append,List.nil_append,List.append_assoc] at sp
 replace sp:=Sep.rot sp
 try simp only[List.cons_append,List.nil_append,List.append_assoc] at sp
 have f34:=Sep.oc sp
 have f35:=Sep.oc sp.f1
 have f36:=Sep.oc sp.f2
 have f37:=Sep.oc sp.f3
 simp[hh,e,d,f34,f35,f36,f37,dr6,-ar,-ay,cAx,o1x]
 apply hk'
 refine aa.cut (fun ρ H n=>∃ (i j v40 l:ag),((ρ 4=pA (n1+1) 4∧ρ 5=bool true)∧H (n1+1,4)=some ⟨6,[[int g.roots,i,j,int g.edges,v40,l]]⟩)∧Sep H n [oN i g.nodes,oI j g.sites,oS v40 g.outer,oW l g.inner] [(n1+1,4)]) (by refine⟨A,v24,B,C,by simp[hh,e,d,f34,f35,f36,f37,dr6,-ar,-ay,cAx,o1x],(Sep.sub (Sep.bF (w:=(n1+1,4)) sp (by simp)) (by simp +contextual))⟩) ?_
 clear hh e d
 rintro ρ H I ⟨i,j,v40,l,⟨hh,d⟩,sp⟩
 exact aa.tf ae (v:=.agg [int g.roots,i,j,int g.edges,v40,l]) (w:=bool true) Tryz.func56 Tryz.results56 (by simp[hh,d,dO]) (by simp[hh,d,dO]) (hQ _ _ _ _ (Sep.sub (ids':=[]) (Sep.fy (az.own (az.v _ az.nil)) (Sep.pack (az.v _ (az.own (az.own (az.v _ (az.own (az.own az.nil)))))) sp)) (by simp)) ⟨(g,true),h,rfl⟩)
theorem C0 (sig:List Control) (b:Big) (hp:nC sig b):a7 Tryz.prog 56 [.list false (sig.map Control.cells),.agg (bC false b)] (.t [.a [.c,.s [.c,.c,.s [.c]],.s [.c],.c,.s [.c],.s [.c,.c]],.c]) (fun r=>r = .tup [.agg [int (((iL sig b).1).roots),.list true ((((iL sig b).1).nodes).map (aj.cells true)),.list true ((((iL sig b).1).sites).map al),int (((iL sig b).1).edges),.list true ((((iL sig b).1).outer).map aL),.list true ((((iL sig b).1).inner).map aA.cells)],bool ((iL sig b).2)]):=(xK sig b _ (CG sig b hp)).mono (by rintro _ ⟨_,rfl,rfl⟩;rfl)
theorem e98:Ent Tryz.prog 98:=Ent.of Tryz.func98 (by kernel_rfl) rfl
theorem wz (b:Big) (kind:List Bool) (is:Bool) (links:List Int) (one:Bool) (Z:(List aj)→Prop) (h:mX b kind is links one Z):a7 Tryz.prog 98 [.agg (bC false b),.list false (kind.map av),bool is,.list false (links.map al),bool one] (.s [.c,.c,.s [.c]]) (fun r=>∃ y:List aj,Z y∧r = .list true (y.map (aj.cells true))):=by
 unfold mX at h
 have sp:Sep bc 0 [] []:=Sep.nil (by simp)
 refine a7.of Tryz.func98 rfl Tryz.ntmps98 (by simp) fun Q hQ=>?_
 refine aa.cut (fun ρ H n=>(ρ 0 = .agg (bC false b)∧ρ 1 = .list false (kind.map av)∧ρ 2=bool is∧ρ 3 = .list false (links.map al)∧ρ 4=bool one)∧Sep H n [] []) (by refine⟨by simp[av],sp⟩) ?_
 rintro ρ H n1 ⟨hh,sp⟩
 refine zE fun k' hk'=>?_
 simp[hh,av]
 apply hk'
 refine aa.cut (fun ρ H n=>((ρ 1 = .list false (kind.map av)∧ρ 2=bool is∧ρ 3 = .list false (links.map al)∧ρ 4=bool one∧ρ 5=pA n1 5)∧H (n1,5)=some ⟨6,[bC false b]⟩)∧Sep H n [] [(n1,5)]) (by refine⟨by simp[hh,av],sp.var⟩) ?_
 clear hh
 rintro ρ H n3 ⟨⟨hh,a⟩,sp⟩
 refine zE fun k' hk'=>?_
 simp[hh,a,av]
 apply hk'
 refine aa.cut (fun ρ H n=>∃ (v6 v7:ag),((ρ 1 = .list false (kind.map av)∧ρ 2=bool is∧ρ 3 = .list false (links.map al)∧ρ 4=bool one∧ρ 5=pA n1 5∧ρ 11=v7∧ρ 12=v6)∧H (n1,5)=some ⟨6,[bC false b]⟩)∧Sep H n [oI v6 ([]:List Int),oN v7 ([]:List aj)] [(n1,5)]) (by refine⟨.arr (n3+1,18) 0 0 0,.arr (n3,17) 0 0 0,by simp[hh,a,av],(Sep.addEmpty (l:=[.c]) (Sep.addEmpty (l:=[.c,.c,.s [.c]]) sp))⟩) ?_
 clear hh a
 rintro ρ H n8 ⟨v6,v7,⟨hh,a⟩,sp⟩
 refine aa.seq ?_
 refine zE fun k' hk'=>?_
 simp[hh,a,av]
 apply hk'
 refine aa.block ?_
 refine aa.aw h (fun (sJ:Int × (List Int) × (List aj)) ρ H n=>match sJ with | (i19,cj,e)=>∃ (v22 D:ag),((ρ 1 = .list false (kind.map av)∧ρ 2=bool is∧ρ 3 = .list false (links.map al)∧ρ 4=bool one∧ρ 5=pA n1 5∧ρ 11=D∧ρ 12=v22∧ρ 13=int i19)∧H (n1,5)=some ⟨6,[bC false b]⟩)∧Sep H n [oI v22 cj,oN D e] [(n1,5)]) (by refine⟨v6,v7,by simp[hh,a,av],sp⟩) ?_
 clear hh a
 rintro⟨i19,cj,e⟩ ρ H n24 K h ⟨v22,D,⟨hh,a⟩,sp⟩ X
 refine aa.seq ?_
 refine zE fun k' hk'=>?_
 obtain⟨ip,d0,h⟩:=atm h
 have f28:=fun H=>ax (H:=H) (fr:=false) (f:=(aj.cells false)) bj d0
 obtain⟨d1,d2,h⟩:=atm h
 have f30:=aT (k:=.i64) d2
 simp[hh,a,f28,f30,av,-ai,-aH]
 apply hk'
 refine aa.ite (b:=d1) (by simp[hh,a,av]) (fun C=>?_) (fun C=>?_)
 ·replace h:=h.1 C
  refine aa.skip ?_
  refine aa.seq ?_
  refine aa.block ?_
  refine zE fun k' hk'=>?_
  obtain⟨b1,d3,h⟩:=atm h
  have f32:=dT (Sep.len (m:=b1) sp.f1 bj (by rw[d3,List.length_map]))
  obtain⟨d4,h⟩:=h
  obtain⟨d,d5,h⟩:=atm h
  simp[hh,a,f32,C,av,-aH,-ba]
  refine a8 [] [oN D e] [[int b1]] [al b1] sp aO (by simp) (by simp) (by simp[av]) (by simp[-ay,o1x]) (bz (az.v _ az.nil)) (by simp) (by simpa using d4) ?_
  rintro cl d6 n37 sp d7 it
  replace sp:Sep d6 n37 [oI cl d,oN D e] [(n1,5)]:=Sep.ap d5 sp
  have a:=(d7 _ (by simp)).trans a
  simp[hh,a,f32,C,av,-aH]
  apply hk'
  refine aa.cut (fun ρ H n=>∃ (G I:ag),((ρ 1 = .list false (kind.map av)∧ρ 2=bool is∧ρ 3 = .list false (links.map al)∧ρ 4=bool one∧ρ 5=pA n1 5∧ρ 11=I∧ρ 12=G∧ρ 13=int i19)∧H (n1,5)=some ⟨6,[bC false b]⟩)∧Sep H n [oI G d,oN I e] [(n1,5)]) (by refine⟨cl,D,by simp[hh,a,f32,C,av,-aH],sp⟩) ?_
  clear hh a
  rintro ρ H ix ⟨G,I,⟨hh,a⟩,sp⟩
  refine aa.seq ?_
  refine zE fun k' hk'=>?_
  obtain⟨d8,h⟩:=h
  obtain⟨i0,d9,h⟩:=atm h
  have f46:=fun H=>aE (H:=H) (fr:=false) (f:=av) (k:=.i64) nt (fun _=>rfl) d8 d9
  obtain⟨el,em,h⟩:=atm h
  have f48:=vy em
  simp[hh,a,f46,f48,av,-dC,-ah]
  apply hk'
  refine aa.ite (b:=el) (by simp[hh,a,av]) (fun j=>?_) (fun j=>?_)
  ·replace h:=h.1 j
   refine aa.exit rfl ?_
   refine zF fun k' hk'=>?_
   obtain⟨es,h⟩:=h
   obtain⟨ev,ex,h⟩:=atm h
   have f51:=aI es ex
   simp[hh,a,f51,j,av,-ai]
   apply hk'
   refine X (ev,d,e) _ _ _ h (by refine⟨G,I,by simp[hh,a,j,av],sp⟩)
  replace h:=h.2 j
  refine aa.skip ?_
  refine zE fun k' hk'=>?_
  obtain⟨ey,h⟩:=h
  obtain⟨E,e0,h⟩:=atm h
  have f54:=fun H=>aE (H:=H) (fr:=false) (f:=(aj.cells false)) (k:=.i64) bj (fun _=>rfl) ey e0
  simp[hh,a,f54,j,av,-ah]
  apply hk'
  refine aa.seq ?_
  refine zE fun k' hk'=>?_
  obtain⟨e1,e2,e3⟩:=h
  have co:∀ (sJ:Bool) (ρ:Env) (H:ak) (n:Nat),e1 sJ→(match sJ with | b2=>∃ (v59 J:ag),((ρ 1 = .list false (kind.map av)∧ρ 2=bool is∧ρ 3 = .list false (links.map al)∧ρ 4=bool one∧ρ 5=pA n1 5∧ρ 11=J∧ρ 12=v59∧ρ 13=int i19∧ρ 14=int E.parent∧ρ 52=bool b2)∧H (n1,5)=some ⟨6,[bC false b]⟩)∧Sep H n [oI v59 d,oN J e] [(n1,5)])→aa Tryz.prog 98 98 k' ρ H n Q:=by
   rintro b2 ρ H b3 h ⟨v59,J,⟨hh,a⟩,sp⟩
   replace h:=e3 _ h
   apply hk'
   refine aa.ite (b:=b2) (by simp[hh,a,av]) (fun i=>?_) (fun i=>?_)
   ·replace h:=h.1 i
    refine zF fun k' hk'=>?_
    obtain⟨b5,h⟩:=h
    obtain⟨cs,hv,Y,i1,N⟩:=Sep.fC sp (by simp) b5
    subst hv
    simp at N
    obtain⟨O,e4,h⟩:=atm h
    have f69:=fun H (hm:H cs=some ⟨1,d.map al⟩)=>cF (H:=H) (k:=.i64) (off:=0) (len:=d.length) (g:=d.length) aO hm (by simp) rfl b5
    have f70:=cH (q:=E.parent.toNat) b5 e4 rfl
    simp[hh,a,Y,N,f69,f70,i,av,-ah]
    apply hk'
    refine zE fun k' hk'=>?_
    simp[hh,a,Y,N,i,av]
    apply hk'
    refine aa.cut (fun ρ H n=>∃ (v72 ab ac:ag),((ρ 1 = .list false (kind.map av)∧ρ 2=bool is∧ρ 3 = .list false (links.map al)∧ρ 4=bool one∧ρ 5=pA n1 5∧ρ 11=ac∧ρ 12=ab∧ρ 13=int i19∧ρ 14=int O∧ρ 15=v72)∧H (n1,5)=some ⟨6,[bC false b]⟩)∧Sep H n [oI v72 ([]:List Int),oI ab d,oN ac e] [(n1,5)]) (by refine⟨.arr (b3,58) 0 0 0,.arr cs d.length 0 d.length,J,by simp[hh,a,Y,N,i,av],(Sep.addEmpty (l:=[.c]) sp)⟩) ?_
    clear hh a Y N
    rintro ρ H i2 ⟨v72,ab,ac,⟨hh,a⟩,sp⟩
    refine aa.seq ?_
    refine zE fun k' hk'=>?_
    simp[hh,a,av]
    apply hk'
    refine aa.block ?_
    refine aa.aw h (fun (sJ:Int × (List Int)) ρ H n=>match sJ with | (k87,ad)=>∃ (R o v91:ag),((ρ 1 = .list false (kind.map av)∧ρ 2=bool is∧ρ 3 = .list false (links.map al)∧ρ 4=bool one∧ρ 5=pA n1 5∧ρ 11=v91∧ρ 12=o∧ρ 13=int i19∧ρ 14=int O∧ρ 15=R∧ρ 16=int k87)∧H (n1,5)=some ⟨6,[bC false b]⟩)∧Sep H n [oI R ad,oI o d,oN v91 e] [(n1,5)]) (by refine⟨v72,ab,ac,by simp[hh,a,av],sp⟩) ?_
    clear hh a
    rintro⟨k87,ad⟩ ρ H i3 K h ⟨R,o,v91,⟨hh,a⟩,sp⟩ e7
    refine aa.seq ?_
    refine zE fun k' hk'=>?_
    obtain⟨e8,h⟩:=h
    obtain⟨c0,T,h⟩:=atm h
    have f97:=fun H=>aE (H:=H) (fr:=false) (f:=(aj.cells false)) (k:=.i64) bj (fun _=>rfl) e8 T
    obtain⟨i4,fd,h⟩:=atm h
    have f99:=fun H=>ax (H:=H) (fr:=false) (f:=al) aO fd
    obtain⟨fl,fn,h⟩:=atm h
    have f101:=aT (k:=.i64) fn
    simp[hh,a,f97,f99,f101,av,-ah,-ai,-aH]
    apply hk'
    refine aa.ite (b:=fl) (by simp[hh,a,av]) (fun p=>?_) (fun p=>?_)
    ·replace h:=h.1 p
     refine aa.skip ?_
     refine aa.seq ?_
     refine aa.block ?_
     refine zF fun k' hk'=>?_
     obtain⟨fo,h⟩:=h
     obtain⟨i5,fs,h⟩:=atm h
     have fz:=T.trans fs.symm
     subst fz
     have f105:=fun H=>aE (H:=H) (fr:=false) (f:=(aj.cells false)) (k:=.i64) bj (fun _=>rfl) fo T
     obtain⟨f0,h⟩:=h
     obtain⟨i6,f3,h⟩:=atm h
     have f108:=fun H=>aE (H:=H) (fr:=false) (f:=al) (k:=.i64) aO (fun _=>rfl) f0 f3
     obtain⟨f4,h⟩:=h
     obtain⟨c1,f5,h⟩:=atm h
     have f111:=fun H=>aE (H:=H) (fr:=false) (f:=al) (k:=.i64) aO (fun _=>rfl) f4 f5
     obtain⟨f6,h⟩:=h
     obtain⟨b7,f7,h⟩:=atm h
     simp[hh,a,f105,f108,f111,p,av,-ah,-ba]
     refine a8 [] [oI o d,oN v91 e] [[int c1]] [al c1] sp aO (by simp) (by simp) (by simp[av]) (by simp[-ay,o1x]) (bz (az.v _ az.nil)) (by simp) (by simpa using f6) ?_
     rintro c2 f8 n116 sp f9 i7
     replace sp:Sep f8 n116 [oI c2 b7,oI o d,oN v91 e] [(n1,5)]:=Sep.ap f7 sp
     have a:=(f9 _ (by simp)).trans a
     simp[hh,a,f105,f108,f111,p,av,-ah]
     apply hk'
     refine aa.cut (fun ρ H n=>∃ (af am an:ag),((ρ 1 = .list false (kind.map av)∧ρ 2=bool is∧ρ 3 = .list false (links.map al)∧ρ 4=bool one∧ρ 5=pA n1 5∧ρ 11=an∧ρ 12=am∧ρ 13=int i19∧ρ 14=int O∧ρ 15=af∧ρ 16=int k87)∧H (n1,5)=some ⟨6,[bC false b]⟩)∧Sep H n [oI af b7,oI am d,oN an e] [(n1,5)]) (by refine⟨c2,o,v91,by simp[hh,a,f105,f108,f111,p,av,-ah],sp⟩) ?_
     clear hh a
     rintro ρ H n123 ⟨af,am,an,⟨hh,a⟩,sp⟩
     refine aa.inBlock ?_
     refine zF fun k' hk'=>?_
     obtain⟨gc,h⟩:=h
     obtain⟨gd,gg,h⟩:=atm h
     have f126:=aI gc gg
     simp[hh,a,f126,av,-ai]
     apply hk'
     refine e7 (gd,b7) _ _ _ h (by refine⟨af,am,an,by simp[hh,a,av],sp⟩)
    replace h:=h.2 p
    refine aa.exit rfl ?_
    refine zF fun k' hk'=>?_
    obtain⟨gi,h⟩:=h
    obtain⟨i8,gj,h⟩:=atm h
    have go:=T.trans gj.symm
    subst go
    have f130:=fun H=>aE (H:=H) (fr:=false) (f:=(aj.cells false)) (k:=.i64) bj (fun _=>rfl) gi T
    have f131:=Sep.oc sp
    obtain⟨gs,h⟩:=h
    obtain⟨b8,gu,h⟩:=atm h
    simp[hh,a,f130,f131,p,av,-ar,-ah,-ay,cAx,o1x,-ba]
    refine a8 [oI R ad] [oI o d] [[int c0.control,int O,R]] [(aj.cells true) (aj.mk c0.control O ad)] sp.f2 bj (by simp) (by simp) (by simp[av]) (by simp[-ay,o1x,Sep.ay sp.f2.dr]) (bz (az.v _ (az.v _ (az.own az.nil)))) (by simp) (by simpa using gs) ?_
    rintro c3 gv n136 sp gw i9
    replace sp:Sep gv n136 [oN c3 b8,oI o d] [(n1,5)]:=Sep.ap gu sp
    have a:=(gw _ (by simp)).trans a
    simp[hh,a,f130,f131,p,av,-ar,-ah,-ay,cAx,o1x]
    apply hk'
    refine aa.cut (fun ρ H n=>∃ (ao v141:ag),((ρ 1 = .list false (kind.map av)∧ρ 2=bool is∧ρ 3 = .list false (links.map al)∧ρ 4=bool one∧ρ 5=pA n1 5∧ρ 11=ao∧ρ 12=v141∧ρ 13=int i19)∧H (n1,5)=some ⟨6,[bC false b]⟩)∧Sep H n [oN ao b8,oI v141 d] [(n1,5)]) (by refine⟨c3,o,by simp[hh,a,f130,f131,p,av,-ar,-ah,-ay,cAx,o1x],sp⟩) ?_
    clear hh a
    rintro ρ H n142 ⟨ao,v141,⟨hh,a⟩,sp⟩
    refine aa.inBlock ?_
    refine zF fun k' hk'=>?_
    obtain⟨g0,h⟩:=h
    obtain⟨g1,g2,h⟩:=atm h
    have f145:=aI g0 g2
    simp[hh,a,f145,av,-ai]
    apply hk'
    refine X (g1,d,b8) _ _ _ h (by refine⟨v141,ao,by simp[hh,a,av],sp.f1⟩)
   replace h:=h.2 i
   refine zE fun k' hk'=>?_
   simp[hh,a,i,av]
   apply hk'
   refine aa.ite (b:=one) (by simp[hh,a,i,av]) (fun done=>?_) (fun done=>?_)
   ·replace h:=h.1 done
    refine zF fun k' hk'=>?_
    simp[hh,a,i,done,av]
    apply hk'
    refine zE fun k' hk'=>?_
    simp[hh,a,i,done,av]
    apply hk'
    refine aa.cut (fun ρ H n=>∃ (aM v148 a0:ag),((ρ 1 = .list false (kind.map av)∧ρ 2=bool is∧ρ 3 = .list false (links.map al)∧ρ 4=bool one∧ρ 5=pA n1 5∧ρ 11=a0∧ρ 12=v148∧ρ 13=int i19∧ρ 14=int (-1)∧ρ 15=aM)∧H (n1,5)=some ⟨6,[bC false b]⟩)∧Sep H n [oI aM ([]:List Int),oI v148 d,oN a0 e] [(n1,5)]) (by refine⟨.arr (b3,58) 0 0 0,v59,J,by simp[hh,a,i,done,av],(Sep.addEmpty (l:=[.c]) sp)⟩) ?_
    clear hh a
    rintro ρ H n150 ⟨aM,v148,a0,⟨hh,a⟩,sp⟩
    refine aa.seq ?_
    refine zE fun k' hk'=>?_
    simp[hh,a,done,av]
    apply hk'
    refine aa.block ?_
    refine aa.aw h (fun (sJ:Int × (List Int)) ρ H n=>match sJ with | (k162,a1)=>∃ (v164 t L:ag),((ρ 1 = .list false (kind.map av)∧ρ 2=bool is∧ρ 3 = .list false (links.map al)∧ρ 4=bool one∧ρ 5=pA n1 5∧ρ 11=L∧ρ 12=t∧ρ 13=int i19∧ρ 14=int (-1)∧ρ 15=v164∧ρ 16=int k162)∧H (n1,5)=some ⟨6,[bC false b]⟩)∧Sep H n [oI v164 a1,oI t d,oN L e] [(n1,5)]) (by refine⟨aM,v148,a0,by simp[hh,a,done,av],sp⟩) ?_
    clear hh a
    rintro⟨k162,a1⟩ ρ H n167 K h ⟨v164,t,L,⟨hh,a⟩,sp⟩ g3
    refine aa.seq ?_
    refine zE fun k' hk'=>?_
    obtain⟨g4,h⟩:=h
    obtain⟨c4,U,h⟩:=atm h
    have f172:=fun H=>aE (H:=H) (fr:=false) (f:=(aj.cells false)) (k:=.i64) bj (fun _=>rfl) g4 U
    obtain⟨jp,g5,h⟩:=atm h
    have f174:=fun H=>ax (H:=H) (fr:=false) (f:=al) aO g5
    obtain⟨g6,g7,h⟩:=atm h
    have f176:=aT (k:=.i64) g7
    simp[hh,a,f172,f174,f176,done,av,-ah,-ai,-aH]
    apply hk'
    refine aa.ite (b:=g6) (by simp[hh,a,done,av]) (fun u=>?_) (fun u=>?_)
    ·replace h:=h.1 u
     refine aa.skip ?_
     refine aa.seq ?_
     refine aa.block ?_
     refine zF fun k' hk'=>?_
     obtain⟨g8,h⟩:=h
     obtain⟨j1,g9,h⟩:=atm h
     have ha:=U.trans g9.symm
     subst ha
     have f180:=fun H=>aE (H:=H) (fr:=false) (f:=(aj.cells false)) (k:=.i64) bj (fun _=>rfl) g8 U
     obtain⟨hb,h⟩:=h
     obtain⟨j2,hc,h⟩:=atm h
     have f183:=fun H=>aE (H:=H) (fr:=false) (f:=al) (k:=.i64) aO (fun _=>rfl) hb hc
     obtain⟨he,h⟩:=h
     obtain⟨c6,hf,h⟩:=atm h
     have f186:=fun H=>aE (H:=H) (fr:=false) (f:=al) (k:=.i64) aO (fun _=>rfl) he hf
     obtain⟨hg,h⟩:=h
     obtain⟨b9,hi,h⟩:=atm h
     simp[hh,a,f180,f183,f186,done,u,av,-ah,-ba]
     refine a8 [] [oI t d,oN L e] [[int c6]] [al c6] sp aO (by simp) (by simp) (by simp[av]) (by simp[-ay,o1x]) (bz (az.v _ az.nil)) (by simp) (by simpa using hg) ?_
     rintro c8 hj n191 sp hk j3
     replace sp:Sep hj n191 [oI c8 b9,oI t d,oN L e] [(n1,5)]:=Sep.ap hi sp
     have a:=(hk _ (by simp)).trans a
     simp[hh,a,f180,f183,f186,done,u,av,-ah]
     apply hk'
     refine aa.cut (fun ρ H n=>∃ (a2 v196 a3:ag),((ρ 1 = .list false (kind.map av)∧ρ 2=bool is∧ρ 3 = .list false (links.map al)∧ρ 4=bool one∧ρ 5=pA n1 5∧ρ 11=a3∧ρ 12=v196∧ρ 13=int i19∧ρ 14=int (-1)∧ρ 15=a2∧ρ 16=int k162)∧H (n1,5)=some ⟨6,[bC false b]⟩)∧Sep H n [oI a2 b9,oI v196 d,oN a3 e] [(n1,5)]) (by refine⟨c8,t,L,by simp[hh,a,f180,f183,f186,done,u,av,-ah],sp⟩) ?_
     clear hh a
     rintro ρ H n198 ⟨a2,v196,a3,⟨hh,a⟩,sp⟩
     refine aa.inBlock ?_
     refine zF fun k' hk'=>?_
     obtain⟨hl,h⟩:=h
     obtain⟨hn,ho,h⟩:=atm h
     have f201:=aI hl ho
     simp[hh,a,f201,done,av,-ai]
     apply hk'
     refine g3 (hn,b9) _ _ _ h (by refine⟨a2,v196,a3,by simp[hh,a,done,av],sp⟩)
    replace h:=h.2 u
    refine aa.exit rfl ?_
    refine zF fun k' hk'=>?_
    obtain⟨hp,h⟩:=h
    obtain⟨j4,hq,h⟩:=atm h
    have hr:=U.trans hq.symm
    subst hr
    have f205:=fun H=>aE (H:=H) (fr:=false) (f:=(aj.cells false)) (k:=.i64) bj (fun _=>rfl) hp U
    have f206:=Sep.oc sp
    obtain⟨hs,h⟩:=h
    obtain⟨cc,ht,h⟩:=atm h
    simp[hh,a,f205,f206,done,u,av,-ar,-ah,-ay,cAx,o1x,-ba]
    refine a8 [oI v164 a1] [oI t d] [[int c4.control,int (-1),v164]] [(aj.cells true) (aj.mk c4.control (-1) a1)] sp.f2 bj (by simp) (by simp) (by simp[av]) (by simp[-ay,o1x,Sep.ay sp.f2.dr]) (bz (az.v _ (az.v _ (az.own az.nil)))) (by simp) (by simpa using hs) ?_
    rintro c9 hu n211 sp hw j5
    replace sp:Sep hu n211 [oN c9 cc,oI t d] [(n1,5)]:=Sep.ap ht sp
    have a:=(hw _ (by simp)).trans a
    simp[hh,a,f205,f206,done,u,av,-ar,-ah,-ay,cAx,o1x]
    apply hk'
    refine aa.cut (fun ρ H n=>∃ (a4 a5:ag),((ρ 1 = .list false (kind.map av)∧ρ 2=bool is∧ρ 3 = .list false (links.map al)∧ρ 4=bool one∧ρ 5=pA n1 5∧ρ 11=a4∧ρ 12=a5∧ρ 13=int i19)∧H (n1,5)=some ⟨6,[bC false b]⟩)∧Sep H n [oN a4 cc,oI a5 d] [(n1,5)]) (by refine⟨c9,t,by simp[hh,a,f205,f206,done,u,av,-ar,-ah,-ay,cAx,o1x],sp⟩) ?_
    clear hh a
    rintro ρ H n217 ⟨a4,a5,⟨hh,a⟩,sp⟩
    refine aa.inBlock ?_
    refine zF fun k' hk'=>?_
    obtain⟨hx,h⟩:=h
    obtain⟨hy,hz,h⟩:=atm h
    have f220:=aI hx hz
    simp[hh,a,f220,done,av,-ai]
    apply hk'
    refine X (hy,d,cc) _ _ _ h (by refine⟨a5,a4,by simp[hh,a,done,av],sp.f1⟩)
   replace h:=h.2 done
   refine aa.skip ?_
   refine zE fun k' hk'=>?_
   simp[hh,a,i,done,av]
   apply hk'
   refine aa.cut (fun ρ H n=>∃ (v222 a9 bd:ag),((ρ 1 = .list false (kind.map av)∧ρ 2=bool is∧ρ 3 = .list false (links.map al)∧ρ 4=bool one∧ρ 5=pA n1 5∧ρ 11=bd∧ρ 12=a9∧ρ 13=int i19∧ρ 14=int E.parent∧ρ 15=v222)∧H (n1,5)=some ⟨6,[bC false b]⟩)∧Sep H n [oI v222 ([]:List Int),oI a9 d,oN bd e] [(n1,5)]) (by refine⟨.arr (b3,58) 0 0 0,v59,J,by simp[hh,a,i,done,av],(Sep.addEmpty (l:=[.c]) sp)⟩) ?_
   clear hh a
   rintro ρ H n225 ⟨v222,a9,bd,⟨hh,a⟩,sp⟩
   refine aa.seq ?_
   refine zE fun k' hk'=>?_
   simp[hh,a,done,av]
   apply hk'
   refine aa.block ?_
   refine aa.aw h (fun (sJ:Int × (List Int)) ρ H n=>match sJ with | (k237,be)=>∃ (V A M:ag),((ρ 1 = .list false (kind.map av)∧ρ 2=bool is∧ρ 3 = .list false (links.map al)∧ρ 4=bool one∧ρ 5=pA n1 5∧ρ 11=M∧ρ 12=A∧ρ 13=int i19∧ρ 14=int E.parent∧ρ 15=V∧ρ 16=int k237)∧H (n1,5)=some ⟨6,[bC false b]⟩)∧Sep H n [oI V be,oI A d,oN M e] [(n1,5)]) (by refine⟨v222,a9,bd,by simp[hh,a,done,av],sp⟩) ?_
   clear hh a
   rintro⟨k237,be⟩ ρ H n242 K h ⟨V,A,M,⟨hh,a⟩,sp⟩ hA
   refine aa.seq ?_
   refine zE fun k' hk'=>?_
   obtain⟨hB,h⟩:=h
   obtain⟨da,W,h⟩:=atm h
   have f247:=fun H=>aE (H:=H) (fr:=false) (f:=(aj.cells false)) (k:=.i64) bj (fun _=>rfl) hB W
   obtain⟨kd,hD,h⟩:=atm h
   have f249:=fun H=>ax (H:=H) (fr:=false) (f:=al) aO hD
   obtain⟨hE,hF,h⟩:=atm h
   have f251:=aT (k:=.i64) hF
   simp[hh,a,f247,f249,f251,done,av,-ah,-ai,-aH]
   apply hk'
   refine aa.ite (b:=hE) (by simp[hh,a,done,av]) (fun B=>?_) (fun B=>?_)
   ·replace h:=h.1 B
    refine aa.skip ?_
    refine aa.seq ?_
    refine aa.block ?_
    refine zF fun k' hk'=>?_
    obtain⟨hG,h⟩:=h
    obtain⟨ki,hH,h⟩:=atm h
    have hI:=W.trans hH.symm
    subst hI
    have f255:=fun H=>aE (H:=H) (fr:=false) (f:=(aj.cells false)) (k:=.i64) bj (fun _=>rfl) hG W
    obtain⟨hJ,h⟩:=h
    obtain⟨kj,hK,h⟩:=atm h
    have f258:=fun H=>aE (H:=H) (fr:=false) (f:=al) (k:=.i64) aO (fun _=>rfl) hJ hK
    obtain⟨hL,h⟩:=h
    obtain⟨dc,hM,h⟩:=atm h
    have f261:=fun H=>aE (H:=H) (fr:=false) (f:=al) (k:=.i64) aO (fun _=>rfl) hL hM
    obtain⟨hN,h⟩:=h
    obtain⟨ce,hO,h⟩:=atm h
    simp[hh,a,f255,f258,f261,done,B,av,-ah,-ba]
    refine a8 [] [oI A d,oN M e] [[int dc]] [al dc] sp aO (by simp) (by simp) (by simp[av]) (by simp[-ay,o1x]) (bz (az.v _ az.nil)) (by simp) (by simpa using hN) ?_
    rintro dl hP n266 sp hR kw
    replace sp:Sep hP n266 [oI dl ce,oI A d,oN M e] [(n1,5)]:=Sep.ap hO sp
    have a:=(hR _ (by simp)).trans a
    simp[hh,a,f255,f258,f261,done,B,av,-ah]
    apply hk'
    refine aa.cut (fun ρ H n=>∃ (bi bk bs:ag),((ρ 1 = .list false (kind.map av)∧ρ 2=bool is∧ρ 3 = .list false (links.map al)∧ρ 4=bool one∧ρ 5=pA n1 5∧ρ 11=bs∧ρ 12=bk∧ρ 13=int i19∧ρ 14=int E.parent∧ρ 15=bi∧ρ 16=int k237)∧H (n1,5)=some ⟨6,[bC false b]⟩)∧Sep H n [oI bi ce,oI bk d,oN bs e] [(n1,5)]) (by refine⟨dl,A,M,by simp[hh,a,f255,f258,f261,done,B,av,-ah],sp⟩) ?_
    clear hh a
    rintro ρ H n273 ⟨bi,bk,bs,⟨hh,a⟩,sp⟩
    refine aa.inBlock ?_
    refine zF fun k' hk'=>?_
    obtain⟨hS,h⟩:=h
    obtain⟨hT,hV,h⟩:=atm h
    have f276:=aI hS hV
    simp[hh,a,f276,done,av,-ai]
    apply hk'
    refine hA (hT,ce) _ _ _ h (by refine⟨bi,bk,bs,by simp[hh,a,done,av],sp⟩)
   replace h:=h.2 B
   refine aa.exit rfl ?_
   refine zF fun k' hk'=>?_
   obtain⟨hW,h⟩:=h
   obtain⟨k0,hX,h⟩:=atm h
   have hY:=W.trans hX.symm
   subst hY
   have f280:=fun H=>aE (H:=H) (fr:=false) (f:=(aj.cells false)) (k:=.i64) bj (fun _=>rfl) hW W
   have f281:=Sep.oc sp
   obtain⟨h0,h⟩:=h
   obtain⟨ci,h1,h⟩:=atm h
   simp[hh,a,f280,f281,done,B,av,-ar,-ah,-ay,cAx,o1x,-ba]
   refine a8 [oI V be] [oI A d] [[int da.control,int E.parent,V]] [(aj.cells true) (aj.mk da.control E.parent be)] sp.f2 bj (by simp) (by simp) (by simp[av]) (by simp[-ay,o1x,Sep.ay sp.f2.dr]) (bz (az.v _ (az.v _ (az.own az.nil)))) (by simp) (by simpa using h0) ?_
   rintro ds h2 n286 sp h3 k1
   replace sp:Sep h2 n286 [oN ds ci,oI A d] [(n1,5)]:=Sep.ap h1 sp
   have a:=(h3 _ (by simp)).trans a
   simp[hh,a,f280,f281,done,B,av,-ar,-ah,-ay,cAx,o1x]
   apply hk'
   refine aa.cut (fun ρ H n=>∃ (bv b0:ag),((ρ 1 = .list false (kind.map av)∧ρ 2=bool is∧ρ 3 = .list false (links.map al)∧ρ 4=bool one∧ρ 5=pA n1 5∧ρ 11=bv∧ρ 12=b0∧ρ 13=int i19)∧H (n1,5)=some ⟨6,[bC false b]⟩)∧Sep H n [oN bv ci,oI b0 d] [(n1,5)]) (by refine⟨ds,A,by simp[hh,a,f280,f281,done,B,av,-ar,-ah,-ay,cAx,o1x],sp⟩) ?_
   clear hh a
   rintro ρ H n292 ⟨bv,b0,⟨hh,a⟩,sp⟩
   refine aa.inBlock ?_
   refine zF fun k' hk'=>?_
   obtain⟨h4,h⟩:=h
   obtain⟨h5,h6,h⟩:=atm h
   have f295:=aI h4 h6
   simp[hh,a,f295,done,av,-ai]
   apply hk'
   refine X (h5,d,ci) _ _ _ h (by refine⟨b0,bv,by simp[hh,a,done,av],sp.f1⟩)
  replace h:=e2
  obtain⟨h7,h8,h⟩:=atm h
  have f297:=jz (k:=.i64) h8
  rcases Bool.eq_false_or_eq_true h7 with F | F
  ·replace h:=h.1 F
   obtain⟨h9,h⟩:=h
   obtain⟨k2,ih,h⟩:=atm h
   have f300:=fun H=>aE (H:=H) (fr:=false) (f:=av) (k:=.i64) nt (fun _=>rfl) h9 ih
   obtain⟨ii,io,h⟩:=atm h
   have f302:=D7 io
   simp[hh,a,f297,f300,f302,j,F,av,-dC,-ah,-ai]
   exact co (ii) _ _ _ h (by refine⟨G,I,by simp[hh,a,f297,f300,f302,j,F,av,-dC,-ah,-ai],sp⟩)
  replace h:=h.2 F
  simp[hh,a,f297,j,F,av,-ai]
  exact co (false) _ _ _ h (by refine⟨G,I,by simp[hh,a,f297,j,F,av,-ai],sp⟩)
 replace h:=h.2 C
 refine aa.exit rfl ?_
 refine zE fun k' hk'=>?_
 simp[hh,a,C,av]
 apply hk'
 exact aa.aV (v:=D) Tryz.func98 Tryz.results98 (by simp[hh,a,C,av]) (hQ _ _ _ _ (Sep.sub (ids':=[]) sp.f1.hd (by simp)) ⟨e,h,rfl⟩)
theorem Cv (b:Big) (kind:List Bool) (is:Bool) (links:List Int) (one:Bool) (hp:nv b kind is links one):a7 Tryz.prog 98 [.agg (bC false b),.list false (kind.map av),bool is,.list false (links.map al),bool one] (.s [.c,.c,.s [.c]]) (fun r=>r = .list true ((sc b kind is links one).map (aj.cells true))):=(wz b kind is links one _ (CM b kind is links one hp)).mono (by rintro _ ⟨_,rfl,rfl⟩;rfl)
end Go.Ab.Vg
/- The abstract machine, part Sf: variables that are never written again: boxes as immutable cells, slices of arrays in them; loops that are unrolled. -/
namespace Go.Ab
set_option linter.unusedSectionVars false
section
variable {P:Program} {N:Nat} {ρ:Env} {H:ak} {n:Nat} {Ty:Types} {d:Option Tmp} {ty:TypeId} {pos:String} {af:Array Edge} {gu:Option (Nat × Bool)}
end
section
variable {P:Program} {f:FuncId} {N:Nat} {k:List Item} {Q:ag→ak→Nat→Prop} {Ty:Types} {l:List Oper} {ρ:Env} {H:ak} {n:Nat} {d:Option Tmp} {ty:TypeId} {pos:String} {af:Array Edge}
end
end Go.Ab
