/- Merged texts (16 of 17) of the proof that ends in Mpy: Nfw Ngw Rm Mpz. -/
import Derived.Test.YtbikfokhjdjfpaaGreatDoorAbQmp15
/- Walks by program for YtbikfokhjdjfpaaGreatDoorAbNf. -/
namespace Go.Ab.Vg
open Go.Proofs
set_option maxRecDepth 100000
set_option linter.unusedSimpArgs false
set_option linter.unusedVariables false
attribute [local simp] Control.cells aj.cells aA.cells al gp aL bC mC pA zB
theorem e72:Ent Tryz.prog 72:=Ent.of Tryz.func72 (by kernel_rfl) rfl
theorem wO {fr0:Bool} {fr1:Bool} (sig:List Control) (b:Big) (Z:(Big × Bool)→Prop) (h:mY sig b Z):jG Tryz.prog 72 [.list fr0 (sig.map Control.cells),.agg [int b.roots,.list fr1 (b.nodes.map (aj.cells fr1)),.list fr1 (b.sites.map al),int b.edges,.list fr1 (b.outer.map aL),.list fr1 (b.inner.map aA.cells)]] (fun r=>∃ y:Big × Bool,Z y∧r = .tup [.agg [int y.1.roots,.list fr1 (y.1.nodes.map (aj.cells fr1)),.list fr1 (y.1.sites.map al),int y.1.edges,.list fr1 (y.1.outer.map aL),.list fr1 (y.1.inner.map aA.cells)],bool y.2]):=by
 unfold mY at h
 refine jG.of Tryz.func72 rfl Tryz.ntmps72 (by simp) fun H0 n0 Q hB hQ=>?_
 have hfr:Frame n0 H0 H0:=Frame.refl _ _
 have hn0:n0≤n0:=Nat.le_refl _
 refine aa.cut (fun ρ H n=>(ρ 0 = .list fr0 (sig.map Control.cells)∧ρ 1 = .agg [int b.roots,.list fr1 (b.nodes.map (aj.cells fr1)),.list fr1 (b.sites.map al),int b.edges,.list fr1 (b.outer.map aL),.list fr1 (b.inner.map aA.cells)])∧n0≤n∧Frame n0 H0 H) (by refine⟨?_,?_,?_⟩<;>first | ((repeat (first | exact hfr | refine Frame.set (by first | omega | (simp;omega)) ?_));done) | omega | simp ) ?_
 rintro ρ H n1 ⟨hh,hn0,hfr⟩
 have hn1:=Nat.le_succ_of_le hn0
 have hn2:=Nat.le_succ_of_le hn1
 refine zE fun k' hk'=>?_
 simp[hh,hn0,hn1,hn2]
 apply hk'
 refine aa.cut (fun ρ H n=>(ρ 0 = .list fr0 (sig.map Control.cells)∧ρ 3=pA n1 3∧ρ 4=pA (n1+1) 4)∧H (n1,3)=some ⟨6,[[int b.roots,.list fr1 (b.nodes.map (aj.cells fr1)),.list fr1 (b.sites.map al),int b.edges,.list fr1 (b.outer.map aL),.list fr1 (b.inner.map aA.cells)]]⟩∧H (n1+1,4)=some ⟨6,[zB]⟩∧n0≤n∧Frame n0 H0 H) (by refine⟨?_,?_,?_,?_,?_⟩<;>first | ((repeat (first | exact hfr | refine Frame.set (by first | omega | (simp;omega)) ?_));done) | omega | simp[hh,hn0,hn1,hn2]) ?_
 clear hh hn0
 rintro ρ H n4 ⟨hh,c,a,hn0,hfr⟩
 have hn1:=Nat.le_succ_of_le hn0
 have hn2:=Nat.le_succ_of_le hn1
 refine aa.seq ?_
 refine zE fun k' hk'=>?_
 obtain⟨hb5,h⟩:=h
 obtain⟨r6,er6,h⟩:=atm h
 simp[hh,c,a,hn0,hn1,hn2]
 refine aG.aB ae (pt sig b hb5) e39 (.cons (aF.uv (fr:=fr0) (els:=sig.map Control.cells) (by simp)) (.cons (aF.agg (.cons (.v _ _ _) (.cons (aF.jT fr1 b.nodes) (.cons (aF.uv (fr:=fr1) (els:=b.sites.map al) (by simp)) (.cons (.v _ _ _) (.cons (aF.uv (fr:=fr1) (els:=b.outer.map aL) (by simp)) (.cons (aF.uv (fr:=fr1) (els:=b.inner.map aA.cells) (by simp)) .nil))))))) .nil)) (by decide) (by decide) rfl (by simp[hh,c,a,hn0,hn1,hn2]) ?_
 rintro _ rfl
 rw[← er6]
 simp[hh,c,a,hn0,hn1,hn2]
 apply hk'
 refine aa.ite (b:=(!r6)) (by simp[hh,c,a,hn0,hn1,hn2]) (fun dr6=>?_) (fun dr6=>?_)
 ·have dr6:r6=false:=by simpa using dr6
  replace h:=h.2 dr6
  refine zE fun k' hk'=>?_
  simp[hh,c,a,hn0,hn1,hn2,dr6]
  apply hk'
  refine aa.cut (fun ρ H n=>(ρ 4=pA (n1+1) 4∧ρ 5=bool false)∧H (n1+1,4)=some ⟨6,[zB]⟩∧n0≤n∧Frame n0 H0 H) (by refine⟨?_,?_,?_,?_⟩<;>first | ((repeat (first | exact hfr | refine Frame.set (by first | omega | (simp;omega)) ?_));done) | omega | simp[hh,c,a,hn0,hn1,hn2,dr6]) ?_
  clear hh c a hn0
  rintro ρ H n7 ⟨hh,a,hn0,hfr⟩
  have hn1:=Nat.le_succ_of_le hn0
  have hn2:=Nat.le_succ_of_le hn1
  exact aa.tf ae (v:=.agg [int 0,.v (.slice none 0 0),.v (.slice none 0 0),int 0,.v (.slice none 0 0),.v (.slice none 0 0)]) (w:=bool false) Tryz.func72 Tryz.results72 (by simp[hh,a,hn0,hn1,hn2,dO]) (by simp[hh,a,hn0,hn1,hn2,dO]) (hQ _ _ _ _ (.wo (.cons (.y6 (.cons (.bnd (.v _)) (.cons (.nil _) (.cons (.nil _) (.cons (.bnd (.v _)) (.cons (.nil _) (.cons (.nil _) .nil))))))) (.cons (.bnd (.v _)) .nil))) (hfr) ⟨((Big.mk 0 [] [] 0 [] []),false),h,rfl⟩)
 have dr6:r6=true:=by simpa using dr6
 replace h:=h.1 dr6
 refine aa.skip ?_
 refine zE fun k' hk'=>?_
 simp[hh,c,a,hn0,hn1,hn2,dr6]
 apply hk'
 refine aa.cut (fun ρ H n=>(ρ 4=pA (n1+1) 4∧ρ 5=bool true)∧H (n1+1,4)=some ⟨6,[[int b.roots,.list fr1 (b.nodes.map (aj.cells fr1)),.list fr1 (b.sites.map al),int b.edges,.list fr1 (b.outer.map aL),.list fr1 (b.inner.map aA.cells)]]⟩∧n0≤n∧Frame n0 H0 H) (by refine⟨?_,?_,?_,?_⟩<;>first | ((repeat (first | exact hfr | refine Frame.set (by first | omega | (simp;omega)) ?_));done) | omega | simp[hh,c,a,hn0,hn1,hn2,dr6]) ?_
 clear hh c a hn0
 rintro ρ H n8 ⟨hh,a,hn0,hfr⟩
 have hn1:=Nat.le_succ_of_le hn0
 have hn2:=Nat.le_succ_of_le hn1
 exact aa.tf ae (v:=.agg [int b.roots,.list fr1 (b.nodes.map (aj.cells fr1)),.list fr1 (b.sites.map al),int b.edges,.list fr1 (b.outer.map aL),.list fr1 (b.inner.map aA.cells)]) (w:=bool true) Tryz.func72 Tryz.results72 (by simp[hh,a,hn0,hn1,hn2,dO]) (by simp[hh,a,hn0,hn1,hn2,dO]) (hQ _ _ _ _ (.wo (.cons (.y6 (.cons (.bnd (.v _)) (.cons (.bnd (Imm.bnd (sM fr1 b.nodes))) (.cons (.bnd (Imm.bnd (by simp))) (.cons (.bnd (.v _)) (.cons (.bnd (Imm.bnd (by simp))) (.cons (.bnd (Imm.bnd (by simp))) .nil))))))) (.cons (.bnd (.v _)) .nil))) (hfr) ⟨(b,true),h,rfl⟩)
theorem Cl {fr0:Bool} {fr1:Bool} (sig:List Control) (b:Big) (hp:nU sig b):jG Tryz.prog 72 [.list fr0 (sig.map Control.cells),.agg [int b.roots,.list fr1 (b.nodes.map (aj.cells fr1)),.list fr1 (b.sites.map al),int b.edges,.list fr1 (b.outer.map aL),.list fr1 (b.inner.map aA.cells)]] (fun r=>r = .tup [.agg [int (((iq sig b).1).roots),.list fr1 ((((iq sig b).1).nodes).map (aj.cells fr1)),.list fr1 ((((iq sig b).1).sites).map al),int (((iq sig b).1).edges),.list fr1 ((((iq sig b).1).outer).map aL),.list fr1 ((((iq sig b).1).inner).map aA.cells)],bool ((iq sig b).2)]):=(wO sig b  _ (CX sig b hp)).mono (by rintro _ ⟨_,rfl,rfl⟩;rfl)
theorem Im:Ent Tryz.prog 124:=Ent.of Tryz.func124 (by kernel_rfl) rfl
theorem Ap (p:Int) (v_:List Int) (v_':Big) (v_'':Match) (Z:Int→Prop) (h:oP p v_ v_' v_'' Z):aq Tryz.prog 124 [int p,.iptr false [.list false (v_.map al)],.iptr false (bC false v_'),.iptr false (mC false v_'')] (fun r=>∃ y:Int,Z y∧r=int y):=by
 unfold oP at h
 refine aq.of Tryz.func124 rfl Tryz.ntmps124 (by simp) fun Q hQ=>?_
 refine aa.cut (fun ρ H n=>(ρ 0=int p∧ρ 1 = .iptr false [.list false (v_.map al)]∧ρ 2 = .iptr false (bC false v_')∧ρ 3 = .iptr false (mC false v_''))) (by simp) ?_
 rintro ρ H n1 hh
 refine zE fun k' hk'=>?_
 simp[hh]
 apply hk'
 refine aa.seq ?_
 refine zE fun k' hk'=>?_
 obtain⟨hb2,h⟩:=h
 obtain⟨r3,er3,h⟩:=atm h
 simp[hh]
 refine aG.aB ae (kb v_ p hb2) e53 (.cons (cY false v_) (.cons (.v _ _ _) .nil)) (by decide) (by decide) rfl (by simp[hh]) ?_
 rintro _ rfl
 rw[← er3]
 simp[hh]
 apply hk'
 refine zE fun k' hk'=>?_
 obtain⟨c4,ec4,h⟩:=atm h
 have f5:=jz (k:=.i64) ec4
 simp[hh,f5,-ai]
 apply hk'
 refine aa.ite (b:=c4) (by simp[hh]) (fun dc4=>?_) (fun dc4=>?_)
 ·replace h:=h.1 dc4
  refine zE fun k' hk'=>?_
  simp[hh,dc4]
  apply hk'
  exact aa.aV (v:=int r3) Tryz.func124 Tryz.results124 (by simp[hh,dc4]) (hQ _ _ _ _ (.of (.v _)) ⟨r3,h,rfl⟩)
 replace h:=h.2 dc4
 refine aa.skip ?_
 refine aa.eo ae aD bU (by decide) (by kernel_rfl) fun k' hk'=>?_
 obtain⟨hb6,h⟩:=h
 obtain⟨r7,er7,h⟩:=atm h
 simp[hh,dc4]
 refine bn.aB ae aD (kb v_''.nodes p hb6) e53 (.cons (cY false v_''.nodes) (.cons (.v _ _ _) .nil)) (by decide) rfl (by simp[hh,dc4]) ?_
 rw[← er7]
 obtain⟨hb8,h⟩:=h
 obtain⟨r9,er9,h⟩:=atm h
 simp[hh,dc4]
 refine bn.aB ae aD (kb v_'.sites r7 hb8) e53 (.cons (cY false v_'.sites) (.cons (.v _ _ _) .nil)) (by decide) rfl (by simp[hh,dc4]) ?_
 rw[← er9]
 obtain⟨a,h⟩:=h
 obtain⟨v11,c,h⟩:=atm h
 have f12:=lP a c
 simp[hh,f12,dc4,-ai]
 apply hk'
 refine aa.cut (fun ρ H n=>ρ 5=int v11) (by simp[hh,f12,dc4,-ai]) ?_
 clear hh
 rintro ρ H d hh
 exact aa.aV (v:=int v11) Tryz.func124 Tryz.results124 (by simp[hh]) (hQ _ _ _ _ (.of (.v _)) ⟨v11,h,rfl⟩)
theorem EL (p:Int) (v_:List Int) (v_':Big) (v_'':Match) (hp:hZ p v_ v_' v_''):aq Tryz.prog 124 [int p,.iptr false [.list false (v_.map al)],.iptr false (bC false v_'),.iptr false (mC false v_'')] (fun r=>r=int (lC p v_ v_' v_'')):=(Ap p v_ v_' v_'' _ (EG p v_ v_' v_'' hp)).mono (by rintro _ ⟨_,rfl,rfl⟩;rfl)
theorem Iy:Ent Tryz.prog 125:=Ent.of Tryz.func125 (by kernel_rfl) rfl
theorem zH (l:Int) (v_:List Str) (v_':List Int) (Z:Str→Prop) (h:ow l v_ v_' Z):aq Tryz.prog 125 [int l,.iptr false [.list false (v_.map aL)],.iptr false [.list false (v_'.map al)]] (fun r=>∃ y:Str,Z y∧r=str y):=by
 unfold ow at h
 refine aq.of Tryz.func125 rfl Tryz.ntmps125 (by simp) fun Q hQ=>?_
 refine aa.cut (fun ρ H n=>(ρ 0=int l∧ρ 1 = .iptr false [.list false (v_.map aL)]∧ρ 2 = .iptr false [.list false (v_'.map al)])) (by simp) ?_
 rintro ρ H n1 hh
 refine zE fun k' hk'=>?_
 simp[hh]
 apply hk'
 refine aa.eo ae aD bU (by decide) (by kernel_rfl) fun k' hk'=>?_
 obtain⟨hb2,h⟩:=h
 obtain⟨r3,er3,h⟩:=atm h
 simp[hh]
 refine bn.aB ae aD (kb v_' l hb2) e53 (.cons (cY false v_') (.cons (.v _ _ _) .nil)) (by decide) rfl (by simp[hh]) ?_
 rw[← er3]
 obtain⟨hb4,h⟩:=h
 obtain⟨x5,ex5,h⟩:=atm h
 have f6:=fun H=>aE (H:=H) (fr:=false) (f:=aL) (k:=.i64) cy (fun _=>rfl) hb4 ex5
 simp[hh,f6,-ah]
 apply hk'
 exact aa.aV (v:=str x5) Tryz.func125 Tryz.results125 (by simp[hh]) (hQ _ _ _ _ (.of (.v _)) ⟨x5,h,rfl⟩)
theorem Eo (l:Int) (v_:List Str) (v_':List Int) (hp:ie l v_ v_'):aq Tryz.prog 125 [int l,.iptr false [.list false (v_.map aL)],.iptr false [.list false (v_'.map al)]] (fun r=>r=str (p9 l v_ v_')):=(zH l v_ v_' _ (EV l v_ v_' hp)).mono (by rintro _ ⟨_,rfl,rfl⟩;rfl)
theorem e75:Ent Tryz.prog 75:=Ent.of Tryz.func75 (by kernel_rfl) rfl
theorem w8 (sig:List Control) (redex:Big) (agent:Big) (m:Match) (Z:(Big × Bool)→Prop) (h:mW sig redex agent m Z):a7 Tryz.prog 75 [.list false (sig.map Control.cells),.agg (bC false redex),.agg (bC false agent),.agg (mC false m)] (.t [.a [.c,.s [.c,.c,.s [.c]],.s [.c],.c,.s [.c],.s [.c,.c]],.c]) (fun r=>∃ y:Big × Bool,Z y∧r = .tup [.agg (bC true y.1),bool y.2]):=by
 unfold mW at h
 have sp:Sep bc 0 [] []:=Sep.nil (by simp)
 refine a7.of Tryz.func75 rfl Tryz.ntmps75 (by simp) fun Q hQ=>?_
 refine aa.cut (fun ρ H n=>(ρ 0 = .list false (sig.map Control.cells)∧ρ 1 = .agg (bC false redex)∧ρ 2 = .agg (bC false agent)∧ρ 3 = .agg (mC false m))∧Sep H n [] []) (by refine⟨by simp ,sp⟩) ?_
 rintro ρ H n1 ⟨hh,sp⟩
 refine zE fun k' hk'=>?_
 simp[hh]
 apply hk'
 refine aa.cut (fun ρ H n=>((ρ 0 = .list false (sig.map Control.cells)∧ρ 5=pA n1 5∧ρ 6=pA (n1+1) 6∧ρ 7=pA (n1+2) 7∧ρ 8=pA (n1+3) 8)∧H (n1,5)=some ⟨6,[bC false redex]⟩∧H (n1+1,6)=some ⟨6,[bC false agent]⟩∧H (n1+2,7)=some ⟨2,[mC false m]⟩∧H (n1+3,8)=some ⟨6,[zB]⟩)∧Sep H n [] [(n1+3,8),(n1+2,7),(n1+1,6),(n1,5)]) (by refine⟨by simp[hh],sp.var.var.var.var⟩) ?_
 clear hh
 rintro ρ H n6 ⟨⟨hh,e,i,g,d⟩,sp⟩
 refine zE fun k' hk'=>?_
 obtain⟨hb7,h⟩:=h
 obtain⟨r8,er8,h⟩:=atm h
 simp[hh,e,i,g,d]
 refine aG.cd ae (rq redex agent m hb7) IX (.cons (bg false redex) (.cons (bg false agent) (.cons (eY false m) .nil))) sp (by decide) (by decide) rfl (by simp[hh,e,i,g,d]) ?_
 rintro v9 b0 p _ sp rfl b1 F
 rw[← er8] at sp
 have e:=(F _ (by simp)).trans e
 have i:=(F _ (by simp)).trans i
 have g:=(F _ (by simp)).trans g
 have d:=(F _ (by simp)).trans d
 replace sp:=Sep.ku sp
 obtain⟨L18,hv,ac,sp⟩:=sp
 subst hv
 obtain⟨ad,af,b2,hv⟩:=xq (by simpa using ac)
 subst hv
 simp only[dp,List.cons_append,List.nil_append] at sp
 replace sp:=Sep.rot sp
 try simp only[List.cons_append,List.nil_append,List.append_assoc] at sp
 replace sp:=Sep.rot sp
 try simp only[List.cons_append,List.nil_append,List.append_assoc] at sp
 replace sp:=Sep.scalar sp
 obtain⟨hv,sp⟩:=sp
 subst hv
 have f24:=Sep.oc sp
 have f25:=Sep.oc sp.f1
 simp[hh,e,i,g,d,f24,f25,-ar,-ay,cAx,o1x]
 apply hk'
 refine aa.cut (fun ρ H n=>∃ (G I:ag),((ρ 0 = .list false (sig.map Control.cells)∧ρ 5=pA n1 5∧ρ 6=pA (n1+1) 6∧ρ 7=pA (n1+2) 7∧ρ 8=pA (n1+3) 8∧ρ 10=pA p 10∧ρ 11=pA (p+1) 11∧ρ 12=bool r8.2.2)∧H (n1,5)=some ⟨6,[bC false redex]⟩∧H (n1+1,6)=some ⟨6,[bC false agent]⟩∧H (n1+2,7)=some ⟨2,[mC false m]⟩∧H (n1+3,8)=some ⟨6,[zB]⟩∧H (p,10)=some ⟨1,[[G]]⟩∧H (p+1,11)=some ⟨1,[[I]]⟩)∧Sep H n [oI G r8.1,oS I r8.2.1] [(p+1,11),(p,10),(n1+3,8),(n1+2,7),(n1+1,6),(n1,5)]) (by refine⟨ad,af,by simp[hh,e,i,g,d,f24,f25,-ar,-ay,cAx,o1x],(Sep.bF (w:=(p+1,11)) (Sep.bF (w:=(p,10)) sp.var.var (by simp)) (by simp))⟩) ?_
 clear hh e i g d
 rintro ρ H n28 ⟨G,I,⟨hh,e,i,g,d,j,l⟩,sp⟩
 refine aa.seq ?_
 refine zE fun k' hk'=>?_
 simp[hh,e,i,g,d,j,l]
 apply hk'
 refine aa.ite (b:=(!r8.2.2)) (by simp[hh,e,i,g,d,j,l]) (fun dr8_2_2=>?_) (fun dr8_2_2=>?_)
 ·have dr8_2_2:r8.2.2=false:=by simpa using dr8_2_2
  replace h:=h.2 dr8_2_2
  refine zE fun k' hk'=>?_
  simp[hh,e,i,g,d,j,l,dr8_2_2]
  apply hk'
  refine aa.cut (fun ρ H n=>((ρ 8=pA (n1+3) 8∧ρ 9=bool false)∧H (n1+3,8)=some ⟨6,[zB]⟩)∧Sep H n [] [(n1+3,8)]) (by refine⟨by simp[hh,e,i,g,d,j,l,dr8_2_2],(Sep.sub (Sep.dr (Sep.dr (Sep.bF (w:=(n1+3,8)) sp (by simp)))) (by simp +contextual))⟩) ?_
  clear hh e i g d j l
  rintro ρ H n29 ⟨⟨hh,d⟩,sp⟩
  exact aa.tf ae (v:=.agg [int 0,.v (.slice none 0 0),.v (.slice none 0 0),int 0,.v (.slice none 0 0),.v (.slice none 0 0)]) (w:=bool false) Tryz.func75 Tryz.results75 (by simp[hh,d,dO]) (by simp[hh,d,dO]) (hQ _ _ _ _ (Sep.sub (ids':=[]) (Sep.fy (az.own (az.v _ az.nil)) (Sep.pack (az.v _ (az.own (az.own (az.v _ (az.own (az.own az.nil)))))) (Sep.f3 (Sep.f2 (Sep.f1 (Sep.cu (Sep.cu (Sep.cu (Sep.cu sp))))))))) (by simp)) ⟨((Big.mk 0 [] [] 0 [] []),false),h,rfl⟩)
 have dr8_2_2:r8.2.2=true:=by simpa using dr8_2_2
 replace h:=h.1 dr8_2_2
 refine aa.skip ?_
 refine zE fun k' hk'=>?_
 obtain⟨am,h⟩:=h
 obtain⟨D,an,h⟩:=atm h
 simp[hh,e,i,g,d,j,l,dr8_2_2]
 refine aG.cd ae (lD agent m am) HO (.cons (bg false agent) (.cons (eY false m) .nil)) sp (by decide) (by decide) rfl (by simp[hh,e,i,g,d,j,l,dr8_2_2]) ?_
 rintro ao b3 R _ sp rfl b5 E
 rw[← an] at sp
 have e:=(E _ (by simp)).trans e
 have i:=(E _ (by simp)).trans i
 have g:=(E _ (by simp)).trans g
 have d:=(E _ (by simp)).trans d
 have j:=(E _ (by simp)).trans j
 have l:=(E _ (by simp)).trans l
 have f46:=Sep.oc sp
 simp[hh,e,i,g,d,j,l,f46,dr8_2_2,-ar,-ay,cAx,o1x]
 apply hk'
 refine aa.cut (fun ρ H n=>∃ (T U v49:ag),((ρ 0 = .list false (sig.map Control.cells)∧ρ 5=pA n1 5∧ρ 6=pA (n1+1) 6∧ρ 7=pA (n1+2) 7∧ρ 8=pA (n1+3) 8∧ρ 10=pA p 10∧ρ 11=pA (p+1) 11∧ρ 13=pA R 13)∧H (n1,5)=some ⟨6,[bC false redex]⟩∧H (n1+1,6)=some ⟨6,[bC false agent]⟩∧H (n1+2,7)=some ⟨2,[mC false m]⟩∧H (n1+3,8)=some ⟨6,[zB]⟩∧H (p,10)=some ⟨1,[[U]]⟩∧H (p+1,11)=some ⟨1,[[v49]]⟩∧H (R,13)=some ⟨1,[[T]]⟩)∧Sep H n [oI T D,oI U r8.1,oS v49 r8.2.1] [(R,13),(p+1,11),(p,10),(n1+3,8),(n1+2,7),(n1+1,6),(n1,5)]) (by refine⟨ao,G,I,by simp[hh,e,i,g,d,j,l,f46,dr8_2_2,-ar,-ay,cAx,o1x],sp.var⟩) ?_
 clear hh e i g d j l
 rintro ρ H b7 ⟨T,U,v49,⟨hh,e,i,g,d,j,l,A⟩,sp⟩
 refine zE fun k' hk'=>?_
 obtain⟨ap,h⟩:=h
 obtain⟨o,aM,h⟩:=atm h
 simp[hh,e,i,g,d,j,l,A]
 refine aG.cd ae (Dx agent D [] r8.2.1 (fun z0=>lC z0 D redex m) (fun z0=>hZ z0 D redex m) (fun z0=>p9 z0 r8.2.1 r8.1) (fun z0=>ie z0 r8.2.1 r8.1) Im (fun _ _=>by refine (.cons (aF.xm (.cons (cY false D) .nil)) (.cons (aF.xm (.cons (.v _ _ _) (.cons (aF.jT false redex.nodes) (.cons (cY false redex.sites) (.cons (.v _ _ _) (.cons (o6 false redex.outer) (.cons (xW false redex.inner) .nil))))))) (.cons (aF.xm (.cons (cY false m.nodes) (.cons (cY false m.roots) .nil))) .nil)))) (fun z0 hz=>EL z0 D redex m hz) Iy (fun _ _=>by refine (.cons (aF.xm (.cons (o6 false r8.2.1) .nil)) (.cons (aF.xm (.cons (cY false r8.1) .nil)) .nil))) (fun z0 hz=>Eo z0 r8.2.1 r8.1 hz) ap) e51 (.cons (bg false agent) (.cons (Sep.bb sp (aS (by simp))) (.cons (aF.nil) (.cons (Sep.bb sp.f2 (aS (by simp))) (.cons (aF.fnF .nil (.cons (aF.q9 A (.cons (Sep.bb sp (aS (by simp))) .nil)) (.cons (aF.q9 e (.cons (.v _ _ _) (.cons (aF.jT false redex.nodes) (.cons (cY false redex.sites) (.cons (.v _ _ _) (.cons (o6 false redex.outer) (.cons (xW false redex.inner) .nil))))))) (.cons (aF.q9 g (.cons (cY false m.nodes) (.cons (cY false m.roots) .nil))) .nil)))) (.cons (aF.fnF .nil (.cons (aF.q9 l (.cons (Sep.bb sp.f2 (aS (by simp))) .nil)) (.cons (aF.q9 j (.cons (Sep.bb sp.f1 (aS (by simp))) .nil)) .nil))) .nil)))))) sp (by decide) (by decide) rfl (by simp[hh,e,i,g,d,j,l,A]) ?_
 rintro v53 b8 B _ sp rfl b9 C
 rw[← aM] at sp
 have e:=(C _ (by simp)).trans e
 have i:=(C _ (by simp)).trans i
 have g:=(C _ (by simp)).trans g
 have d:=(C _ (by simp)).trans d
 have j:=(C _ (by simp)).trans j
 have l:=(C _ (by simp)).trans l
 have A:=(C _ (by simp)).trans A
 replace sp:=Sep.unpack sp
 obtain⟨L65,hv,a0,sp⟩:=sp
 subst hv
 obtain⟨v59,a1,a2,cc,a3,a4,hv⟩:=cK (by simpa using a0)
 subst hv
 simp only[dp,List.cons_append,List.nil_append] at sp
 replace sp:=Sep.scalar sp
 obtain⟨hv,sp⟩:=sp
 subst hv
 replace sp:=Sep.rot sp
 try simp only[List.cons_append,List.nil_append,List.append_assoc] at sp
 replace sp:=Sep.rot sp
 try simp only[List.cons_append,List.nil_append,List.append_assoc] at sp
 replace sp:=Sep.scalar sp
 obtain⟨hv,sp⟩:=sp
 subst hv
 replace sp:=Sep.rot sp
 try simp only[List.cons_append,List.nil_append,List.append_assoc] at sp
 replace sp:=Sep.rot sp
 try simp only[List.cons_append,List.nil_append,List.append_assoc] at sp
 have f72:=Sep.oc sp.f3
 have f73:=Sep.oc sp.f4
 have f74:=Sep.oc sp.f5
 have f75:=Sep.oc sp.f6
 simp[hh,e,i,g,d,j,l,A,f72,f73,f74,f75,-ar,-ay,cAx,o1x]
 apply hk'
 refine aa.cut (fun ρ H n=>∃ (v76 J K L:ag),((ρ 0 = .list false (sig.map Control.cells)∧ρ 5=pA n1 5∧ρ 8=pA (n1+3) 8∧ρ 14=pA B 14)∧H (n1,5)=some ⟨6,[bC false redex]⟩∧H (n1+3,8)=some ⟨6,[zB]⟩∧H (B,14)=some ⟨6,[[int o.roots,v76,J,int o.edges,K,L]]⟩)∧Sep H n [oN v76 o.nodes,oI J o.sites,oS K o.outer,oW L o.inner] [(B,14),(n1+3,8),(n1,5)]) (by refine⟨a1,a2,a3,a4,by simp[hh,e,i,g,d,j,l,A,f72,f73,f74,f75,-ar,-ay,cAx,o1x],(Sep.sub sp.var.dr.dr.dr (by simp +contextual))⟩) ?_
 clear hh e i g d j l A
 rintro ρ H ce ⟨v76,J,K,L,⟨hh,e,d,u⟩,sp⟩
 refine zE fun k' hk'=>?_
 obtain⟨Y,a5,h⟩:=atm h
 have f82:=fun H=>ax (H:=H) (fr:=false) (f:=al) aO a5
 simp[hh,e,d,u,f82,-aH]
 apply hk'
 refine aa.cut (fun ρ H n=>∃ (V W v85 X:ag),((ρ 0 = .list false (sig.map Control.cells)∧ρ 8=pA (n1+3) 8∧ρ 14=pA B 14)∧H (n1+3,8)=some ⟨6,[zB]⟩∧H (B,14)=some ⟨6,[[int Y,V,W,int o.edges,v85,X]]⟩)∧Sep H n [oN V o.nodes,oI W o.sites,oS v85 o.outer,oW X o.inner] [(B,14),(n1+3,8)]) (by refine⟨v76,J,K,L,by simp[hh,e,d,u,f82,-aH],(Sep.sub (Sep.bF (w:=(B,14)) sp (by simp)) (by simp +contextual))⟩) ?_
 clear hh e d u
 rintro ρ H ci ⟨V,W,v85,X,⟨hh,d,u⟩,sp⟩
 refine zE fun k' hk'=>?_
 obtain⟨a9,h⟩:=h
 obtain⟨q,bd,h⟩:=atm h
 simp[hh,d,u]
 refine aG.cd ae (C0 sig (Big.mk Y o.nodes o.sites o.edges o.outer o.inner) a9) e56 (.cons (iR false sig) (.cons (aF.agg (.cons (.v _ _ _) (.cons (Sep.bb sp (ck true o.nodes)) (.cons (Sep.bb sp.f1 (aS (by simp))) (.cons (.v _ _ _) (.cons (Sep.bb sp.f2 (aS (by simp))) (.cons (Sep.bb sp.f3 (aS (by simp))) .nil))))))) .nil)) sp (by decide) (by decide) rfl (by simp[hh,d,u]) ?_
 rintro cj cl co _ sp rfl cs ab
 rw[← bd] at sp
 have d:=(ab _ (by simp)).trans d
 have u:=(ab _ (by simp)).trans u
 replace sp:=Sep.ku sp
 obtain⟨L98,hv,be,sp⟩:=sp
 subst hv
 obtain⟨c0,c1,hv⟩:=cf (by simpa using be)
 subst hv
 simp only[dp,List.cons_append,List.nil_append] at sp
 replace sp:=Sep.unpack sp
 obtain⟨L106,hv,bi,sp⟩:=sp
 subst hv
 obtain⟨c2,bk,bs,c3,bv,v105,hv⟩:=cK (by simpa using bi)
 subst hv
 simp only[dp,List.cons_append,List.nil_append] at sp
 replace sp:=Sep.scalar sp
 obtain⟨hv,sp⟩:=sp
 subst hv
 replace sp:=Sep.rot sp
 try simp only[List.cons_append,List.nil_append,List.append_assoc] at sp
 replace sp:=Sep.rot sp
 try simp only[List.cons_append,List.nil_append,List.append_assoc] at sp
 replace sp:=Sep.scalar sp
 obtain⟨hv,sp⟩:=sp
 subst hv
 replace sp:=Sep.rot sp
 try simp only[List.cons_append,List.nil_append,List.append_assoc] at sp
 replace sp:=Sep.rot sp
 try simp only[List.cons_append,List.nil_append,List.append_assoc] at sp
 replace sp:=Sep.scalar sp
 obtain⟨hv,sp⟩:=sp
 subst hv
 have f112:=Sep.oc sp.f4
 have f113:=Sep.oc sp.f5
 have f114:=Sep.oc sp.f6
 have f115:=Sep.oc sp.f7
 simp[hh,d,u,f112,f113,f114,f115,-ar,-ay,cAx,o1x]
 apply hk'
 refine aa.cut (fun ρ H n=>∃ (M v117 N O:ag),((ρ 8=pA (n1+3) 8∧ρ 9=bool q.2)∧H (n1+3,8)=some ⟨6,[[int q.1.roots,M,v117,int q.1.edges,N,O]]⟩)∧Sep H n [oN M q.1.nodes,oI v117 q.1.sites,oS N q.1.outer,oW O q.1.inner] [(n1+3,8)]) (by refine⟨bk,bs,bv,v105,by simp[hh,d,u,f112,f113,f114,f115,-ar,-ay,cAx,o1x],(Sep.sub (Sep.dr (Sep.dr (Sep.dr (Sep.dr (Sep.bF (w:=(n1+3,8)) sp (by simp)))))) (by simp +contextual))⟩) ?_
 clear hh d u
 rintro ρ H n120 ⟨M,v117,N,O,⟨hh,d⟩,sp⟩
 exact aa.tf ae (v:=.agg [int q.1.roots,M,v117,int q.1.edges,N,O]) (w:=bool q.2) Tryz.func75 Tryz.results75 (by simp[hh,d,dO]) (by simp[hh,d,dO]) (hQ _ _ _ _ (Sep.sub (ids':=[]) (Sep.fy (az.own (az.v _ az.nil)) (Sep.pack (az.v _ (az.own (az.own (az.v _ (az.own (az.own az.nil)))))) sp)) (by simp)) ⟨(q.1,q.2),h,rfl⟩)
theorem Cm (sig:List Control) (redex:Big) (agent:Big) (m:Match) (hp:oe sig redex agent m):a7 Tryz.prog 75 [.list false (sig.map Control.cells),.agg (bC false redex),.agg (bC false agent),.agg (mC false m)] (.t [.a [.c,.s [.c,.c,.s [.c]],.s [.c],.c,.s [.c],.s [.c,.c]],.c]) (fun r=>r = .tup [.agg [int (((e9 sig redex agent m).1).roots),.list true ((((e9 sig redex agent m).1).nodes).map (aj.cells true)),.list true ((((e9 sig redex agent m).1).sites).map al),int (((e9 sig redex agent m).1).edges),.list true ((((e9 sig redex agent m).1).outer).map aL),.list true ((((e9 sig redex agent m).1).inner).map aA.cells)],bool ((e9 sig redex agent m).2)]):=(w8 sig redex agent m _ (CY sig redex agent m hp)).mono (by rintro _ ⟨_,rfl,rfl⟩;rfl)
theorem e21:Ent Tryz.prog 21:=Ent.of Tryz.func21 (by kernel_rfl) rfl
theorem nc (sig:List Control) (redex:Big) (agent:Big) (m:Match) (Z:(Big × Bool)→Prop) (h:dV sig redex agent m Z):a7 Tryz.prog 21 [.list false (sig.map Control.cells),.agg (bC false redex),.agg (bC false agent),.agg (mC false m)] (.t [.a [.c,.s [.c,.c,.s [.c]],.s [.c],.c,.s [.c],.s [.c,.c]],.c]) (fun r=>∃ y:Big × Bool,Z y∧r = .tup [.agg (bC true y.1),bool y.2]):=by
 unfold dV at h
 have sp:Sep bc 0 [] []:=Sep.nil (by simp)
 refine a7.of Tryz.func21 rfl Tryz.ntmps21 (by simp) fun Q hQ=>?_
 refine aa.cut (fun ρ H n=>(ρ 0 = .list false (sig.map Control.cells)∧ρ 1 = .agg (bC false redex)∧ρ 2 = .agg (bC false agent)∧ρ 3 = .agg (mC false m))∧Sep H n [] []) (by refine⟨by simp ,sp⟩) ?_
 rintro ρ H n1 ⟨hh,sp⟩
 refine zE fun k' hk'=>?_
 simp[hh]
 apply hk'
 refine aa.cut (fun ρ H n=>((ρ 0 = .list false (sig.map Control.cells)∧ρ 5=pA n1 5∧ρ 6=pA (n1+1) 6∧ρ 7=pA (n1+2) 7∧ρ 8=pA (n1+3) 8)∧H (n1,5)=some ⟨6,[bC false redex]⟩∧H (n1+1,6)=some ⟨6,[bC false agent]⟩∧H (n1+2,7)=some ⟨2,[mC false m]⟩∧H (n1+3,8)=some ⟨6,[zB]⟩)∧Sep H n [] [(n1+3,8),(n1+2,7),(n1+1,6),(n1,5)]) (by refine⟨by simp[hh],sp.var.var.var.var⟩) ?_
 clear hh
 rintro ρ H n6 ⟨⟨hh,e,g,i,d⟩,sp⟩
 refine aa.seq ?_
 refine zE fun k' hk'=>?_
 obtain⟨hb7,h⟩:=h
 obtain⟨r8,er8,h⟩:=atm h
 simp[hh,e,g,i,d]
 refine aG.aB ae (vF sig redex agent m hb7) e74 (.cons (iR false sig) (.cons (bg false redex) (.cons (bg false agent) (.cons (eY false m) .nil)))) (by decide) (by decide) rfl (by simp[hh,e,g,i,d]) ?_
 rintro _ rfl
 rw[← er8]
 simp[hh,e,g,i,d]
 apply hk'
 refine aa.ite (b:=(!r8)) (by simp[hh,e,g,i,d]) (fun dr8=>?_) (fun dr8=>?_)
 ·have dr8:r8=false:=by simpa using dr8
  replace h:=h.2 dr8
  refine zE fun k' hk'=>?_
  simp[hh,e,g,i,d,dr8]
  apply hk'
  refine aa.cut (fun ρ H n=>((ρ 8=pA (n1+3) 8∧ρ 9=bool false)∧H (n1+3,8)=some ⟨6,[zB]⟩)∧Sep H n [] [(n1+3,8)]) (by refine⟨by simp[hh,e,g,i,d,dr8],(Sep.sub (Sep.bF (w:=(n1+3,8)) sp (by simp)) (by simp +contextual))⟩) ?_
  clear hh e g i d
  rintro ρ H n9 ⟨⟨hh,d⟩,sp⟩
  exact aa.tf ae (v:=.agg [int 0,.v (.slice none 0 0),.v (.slice none 0 0),int 0,.v (.slice none 0 0),.v (.slice none 0 0)]) (w:=bool false) Tryz.func21 Tryz.results21 (by simp[hh,d,dO]) (by simp[hh,d,dO]) (hQ _ _ _ _ (Sep.sub (ids':=[]) (Sep.fy (az.own (az.v _ az.nil)) (Sep.pack (az.v _ (az.own (az.own (az.v _ (az.own (az.own az.nil)))))) (Sep.f3 (Sep.f2 (Sep.f1 (Sep.cu (Sep.cu (Sep.cu (Sep.cu sp))))))))) (by simp)) ⟨((Big.mk 0 [] [] 0 [] []),false),h,rfl⟩)
 have dr8:r8=true:=by simpa using dr8
 replace h:=h.1 dr8
 refine aa.skip ?_
 refine zE fun k' hk'=>?_
 obtain⟨u,h⟩:=h
 obtain⟨j,A,h⟩:=atm h
 simp[hh,e,g,i,d,dr8]
 refine aG.cd ae (Cm sig redex agent m u) e75 (.cons (iR false sig) (.cons (bg false redex) (.cons (bg false agent) (.cons (eY false m) .nil)))) sp (by decide) (by decide) rfl (by simp[hh,e,g,i,d,dr8]) ?_
 rintro G I n20 _ sp rfl J l
 rw[← A] at sp
 have e:=(l _ (by simp)).trans e
 have g:=(l _ (by simp)).trans g
 have i:=(l _ (by simp)).trans i
 have d:=(l _ (by simp)).trans d
 replace sp:=Sep.ku sp
 obtain⟨L26,hv,B,sp⟩:=sp
 subst hv
 obtain⟨v24,K,hv⟩:=cf (by simpa using B)
 subst hv
 simp only[dp,List.cons_append,List.nil_append] at sp
 replace sp:=Sep.unpack sp
 obtain⟨L34,hv,C,sp⟩:=sp
 subst hv
 obtain⟨v28,D,v30,v31,E,F,hv⟩:=cK (by simpa using C)
 subst hv
 simp only[dp,List.cons_append,List.nil_append] at sp
 replace sp:=Sep.scalar sp
 obtain⟨hv,sp⟩:=sp
 subst hv
 replace sp:=Sep.rot sp
 try simp only[List.cons_append,List.nil_append,List.append_assoc] at sp
 replace sp:=Sep.rot sp
 try simp only[List.cons_append,List.nil_append,List.append_assoc] at sp
 replace sp:=Sep.scalar sp
 obtain⟨hv,sp⟩:=sp
 subst hv
 replace sp:=Sep.rot sp
 try simp only[List.cons_append,List.nil_append,List.append_assoc] at sp
 replace sp:=Sep.rot sp
 try simp only[List.cons_append,List.nil_append,List.append_assoc] at sp
 replace sp:=Sep.scalar sp
 obtain⟨hv,sp⟩:=sp
 subst hv
 have f40:=Sep.oc sp
 have f41:=Sep.oc sp.f1
 have f42:=Sep.oc sp.f2
 have f43:=Sep.oc sp.f3
 simp[hh,e,g,i,d,f40,f41,f42,f43,dr8,-ar,-ay,cAx,o1x]
 apply hk'
 refine aa.cut (fun ρ H n=>∃ (o p v46 q:ag),((ρ 8=pA (n1+3) 8∧ρ 9=bool j.2)∧H (n1+3,8)=some ⟨6,[[int j.1.roots,o,p,int j.1.edges,v46,q]]⟩)∧Sep H n [oN o j.1.nodes,oI p j.1.sites,oS v46 j.1.outer,oW q j.1.inner] [(n1+3,8)]) (by refine⟨D,v30,E,F,by simp[hh,e,g,i,d,f40,f41,f42,f43,dr8,-ar,-ay,cAx,o1x],(Sep.sub (Sep.bF (w:=(n1+3,8)) sp (by simp)) (by simp +contextual))⟩) ?_
 clear hh e g i d
 rintro ρ H L ⟨o,p,v46,q,⟨hh,d⟩,sp⟩
 exact aa.tf ae (v:=.agg [int j.1.roots,o,p,int j.1.edges,v46,q]) (w:=bool j.2) Tryz.func21 Tryz.results21 (by simp[hh,d,dO]) (by simp[hh,d,dO]) (hQ _ _ _ _ (Sep.sub (ids':=[]) (Sep.fy (az.own (az.v _ az.nil)) (Sep.pack (az.v _ (az.own (az.own (az.v _ (az.own (az.own az.nil)))))) sp)) (by simp)) ⟨(j.1,j.2),h,rfl⟩)
theorem jm (sig:List Control) (redex:Big) (agent:Big) (m:Match) (hp:dw sig redex agent m):a7 Tryz.prog 21 [.list false (sig.map Control.cells),.agg (bC false redex),.agg (bC false agent),.agg (mC false m)] (.t [.a [.c,.s [.c,.c,.s [.c]],.s [.c],.c,.s [.c],.s [.c,.c]],.c]) (fun r=>r = .tup [.agg [int (((bf sig redex agent m).1).roots),.list true ((((bf sig redex agent m).1).nodes).map (aj.cells true)),.list true ((((bf sig redex agent m).1).sites).map al),int (((bf sig redex agent m).1).edges),.list true ((((bf sig redex agent m).1).outer).map aL),.list true ((((bf sig redex agent m).1).inner).map aA.cells)],bool ((bf sig redex agent m).2)]):=(nc sig redex agent m _ (oB sig redex agent m hp)).mono (by rintro _ ⟨_,rfl,rfl⟩;rfl)
theorem I3:Ent Tryz.prog 119:=Ent.of Tryz.func119 (by kernel_rfl) rfl
theorem wj (redex:Big) (m:Match) (image:Int) (Z:Int→Prop) (h:mG redex m image Z):aq Tryz.prog 119 [.agg (bC false redex),.agg (mC false m),int image] (fun r=>∃ y:Int,Z y∧r=int y):=by
 unfold mG at h
 refine aq.of Tryz.func119 rfl Tryz.ntmps119 (by simp) fun Q hQ=>?_
 refine aa.cut (fun ρ H n=>(ρ 0 = .agg (bC false redex)∧ρ 1 = .agg (mC false m)∧ρ 2=int image)) (by simp) ?_
 rintro ρ H n1 hh
 refine zE fun k' hk'=>?_
 simp[hh]
 apply hk'
 refine aa.cut (fun ρ H n=>(ρ 2=int image∧ρ 3=pA n1 3∧ρ 4=pA (n1+1) 4)∧H (n1,3)=some ⟨6,[bC false redex]⟩∧H (n1+1,4)=some ⟨2,[mC false m]⟩) (by refine⟨?_,?_,?_⟩<;>simp[hh]) ?_
 clear hh
 rintro ρ H n4 ⟨hh,a,c⟩
 refine aa.seq ?_
 refine zE fun k' hk'=>?_
 simp[hh,a,c]
 apply hk'
 refine aa.block ?_
 refine aa.aw h (fun (sJ:Int) ρ H n=>match sJ with | i7=>(ρ 2=int image∧ρ 3=pA n1 3∧ρ 4=pA (n1+1) 4∧ρ 7=int i7)∧H (n1,3)=some ⟨6,[bC false redex]⟩∧H (n1+1,4)=some ⟨2,[mC false m]⟩) (by refine⟨?_,?_,?_⟩<;>simp[hh,a,c]) ?_
 clear hh a c
 rintro i7 ρ H n8 K h ⟨hh,a,c⟩ IH9
 refine aa.seq ?_
 refine zE fun k' hk'=>?_
 obtain⟨ot,j,h⟩:=atm h
 have f12:=fun H=>ax (H:=H) (fr:=false) (f:=al) aO j
 obtain⟨l,o,h⟩:=atm h
 have f14:=aT (k:=.i64) o
 simp[hh,a,c,f12,f14,-ai,-aH]
 apply hk'
 refine aa.ite (b:=l) (by simp[hh,a,c]) (fun d=>?_) (fun d=>?_)
 ·replace h:=h.1 d
  refine aa.skip ?_
  refine aa.seq ?_
  refine aa.block ?_
  refine zE fun k' hk'=>?_
  obtain⟨p,h⟩:=h
  obtain⟨G,q,h⟩:=atm h
  have f17:=fun H=>aE (H:=H) (fr:=false) (f:=al) (k:=.i64) aO (fun _=>rfl) p q
  obtain⟨t,u,h⟩:=atm h
  have f19:=cJ (k:=.i64) u
  simp[hh,a,c,f17,f19,d,-ah,-ai]
  apply hk'
  refine aa.ite (b:=t) (by simp[hh,a,c,d]) (fun e=>?_) (fun e=>?_)
  ·replace h:=h.1 e
   refine zE fun k' hk'=>?_
   obtain⟨A,h⟩:=h
   obtain⟨I,B,h⟩:=atm h
   simp[hh,a,c,d,e]
   refine aG.aB ae ((ld redex i7 A).pure) Fx (.cons (bg false redex) (.cons (.v _ _ _) .nil)) (by decide) (by decide) rfl (by simp[hh,a,c,d,e]) ?_
   rintro _ rfl
   rw[← B]
   obtain⟨C,h⟩:=h
   obtain⟨g,D,h⟩:=atm h
   have f24:=fun H=>aE (H:=H) (fr:=true) (f:=al) (k:=.i64) aO (fun _=>rfl) C D
   simp[hh,a,c,f24,d,e,-ah]
   apply hk'
   refine aa.cut (fun ρ H n=>ρ 6=int g) (by simp[hh,a,c,f24,d,e,-ah]) ?_
   clear hh a c
   rintro ρ H n25 hh
   exact aa.aV (v:=int g) Tryz.func119 Tryz.results119 (by simp[hh]) (hQ _ _ _ _ (.of (.v _)) ⟨g,h,rfl⟩)
  replace h:=h.2 e
  refine aa.skip ?_
  refine aa.inBlock ?_
  refine zF fun k' hk'=>?_
  obtain⟨E,h⟩:=h
  obtain⟨i,F,h⟩:=atm h
  have f28:=aI E F
  simp[hh,a,c,f28,d,e,-ai]
  apply hk'
  refine aa.cut (fun ρ H n=>(ρ 2=int image∧ρ 3=pA n1 3∧ρ 4=pA (n1+1) 4∧ρ 7=int i)∧H (n1,3)=some ⟨6,[bC false redex]⟩∧H (n1+1,4)=some ⟨2,[mC false m]⟩) (by refine⟨?_,?_,?_⟩<;>simp[hh,a,c,f28,d,e,-ai]) ?_
  clear hh a c
  rintro ρ H n29 ⟨hh,a,c⟩
  refine IH9 (i) _ _ _ h (by refine⟨?_,?_,?_⟩<;>simp[hh,a,c])
 replace h:=h.2 d
 refine aa.exit rfl ?_
 refine zE fun k' hk'=>?_
 simp[hh,a,c,d]
 apply hk'
 exact aa.aV (v:=int 0) Tryz.func119 Tryz.results119 (by simp[hh,a,c,d]) (hQ _ _ _ _ (.of (.v _)) ⟨0,h,rfl⟩)
theorem Cu (redex:Big) (m:Match) (image:Int) (hp:nE redex m image):aq Tryz.prog 119 [.agg (bC false redex),.agg (mC false m),int image] (fun r=>r=int (rD redex m image)):=(wj redex m image _ (C4 redex m image hp)).mono (by rintro _ ⟨_,rfl,rfl⟩;rfl)
theorem e73:Ent Tryz.prog 73:=Ent.of Tryz.func73 (by kernel_rfl) rfl
theorem w4 (redex:Big) (agent:Big) (m:Match) (passed:List Int) (names:List Str) (Z:Big→Prop) (h:mO redex agent m passed names Z):a7 Tryz.prog 73 [.agg (bC false redex),.agg (bC false agent),.agg (mC false m),.list false (passed.map al),.list false (names.map aL)] (.a [.c,.s [.c,.c,.s [.c]],.s [.c],.c,.s [.c],.s [.c,.c]]) (fun r=>∃ y:Big,Z y∧r = .agg (bC true y)):=by
 unfold mO at h
 have sp:Sep bc 0 [] []:=Sep.nil (by simp)
 refine a7.of Tryz.func73 rfl Tryz.ntmps73 (by simp) fun Q hQ=>?_
 refine aa.cut (fun ρ H n=>(ρ 0 = .agg (bC false redex)∧ρ 1 = .agg (bC false agent)∧ρ 2 = .agg (mC false m)∧ρ 3 = .list false (passed.map al)∧ρ 4 = .list false (names.map aL))∧Sep H n [] []) (by refine⟨by simp ,sp⟩) ?_
 rintro ρ H n1 ⟨hh,sp⟩
 refine zE fun k' hk'=>?_
 simp[hh]
 apply hk'
 refine aa.cut (fun ρ H n=>((ρ 3 = .list false (passed.map al)∧ρ 4 = .list false (names.map aL)∧ρ 5=pA n1 5∧ρ 6=pA (n1+1) 6∧ρ 7=pA (n1+2) 7∧ρ 10=pA (n1+3) 10)∧H (n1,5)=some ⟨6,[bC false redex]⟩∧H (n1+1,6)=some ⟨6,[bC false agent]⟩∧H (n1+2,7)=some ⟨2,[mC false m]⟩∧H (n1+3,10)=some ⟨6,[zB]⟩)∧Sep H n [] [(n1+3,10),(n1+2,7),(n1+1,6),(n1,5)]) (by refine⟨by simp[hh],sp.var.var.var.var⟩) ?_
 clear hh
 rintro ρ H n6 ⟨⟨hh,e,j,o,d⟩,sp⟩
 refine aa.cut (fun ρ H n=>((ρ 3 = .list false (passed.map al)∧ρ 4 = .list false (names.map aL)∧ρ 5=pA n1 5∧ρ 6=pA (n1+1) 6∧ρ 7=pA (n1+2) 7∧ρ 10=pA (n1+3) 10)∧H (n1,5)=some ⟨6,[bC false redex]⟩∧H (n1+1,6)=some ⟨6,[bC false agent]⟩∧H (n1+2,7)=some ⟨2,[mC false m]⟩∧H (n1+3,10)=some ⟨6,[zB]⟩)∧Sep H n [] [(n1+3,10),(n1+2,7),(n1+1,6),(n1,5)]) (by refine⟨by simp[hh,e,j,o,d],sp⟩) ?_
 clear hh e j o d
 rintro ρ H n7 ⟨⟨hh,e,j,o,d⟩,sp⟩
 obtain⟨hb8,h⟩:=h
 obtain⟨r9,er9,h⟩:=atm h
 obtain⟨dt,ci,h⟩:=atm h
 have f11:=fun H=>ax (H:=H) (fr:=false) (f:=aL) cy ci
 obtain⟨cj,h⟩:=h
 obtain⟨F,cl,h⟩:=atm h
 have f14:=aI cj cl
 obtain⟨c9,h⟩:=h
 obtain⟨co,cs,h⟩:=atm h
 refine aa.F2 (fun H n=>H (n1,5)=some ⟨6,[bC false redex]⟩∧H (n1+1,6)=some ⟨6,[bC false agent]⟩∧H (n1+2,7)=some ⟨2,[mC false m]⟩∧H (n1+3,10)=some ⟨6,[zB]⟩∧Sep H n [] [(n1+3,10),(n1+2,7),(n1+1,6),(n1,5)]) [9,11] (.free 0 (.free 1 (.free 2 (.free 3 (.free 4 (.free 5 (.free 6 (.free 7 (.free 8 (.free 10 (.hard 9 (.hard 11 (.fin) (.stop)) (.stop)))))))))))) (fun ρ H n=>∃ (ad:ag),((ρ 3 = .list false (passed.map al)∧ρ 4 = .list false (names.map aL)∧ρ 5=pA n1 5∧ρ 6=pA (n1+1) 6∧ρ 7=pA (n1+2) 7∧ρ 10=pA (n1+3) 10∧ρ 11 = .list true (r9.map av)∧ρ 12=ad)∧H (n1,5)=some ⟨6,[bC false redex]⟩∧H (n1+1,6)=some ⟨6,[bC false agent]⟩∧H (n1+2,7)=some ⟨2,[mC false m]⟩∧H (n1+3,10)=some ⟨6,[zB]⟩)∧Sep H n [oI ad co] [(n1+3,10),(n1+2,7),(n1+1,6),(n1,5)]) bU (by decide) (by kernel_rfl) ?_ ?_
 ·refine RunT.free (.agg (bC false agent)) rfl rfl ⟨e,j,o,d,sp⟩ (fun H n hS=>by obtain⟨e,j,o,d,sp⟩:=hS;exact (by exact aJ ae (by rw[aC];simp[hh,e,j,o,d,f11,f14,-ai,-aH]))) ?_
  refine RunT.free (.agg (mC false m)) rfl rfl ⟨e,j,o,d,sp⟩ (fun H n hS=>by obtain⟨e,j,o,d,sp⟩:=hS;exact (by exact aJ ae (by rw[aC];simp[hh,e,j,o,d,f11,f14,-ai,-aH]))) ?_
  refine RunT.free (.list true (r9.map av)) rfl rfl ⟨e,j,o,d,sp⟩ (fun H n hS=>by obtain⟨e,j,o,d,sp⟩:=hS;exact (by rw[er9];exact aN.jB (xs:=[.agg (bC false agent),.agg (mC false m)]) ((mi agent m hb8).pure) G5 (.cons (bg false agent) (.cons (eY false m) .nil)) (by simp[hh,e,j,o,d,f11,f14,-ai,-aH]) (by simp[hh,e,j,o,d,f11,f14,-ai,-aH]))) ?_
  refine RunT.free (.ptr (n1+1,6) 1 0 3) rfl rfl ⟨e,j,o,d,sp⟩ (fun H n hS=>by obtain⟨e,j,o,d,sp⟩:=hS;exact (by exact aJ ae (by rw[aC];simp[hh,e,j,o,d,f11,f14,-ai,-aH]))) ?_
  refine RunT.free (int agent.edges) rfl rfl ⟨e,j,o,d,sp⟩ (fun H n hS=>by obtain⟨e,j,o,d,sp⟩:=hS;exact (by exact aJ ae (by rw[aC];simp[hh,e,j,o,d,f11,f14,-ai,-aH]))) ?_
  refine RunT.free (.ptr (n1+1,6) 1 0 4) rfl rfl ⟨e,j,o,d,sp⟩ (fun H n hS=>by obtain⟨e,j,o,d,sp⟩:=hS;exact (by exact aJ ae (by rw[aC];simp[hh,e,j,o,d,f11,f14,-ai,-aH]))) ?_
  refine RunT.free (.list false (agent.outer.map aL)) rfl rfl ⟨e,j,o,d,sp⟩ (fun H n hS=>by obtain⟨e,j,o,d,sp⟩:=hS;exact (by exact aJ ae (by rw[aC];simp[hh,e,j,o,d,f11,f14,-ai,-aH]))) ?_
  refine RunT.free (int dt) rfl rfl ⟨e,j,o,d,sp⟩ (fun H n hS=>by obtain⟨e,j,o,d,sp⟩:=hS;exact (by have f11:=fun H=>ax (H:=H) (fr:=false) (f:=aL) cy ci;exact aJ ae (by rw[aC];simp[hh,e,j,o,d,f11,f14,-ai,-aH]))) ?_
  refine RunT.free (int F) rfl rfl ⟨e,j,o,d,sp⟩ (fun H n hS=>by obtain⟨e,j,o,d,sp⟩:=hS;exact (by have f14:=aI cj cl;exact aJ ae (by rw[aC];simp[hh,e,j,o,d,f11,f14,-ai,-aH]))) ?_
  refine RunT.free (.list true (r9.map av)) rfl rfl ⟨e,j,o,d,sp⟩ (fun H n hS=>by obtain⟨e,j,o,d,sp⟩:=hS;exact (by exact aJ ae (by rw[aC];simp[hh,e,j,o,d,f11,f14,-ai,-aH]))) ?_
  refine⟨?_,trivial⟩
  refine RunT.step (v:=.arr (n7,27) F.toNat 0 F.toNat) ae rfl rfl (by simp[hh,e,j,o,d,f11,f14,c9,-ai,-aH]<;>first | exact⟨rfl,rfl⟩ | exact rfl) (fun _=>⟨(by simp[hh,e,j,o,d,f11,f14,ak.aP,-ai,-aH]),(by simp[hh,e,j,o,d,f11,f14,ak.aP,-ai,-aH]),(by simp[hh,e,j,o,d,f11,f14,ak.aP,-ai,-aH]),(by simp[hh,e,j,o,d,f11,f14,ak.aP,-ai,-aH]),(Sep.dr (show Sep _ _ [oI (.arr (n7,27) F.toNat 0 F.toNat) co] [(n1+3,10),(n1+2,7),(n1+1,6),(n1,5)] from (by rw[cs];exact Sep.nJ (z:=[int 0]) (f:=al) (k:=F.toNat) sp (fun H=>by show Row H [.c] [int 0] [int 0] [];simp[Row,Tr]))))⟩) ?_
  refine⟨?_,trivial⟩
  refine RunT.same (v:=(.arr (n7,27) F.toNat 0 F.toNat)) ae rfl rfl (by simp[hh,e,j,o,d,f11,f14,-ai,-aH]) (fun hl=>absurd (hl.symm.trans (show cU _ _ _=true by kernel_rfl)) (by decide)) ?_
  refine RunT.fin (by refine⟨.arr (n7,27) F.toNat 0 F.toNat,by simp[hh,e,j,o,d,f11,f14,-ai,-aH],(by rw[cs];exact Sep.nJ (z:=[int 0]) (f:=al) (k:=F.toNat) sp (fun H=>by show Row H [.c] [int 0] [int 0] [];simp[Row,Tr]))⟩)
 clear hh e j o d
 rintro ρ H n19 ⟨ad,⟨hh,e,j,o,d⟩,sp⟩
 refine aa.seq ?_
 refine zE fun k' hk'=>?_
 simp[hh,e,j,o,d]
 apply hk'
 refine aa.block ?_
 refine aa.aw h (fun (sJ:Int × (List Int)) ρ H n=>match sJ with | (i39,t)=>∃ (af:ag),((ρ 3 = .list false (passed.map al)∧ρ 4 = .list false (names.map aL)∧ρ 5=pA n1 5∧ρ 6=pA (n1+1) 6∧ρ 7=pA (n1+2) 7∧ρ 10=pA (n1+3) 10∧ρ 11 = .list true (r9.map av)∧ρ 12=af∧ρ 13=int i39)∧H (n1,5)=some ⟨6,[bC false redex]⟩∧H (n1+1,6)=some ⟨6,[bC false agent]⟩∧H (n1+2,7)=some ⟨2,[mC false m]⟩∧H (n1+3,10)=some ⟨6,[zB]⟩)∧Sep H n [oI af t] [(n1+3,10),(n1+2,7),(n1+1,6),(n1,5)]) (by refine⟨ad,by simp[hh,e,j,o,d],sp⟩) ?_
 clear hh e j o d
 rintro⟨i39,t⟩ ρ H da K h ⟨af,⟨hh,e,j,o,d⟩,sp⟩ dc
 refine aa.seq ?_
 refine zE fun k' hk'=>?_
 obtain⟨g2,dl,h⟩:=atm h
 have f46:=fun H=>ax (H:=H) (fr:=false) (f:=al) aO dl
 obtain⟨ds,d0,h⟩:=atm h
 have f48:=aT (k:=.i64) d0
 simp[hh,e,j,o,d,f46,f48,-ai,-aH]
 apply hk'
 refine aa.ite (b:=ds) (by simp[hh,e,j,o,d]) (fun L=>?_) (fun L=>?_)
 ·replace h:=h.1 L
  refine aa.skip ?_
  refine aa.seq ?_
  refine aa.block ?_
  refine zF fun k' hk'=>?_
  obtain⟨d1,h⟩:=h
  obtain⟨c0,d2,h⟩:=atm h
  have f51:=fun H=>aE (H:=H) (fr:=false) (f:=al) (k:=.i64) aO (fun _=>rfl) d1 d2
  obtain⟨be,h⟩:=h
  obtain⟨bi,hv,d3,g3,T⟩:=Sep.fC sp (by simp) be
  subst hv
  simp at T
  obtain⟨g4,d4,h⟩:=atm h
  have f58:=fun H (hm:H bi=some ⟨1,t.map al⟩)=>cF (H:=H) (k:=.i64) (off:=0) (len:=t.length) (g:=t.length) aO hm (by simp) rfl be
  have f59:=cH (q:=c0.toNat) be d4 rfl
  obtain⟨bk,d5,h⟩:=atm h
  simp[hh,e,j,o,d,d3,T,f51,f58,f59,L,-ah,-bG]
  refine dv (q:=c0.toNat) (news:=al i39) [] [] sp (by simp) (by simp;omega) (by simp) (by simp[-ay,o1x]) (az.v _ az.nil) ?_
  rintro d6 sp am
  replace sp:Sep d6 da [oI (.arr bi t.length 0 t.length) bk] [(n1+3,10),(n1+2,7),(n1+1,6),(n1,5)]:=Sep.st d5 sp
  have e:=(am _ (by simp)).trans e
  have j:=(am _ (by simp)).trans j
  have o:=(am _ (by simp)).trans o
  have d:=(am _ (by simp)).trans d
  simp[hh,e,j,o,d,T,f51,f58,f59,L,-ah]
  apply hk'
  refine aa.cut (fun ρ H n=>∃ (an:ag),((ρ 3 = .list false (passed.map al)∧ρ 4 = .list false (names.map aL)∧ρ 5=pA n1 5∧ρ 6=pA (n1+1) 6∧ρ 7=pA (n1+2) 7∧ρ 10=pA (n1+3) 10∧ρ 11 = .list true (r9.map av)∧ρ 12=an∧ρ 13=int i39)∧H (n1,5)=some ⟨6,[bC false redex]⟩∧H (n1+1,6)=some ⟨6,[bC false agent]⟩∧H (n1+2,7)=some ⟨2,[mC false m]⟩∧H (n1+3,10)=some ⟨6,[zB]⟩)∧Sep H n [oI an bk] [(n1+3,10),(n1+2,7),(n1+1,6),(n1,5)]) (by refine⟨.arr bi t.length 0 t.length,by simp[hh,e,j,o,d,T,f51,f58,f59,L,-ah],sp⟩) ?_
  clear hh e j o d T
  rintro ρ H g5 ⟨an,⟨hh,e,j,o,d⟩,sp⟩
  refine aa.inBlock ?_
  refine zF fun k' hk'=>?_
  obtain⟨d7,h⟩:=h
  obtain⟨d8,d9,h⟩:=atm h
  have f68:=aI d7 d9
  simp[hh,e,j,o,d,f68,-ai]
  apply hk'
  refine dc (d8,bk) _ _ _ h (by refine⟨an,by simp[hh,e,j,o,d],sp⟩)
 replace h:=h.2 L
 refine aa.exit rfl ?_
 refine aa.cut (fun ρ H n=>∃ (B:ag),((ρ 4 = .list false (names.map aL)∧ρ 5=pA n1 5∧ρ 6=pA (n1+1) 6∧ρ 7=pA (n1+2) 7∧ρ 10=pA (n1+3) 10∧ρ 11 = .list true (r9.map av)∧ρ 12=B)∧H (n1,5)=some ⟨6,[bC false redex]⟩∧H (n1+1,6)=some ⟨6,[bC false agent]⟩∧H (n1+2,7)=some ⟨2,[mC false m]⟩∧H (n1+3,10)=some ⟨6,[zB]⟩)∧Sep H n [oI B t] [(n1+3,10),(n1+2,7),(n1+1,6),(n1,5)]) (by refine⟨af,by simp[hh,e,j,o,d,L],sp⟩) ?_
 clear hh e j o d
 rintro ρ H u ⟨B,⟨hh,e,j,o,d⟩,sp⟩
 obtain⟨C,c1,h⟩:=atm h
 have f72:=fun H=>ax (H:=H) (fr:=false) (f:=al) aO c1
 obtain⟨bs,h⟩:=h
 obtain⟨G,bv,h⟩:=atm h
 refine aa.F2 (fun H n=>H (n1,5)=some ⟨6,[bC false redex]⟩∧H (n1+1,6)=some ⟨6,[bC false agent]⟩∧H (n1+2,7)=some ⟨2,[mC false m]⟩∧H (n1+3,10)=some ⟨6,[zB]⟩∧Sep H n [oI B t] [(n1+3,10),(n1+2,7),(n1+1,6),(n1,5)]) [3,5,6,7,8] (.free 0 (.free 1 (.free 2 (.free 4 (.hard 3 (.hard 5 (.hard 6 (.hard 7 (.hard 8 (.fin) (.stop)) (.stop)) (.hard 7 (.hard 6 (.hard 8 (.fin) (.stop)) (.stop)) (.stop))) (.hard 7 (.hard 5 (.hard 6 (.hard 8 (.fin) (.stop)) (.stop)) (.stop)) (.stop))) (.hard 7 (.hard 3 (.hard 5 (.hard 6 (.hard 8 (.fin) (.stop)) (.stop)) (.stop)) (.stop)) (.stop))))))) (fun ρ H n=>∃ (ao:ag) (b0:ag) (A:Nat),((ρ 5=pA n1 5∧ρ 6=pA (n1+1) 6∧ρ 7=pA (n1+2) 7∧ρ 10=pA (n1+3) 10∧ρ 11 = .list true (r9.map av)∧ρ 12=b0∧ρ 14 = .ptr (A,14) 1 0 0)∧H (n1,5)=some ⟨6,[bC false redex]⟩∧H (n1+1,6)=some ⟨6,[bC false agent]⟩∧H (n1+2,7)=some ⟨2,[mC false m]⟩∧H (n1+3,10)=some ⟨6,[zB]⟩∧H (A,14)=some ⟨6,[[int C,.v (.slice none 0 0),.v (.slice none 0 0),int 0,ao,.v (.slice none 0 0)]]⟩)∧Sep H n [oS ao G,oI b0 t] [(A,14),(n1+3,10),(n1+2,7),(n1+1,6),(n1,5)]) bU (by decide) (by kernel_rfl) ?_ ?_
 ·refine RunT.free (.ptr (n1,5) 1 0 2) rfl rfl ⟨e,j,o,d,sp⟩ (fun H n hS=>by obtain⟨e,j,o,d,sp⟩:=hS;exact (by exact aJ ae (by rw[aC];simp[hh,e,j,o,d,f72,-aH]))) ?_
  refine RunT.free (.list false (redex.sites.map al)) rfl rfl ⟨e,j,o,d,sp⟩ (fun H n hS=>by obtain⟨e,j,o,d,sp⟩:=hS;exact (by exact aJ ae (by rw[aC];simp[hh,e,j,o,d,f72,-aH]))) ?_
  refine RunT.free (int C) rfl rfl ⟨e,j,o,d,sp⟩ (fun H n hS=>by obtain⟨e,j,o,d,sp⟩:=hS;exact (by have f72:=fun H=>ax (H:=H) (fr:=false) (f:=al) aO c1;exact aJ ae (by rw[aC];simp[hh,e,j,o,d,f72,-aH]))) ?_
  refine RunT.free (.list false (names.map aL)) rfl rfl ⟨e,j,o,d,sp⟩ (fun H n hS=>by obtain⟨e,j,o,d,sp⟩:=hS;exact (by exact aJ ae (by rw[aC];simp[hh,e,j,o,d,f72,-aH]))) ?_
  refine⟨?_,?_,trivial⟩
  ·refine RunT.step (v:=.arr (u,44) 0 0 0) ae rfl rfl (by simp[hh,e,j,o,d,f72,-aH]<;>first | exact⟨rfl,rfl⟩ | exact rfl) (fun _=>⟨(by simp[hh,e,j,o,d,f72,ak.aP,-aH]),(by simp[hh,e,j,o,d,f72,ak.aP,-aH]),(by simp[hh,e,j,o,d,f72,ak.aP,-aH]),(by simp[hh,e,j,o,d,f72,ak.aP,-aH]),(Sep.dr (show Sep _ _ [oS (.arr (u,44) 0 0 0) ([]:List Str),oI B t] [(n1+3,10),(n1+2,7),(n1+1,6),(n1,5)] from (Sep.addEmpty (l:=[.c]) sp)))⟩) ?_
   refine⟨?_,?_,trivial⟩
   ·refine RunT.mT (v:=(.arr (u,44) 0 0 0)) (xv:=(.list false (names.map aL))) ae (names.map aL) rfl rfl (by simp[hh,e,j,o,d,f72,-aH]) (by simp[hh,e,j,o,d,f72,-aH]) (Sep.addEmpty (l:=[.c]) sp) (by simp) cy (by simp) (by simp) (by simp[dE]) (by simp[-ay,o1x]) (by simpa using bs) ?_
    rintro v91 U V sp aM g6
    replace sp:Sep U V [oS v91 G,oI B t] [(n1+3,10),(n1+2,7),(n1+1,6),(n1,5)]:=by refine Sep.ap bv ?_;exact sp
    have e:U (n1,5)=some ⟨6,[bC false redex]⟩:=(aM _ (by simp)).trans (by simp[hh,e,j,o,d,ak.aP])
    have j:U (n1+1,6)=some ⟨6,[bC false agent]⟩:=(aM _ (by simp)).trans (by simp[hh,e,j,o,d,ak.aP])
    have o:U (n1+2,7)=some ⟨2,[mC false m]⟩:=(aM _ (by simp)).trans (by simp[hh,e,j,o,d,ak.aP])
    have d:U (n1+3,10)=some ⟨6,[zB]⟩:=(aM _ (by simp)).trans (by simp[hh,e,j,o,d,ak.aP])
    refine⟨(fun _=>⟨e,j,o,d,sp.dr⟩),?_⟩
    refine⟨?_,?_,trivial⟩
    ·have f100:=Sep.oc sp
     refine RunT.same (v:=(.agg [int C,.v (.slice none 0 0),.v (.slice none 0 0),int 0,v91,.v (.slice none 0 0)])) ae rfl rfl (by simp[hh,e,j,o,d,f72,f100,-ar,-aH,-ay,cAx,o1x]) (fun hl=>absurd (hl.symm.trans (show cU _ _ _=true by kernel_rfl)) (by decide)) ?_
     refine⟨?_,trivial⟩
     refine RunT.step (v:=pA V 14) ae rfl rfl (by simp[hh,e,j,o,d,f72,f100,-ar,-aH,-ay,cAx,o1x]<;>first | exact⟨rfl,rfl⟩ | exact rfl) (fun _=>⟨(by simp[hh,e,j,o,d,f72,f100,ak.aP,-ar,-aH,-ay,cAx,o1x]),(by simp[hh,e,j,o,d,f72,f100,ak.aP,-ar,-aH,-ay,cAx,o1x]),(by simp[hh,e,j,o,d,f72,f100,ak.aP,-ar,-aH,-ay,cAx,o1x]),(by simp[hh,e,j,o,d,f72,f100,ak.aP,-ar,-aH,-ay,cAx,o1x]),(Sep.sub sp.var.dr (by simp +contextual))⟩) ?_
     refine⟨?_,trivial⟩
     have f113:=Sep.oc sp
     refine RunT.step (v:=.undef) ae rfl rfl (by simp[hh,e,j,o,d,f72,f100,f113,-ar,-aH,-ay,cAx,o1x]<;>first | exact⟨rfl,rfl⟩ | exact rfl) (fun hl=>absurd (hl.symm.trans (show cU _ _ _=true by kernel_rfl)) (by decide)) ?_
     refine RunT.fin (by refine⟨v91,B,V,by simp[hh,e,j,o,d,f72,f100,f113,-ar,-aH,-ay,cAx,o1x],sp.var⟩)
    refine RunT.step (v:=pA V 14) ae rfl rfl (by simp[hh,e,j,o,d,f72,-aH]<;>first | exact⟨rfl,rfl⟩ | exact rfl) (fun _=>⟨(by simp[hh,e,j,o,d,f72,ak.aP,-aH]),(by simp[hh,e,j,o,d,f72,ak.aP,-aH]),(by simp[hh,e,j,o,d,f72,ak.aP,-aH]),(by simp[hh,e,j,o,d,f72,ak.aP,-aH]),(Sep.sub sp.var.dr (by simp +contextual))⟩) ?_
    refine⟨?_,trivial⟩
    have f126:=Sep.oc sp
    refine RunT.same (v:=(.agg [int C,.v (.slice none 0 0),.v (.slice none 0 0),int 0,v91,.v (.slice none 0 0)])) ae rfl rfl (by simp[hh,e,j,o,d,f72,f126,-ar,-aH,-ay,cAx,o1x]) (fun hl=>absurd (hl.symm.trans (show cU _ _ _=true by kernel_rfl)) (by decide)) ?_
    refine⟨?_,trivial⟩
    have f133:=Sep.oc sp
    refine RunT.step (v:=.undef) ae rfl rfl (by simp[hh,e,j,o,d,f72,f126,f133,-ar,-aH,-ay,cAx,o1x]<;>first | exact⟨rfl,rfl⟩ | exact rfl) (fun hl=>absurd (hl.symm.trans (show cU _ _ _=true by kernel_rfl)) (by decide)) ?_
    refine RunT.fin (by refine⟨v91,B,V,by simp[hh,e,j,o,d,f72,f126,f133,-ar,-aH,-ay,cAx,o1x],sp.var⟩)
   refine RunT.step (v:=pA (u+1) 14) ae rfl rfl (by simp[hh,e,j,o,d,f72,-aH]<;>first | exact⟨rfl,rfl⟩ | exact rfl) (fun _=>⟨(by simp[hh,e,j,o,d,f72,ak.aP,-aH]),(by simp[hh,e,j,o,d,f72,ak.aP,-aH]),(by simp[hh,e,j,o,d,f72,ak.aP,-aH]),(by simp[hh,e,j,o,d,f72,ak.aP,-aH]),(Sep.sub (Sep.dr (Sep.var (Sep.addEmpty (l:=[.c]) sp))) (by simp +contextual))⟩) ?_
   refine⟨?_,trivial⟩
   refine RunT.mT (v:=(.arr (u,44) 0 0 0)) (xv:=(.list false (names.map aL))) ae (names.map aL) rfl rfl (by simp[hh,e,j,o,d,f72,-aH]) (by simp[hh,e,j,o,d,f72,-aH]) (Sep.var (Sep.addEmpty (l:=[.c]) sp)) (by simp) cy (by simp) (by simp) (by simp[dE]) (by simp[-ay,o1x]) (by simpa using bs) ?_
   rintro b1 M n141 sp W g7
   replace sp:Sep M n141 [oS b1 G,oI B t] [(u+1,14),(n1+3,10),(n1+2,7),(n1+1,6),(n1,5)]:=by refine Sep.ap bv ?_;exact sp
   have e:M (n1,5)=some ⟨6,[bC false redex]⟩:=(W _ (by simp)).trans (by simp[hh,e,j,o,d,ak.aP])
   have j:M (n1+1,6)=some ⟨6,[bC false agent]⟩:=(W _ (by simp)).trans (by simp[hh,e,j,o,d,ak.aP])
   have o:M (n1+2,7)=some ⟨2,[mC false m]⟩:=(W _ (by simp)).trans (by simp[hh,e,j,o,d,ak.aP])
   have d:M (n1+3,10)=some ⟨6,[zB]⟩:=(W _ (by simp)).trans (by simp[hh,e,j,o,d,ak.aP])
   have p:M (u+1,14)=some ⟨6,[zB]⟩:=(W _ (by simp)).trans (by simp[hh,e,j,o,d,ak.aP])
   refine⟨(fun _=>⟨e,j,o,d,(Sep.sub sp.dr (by simp +contextual))⟩),?_⟩
   refine⟨?_,trivial⟩
   have f153:=Sep.oc sp
   refine RunT.same (v:=(.agg [int C,.v (.slice none 0 0),.v (.slice none 0 0),int 0,b1,.v (.slice none 0 0)])) ae rfl rfl (by simp[hh,e,j,o,d,p,f72,f153,-ar,-aH,-ay,cAx,o1x]) (fun hl=>absurd (hl.symm.trans (show cU _ _ _=true by kernel_rfl)) (by decide)) ?_
   refine⟨?_,trivial⟩
   have f160:=Sep.oc sp
   refine RunT.step (v:=.undef) ae rfl rfl (by simp[hh,e,j,o,d,p,f72,f153,f160,-ar,-aH,-ay,cAx,o1x]<;>first | exact⟨rfl,rfl⟩ | exact rfl) (fun hl=>absurd (hl.symm.trans (show cU _ _ _=true by kernel_rfl)) (by decide)) ?_
   refine RunT.fin (by refine⟨b1,B,u+1,by simp[hh,e,j,o,d,p,f72,f153,f160,-ar,-aH,-ay,cAx,o1x],(Sep.bF (w:=(u+1,14)) sp (by simp))⟩)
  refine RunT.step (v:=pA u 14) ae rfl rfl (by simp[hh,e,j,o,d,f72,-aH]<;>first | exact⟨rfl,rfl⟩ | exact rfl) (fun _=>⟨(by simp[hh,e,j,o,d,f72,ak.aP,-aH]),(by simp[hh,e,j,o,d,f72,ak.aP,-aH]),(by simp[hh,e,j,o,d,f72,ak.aP,-aH]),(by simp[hh,e,j,o,d,f72,ak.aP,-aH]),(Sep.sub sp.var (by simp +contextual))⟩) ?_
  refine⟨?_,trivial⟩
  refine RunT.step (v:=.arr (u+1,44) 0 0 0) ae rfl rfl (by simp[hh,e,j,o,d,f72,-aH]<;>first | exact⟨rfl,rfl⟩ | exact rfl) (fun _=>⟨(by simp[hh,e,j,o,d,f72,ak.aP,-aH]),(by simp[hh,e,j,o,d,f72,ak.aP,-aH]),(by simp[hh,e,j,o,d,f72,ak.aP,-aH]),(by simp[hh,e,j,o,d,f72,ak.aP,-aH]),(Sep.sub (Sep.dr (show Sep _ _ [oS (.arr (u+1,44) 0 0 0) ([]:List Str),oI B t] [(u,14),(n1+3,10),(n1+2,7),(n1+1,6),(n1,5)] from (Sep.addEmpty (l:=[.c]) sp.var))) (by simp +contextual))⟩) ?_
  refine⟨?_,trivial⟩
  refine RunT.mT (v:=(.arr (u+1,44) 0 0 0)) (xv:=(.list false (names.map aL))) ae (names.map aL) rfl rfl (by simp[hh,e,j,o,d,f72,-aH]) (by simp[hh,e,j,o,d,f72,-aH]) (Sep.addEmpty (l:=[.c]) sp.var) (by simp) cy (by simp) (by simp) (by simp[dE]) (by simp[-ay,o1x]) (by simpa using bs) ?_
  rintro b2 N n174 sp X g8
  replace sp:Sep N n174 [oS b2 G,oI B t] [(u,14),(n1+3,10),(n1+2,7),(n1+1,6),(n1,5)]:=by refine Sep.ap bv ?_;exact sp
  have e:N (n1,5)=some ⟨6,[bC false redex]⟩:=(X _ (by simp)).trans (by simp[hh,e,j,o,d,ak.aP])
  have j:N (n1+1,6)=some ⟨6,[bC false agent]⟩:=(X _ (by simp)).trans (by simp[hh,e,j,o,d,ak.aP])
  have o:N (n1+2,7)=some ⟨2,[mC false m]⟩:=(X _ (by simp)).trans (by simp[hh,e,j,o,d,ak.aP])
  have d:N (n1+3,10)=some ⟨6,[zB]⟩:=(X _ (by simp)).trans (by simp[hh,e,j,o,d,ak.aP])
  have p:N (u,14)=some ⟨6,[zB]⟩:=(X _ (by simp)).trans (by simp[hh,e,j,o,d,ak.aP])
  refine⟨(fun _=>⟨e,j,o,d,(Sep.sub sp.dr (by simp +contextual))⟩),?_⟩
  refine⟨?_,trivial⟩
  have f186:=Sep.oc sp
  refine RunT.same (v:=(.agg [int C,.v (.slice none 0 0),.v (.slice none 0 0),int 0,b2,.v (.slice none 0 0)])) ae rfl rfl (by simp[hh,e,j,o,d,p,f72,f186,-ar,-aH,-ay,cAx,o1x]) (fun hl=>absurd (hl.symm.trans (show cU _ _ _=true by kernel_rfl)) (by decide)) ?_
  refine⟨?_,trivial⟩
  have f193:=Sep.oc sp
  refine RunT.step (v:=.undef) ae rfl rfl (by simp[hh,e,j,o,d,p,f72,f186,f193,-ar,-aH,-ay,cAx,o1x]<;>first | exact⟨rfl,rfl⟩ | exact rfl) (fun hl=>absurd (hl.symm.trans (show cU _ _ _=true by kernel_rfl)) (by decide)) ?_
  refine RunT.fin (by refine⟨b2,B,u,by simp[hh,e,j,o,d,p,f72,f186,f193,-ar,-aH,-ay,cAx,o1x],(Sep.bF (w:=(u,14)) sp (by simp))⟩)
 clear hh e j o d
 rintro ρ H g9 ⟨ao,b0,A,⟨hh,e,j,o,d,p⟩,sp⟩
 refine zE fun k' hk'=>?_
 obtain⟨el,h⟩:=h
 obtain⟨em,es,h⟩:=atm h
 simp[hh,e,j,o,d,p,av]
 refine aG.cd ae (Cv agent r9 true t false el) e98 (.cons (bg false agent) (.cons (aF.uv (fr:=true) (els:=r9.map av) (FE _)) (.cons (.v _ _ _) (.cons (Sep.bb sp.f1 (aS (by simp))) (.cons (.v _ _ _) .nil))))) sp (by decide) (by decide) rfl (by simp[hh,e,j,o,d,p,av]) ?_
 rintro v196 ha n198 _ sp rfl hb Y
 rw[← es] at sp
 have e:=(Y _ (by simp)).trans e
 have j:=(Y _ (by simp)).trans j
 have o:=(Y _ (by simp)).trans o
 have d:=(Y _ (by simp)).trans d
 have p:=(Y _ (by simp)).trans p
 have f203:=Sep.oc sp
 simp[hh,e,j,o,d,p,f203,av,-ar,-ay,cAx,o1x]
 apply hk'
 refine aa.cut (fun ρ H n=>∃ (a0 a1:ag),((ρ 5=pA n1 5∧ρ 6=pA (n1+1) 6∧ρ 7=pA (n1+2) 7∧ρ 10=pA (n1+3) 10∧ρ 11 = .list true (r9.map av)∧ρ 14 = .ptr (A,14) 1 0 0)∧H (n1,5)=some ⟨6,[bC false redex]⟩∧H (n1+1,6)=some ⟨6,[bC false agent]⟩∧H (n1+2,7)=some ⟨2,[mC false m]⟩∧H (n1+3,10)=some ⟨6,[zB]⟩∧H (A,14)=some ⟨6,[[int C,a0,.v (.slice none 0 0),int 0,a1,.v (.slice none 0 0)]]⟩)∧Sep H n [oN a0 em,oS a1 G] [(A,14),(n1+3,10),(n1+2,7),(n1+1,6),(n1,5)]) (by refine⟨v196,ao,by simp[hh,e,j,o,d,p,f203,av,-ar,-ay,cAx,o1x],(Sep.dr (Sep.f2 (Sep.bF (w:=(A,14)) sp (by simp))))⟩) ?_
 clear hh e j o d p
 rintro ρ H n206 ⟨a0,a1,⟨hh,e,j,o,d,p⟩,sp⟩
 refine zE fun k' hk'=>?_
 simp[hh,e,j,o,d,p,av]
 apply hk'
 refine aa.seq ?_
 refine zE fun k' hk'=>?_
 simp[hh,e,j,o,d,p,av]
 apply hk'
 refine aa.block ?_
 refine aa.aw h (fun (sJ:Int × Int × (List aj)) ρ H n=>match sJ with | (atV218,i219,E)=>∃ (O v222:ag),((ρ 5=pA n1 5∧ρ 6=pA (n1+1) 6∧ρ 7=pA (n1+2) 7∧ρ 10=pA (n1+3) 10∧ρ 11 = .list true (r9.map av)∧ρ 14 = .ptr (A,14) 1 0 0∧ρ 15=int atV218∧ρ 16=int i219)∧H (n1,5)=some ⟨6,[bC false redex]⟩∧H (n1+1,6)=some ⟨6,[bC false agent]⟩∧H (n1+2,7)=some ⟨2,[mC false m]⟩∧H (n1+3,10)=some ⟨6,[zB]⟩∧H (A,14)=some ⟨6,[[int C,O,.v (.slice none 0 0),int 0,v222,.v (.slice none 0 0)]]⟩)∧Sep H n [oN O E,oS v222 G] [(A,14),(n1+3,10),(n1+2,7),(n1+1,6),(n1,5)]) (by refine⟨a0,a1,by simp[hh,e,j,o,d,p,av],sp⟩) ?_
 clear hh e j o d p
 rintro⟨atV218,i219,E⟩ ρ H n223 K h ⟨O,v222,⟨hh,e,j,o,d,p⟩,sp⟩ b3
 refine aa.seq ?_
 refine zE fun k' hk'=>?_
 obtain⟨hc,ev,h⟩:=atm h
 have f227:=fun H=>ax (H:=H) (fr:=false) (f:=(aj.cells false)) bj ev
 obtain⟨ex,ey,h⟩:=atm h
 have f229:=aT (k:=.i64) ey
 simp[hh,e,j,o,d,p,f227,f229,av,-ai,-aH]
 apply hk'
 refine aa.ite (b:=ex) (by simp[hh,e,j,o,d,p,av]) (fun I=>?_) (fun I=>?_)
 ·replace h:=h.1 I
  refine aa.skip ?_
  refine aa.seq ?_
  refine aa.block ?_
  refine aa.seq ?_
  refine zE fun k' hk'=>?_
  obtain⟨e0,h⟩:=h
  obtain⟨b5,e1,h⟩:=atm h
  have f232:=fun H=>aE (H:=H) (fr:=true) (f:=av) (k:=.i64) nt (fun _=>rfl) e0 e1
  simp[hh,e,j,o,d,p,f232,I,av,-ah]
  apply hk'
  refine aa.ite (b:=(!b5)) (by simp[hh,e,j,o,d,p,I,av]) (fun dx231=>?_) (fun dx231=>?_)
  ·have dx231:b5=false:=by simpa using dx231
   replace h:=h.2 dx231
   refine aa.exit rfl ?_
   refine zF fun k' hk'=>?_
   obtain⟨e2,h⟩:=h
   obtain⟨v234,e3,h⟩:=atm h
   have f235:=aI e2 e3
   simp[hh,e,j,o,d,p,f235,I,dx231,av,-ai]
   apply hk'
   refine b3 (atV218,v234,E) _ _ _ h (by refine⟨O,v222,by simp[hh,e,j,o,d,p,I,dx231,av],sp⟩)
  have dx231:b5=true:=by simpa using dx231
  replace h:=h.1 dx231
  refine aa.skip ?_
  refine aa.seq ?_
  refine zE fun k' hk'=>?_
  obtain⟨e4,h⟩:=h
  obtain⟨b7,e7,h⟩:=atm h
  have f238:=fun H=>aE (H:=H) (fr:=false) (f:=(aj.cells false)) (k:=.i64) bj (fun _=>rfl) e4 e7
  simp[hh,e,j,o,d,p,f238,I,dx231,av,-ah]
  apply hk'
  refine aa.cut (fun ρ H n=>∃ (a2 R:ag),((ρ 5=pA n1 5∧ρ 6=pA (n1+1) 6∧ρ 7=pA (n1+2) 7∧ρ 10=pA (n1+3) 10∧ρ 11 = .list true (r9.map av)∧ρ 14 = .ptr (A,14) 1 0 0∧ρ 15=int atV218∧ρ 16=int i219∧ρ 17=int b7.parent)∧H (n1,5)=some ⟨6,[bC false redex]⟩∧H (n1+1,6)=some ⟨6,[bC false agent]⟩∧H (n1+2,7)=some ⟨2,[mC false m]⟩∧H (n1+3,10)=some ⟨6,[zB]⟩∧H (A,14)=some ⟨6,[[int C,a2,.v (.slice none 0 0),int 0,R,.v (.slice none 0 0)]]⟩)∧Sep H n [oN a2 E,oS R G] [(A,14),(n1+3,10),(n1+2,7),(n1+1,6),(n1,5)]) (by refine⟨O,v222,by simp[hh,e,j,o,d,p,f238,I,dx231,av,-ah],sp⟩) ?_
  clear hh e j o d p
  rintro ρ H n241 ⟨a2,R,⟨hh,e,j,o,d,p⟩,sp⟩
  refine zE fun k' hk'=>?_
  obtain⟨e8,h⟩:=h
  obtain⟨fd,fl,h⟩:=atm h
  simp[hh,e,j,o,d,p,av]
  refine aG.aB ae (jW m.nodes b7.parent e8) Dz (.cons (cY false m.nodes) (.cons (.v _ _ _) .nil)) (by decide) (by decide) rfl (by simp[hh,e,j,o,d,p,av]) ?_
  rintro _ rfl
  rw[← fl]
  simp[hh,e,j,o,d,p,av]
  apply hk'
  refine aa.ite (b:=fd) (by simp[hh,e,j,o,d,p,av]) (fun J=>?_) (fun J=>?_)
  ·replace h:=h.1 J
   refine aa.zC ae aD bU (by decide) (by kernel_rfl) fun k' hk'=>?_
   obtain⟨fn,h⟩:=h
   obtain⟨hd,fo,h⟩:=atm h
   simp[hh,e,j,o,d,p,J,av]
   refine bn.aB ae aD (Cu redex m b7.parent fn) I3 (.cons (bg false redex) (.cons (eY false m) (.cons (.v _ _ _) .nil))) (by decide) rfl (by simp[hh,e,j,o,d,p,J,av]) ?_
   rw[← fo]
   obtain⟨fs,h⟩:=h
   obtain⟨fz,f0,h⟩:=atm h
   have f248:=lP fs f0
   obtain⟨b8,h⟩:=h
   obtain⟨D,c2,h⟩:=atm h
   obtain⟨c3,he,hf,f4,b9,c4,c6,f5,f6,hg,hi,ab,a3,hj⟩:=Sep.Ej (q:=atV218.toNat) (f:=(aj.cells true)) sp b8 c2 rfl
   subst b9
   obtain⟨f7,c8,cc,b9⟩:=xq (by simpa using f6)
   subst b9
   replace a3:Sep _ _ [(.c,f7,int D.control),(.c,c8,int D.parent),(.s [.c],cc,.list true (D.links.map al))] f4:=a3
   obtain rfl:=Sep.cAt (K1:=[]) (K2:=[(.c,c8,int D.parent),(.s [.c],cc,.list true (D.links.map al))]) a3
   obtain rfl:=Sep.cAt (K1:=[(.c,int D.control,int D.control)]) (K2:=[(.s [.c],cc,.list true (D.links.map al))]) a3
   have f268:=cF (k:=.i64) (off:=0) (len:=E.length) bj c4 c6 rfl b8
   simp at ab
   obtain⟨ce,f8,h⟩:=atm h
   simp[hh,e,j,o,d,p,c4,c6,f5,ab,f248,f268,J,av,-ah,-ai,-bG]
   refine yK (i:=ty3) (q:=atV218.toNat) (off:=1) (ix:=atV218) (x:=D) (y:=(aj.mk D.control fz D.links)) (f:=(aj.cells true)) [.c] [.s [.c]] [int D.control] [.list true (D.links.map al)] sp rfl rfl b8 c2 rfl rfl rfl rfl rfl rfl rfl ?_
   rintro f9 sp ac
   replace sp:Sep f9 n241 [oN (.arr c3 E.length 0 E.length) ce,oS R G] [(A,14),(n1+3,10),(n1+2,7),(n1+1,6),(n1,5)]:=by rw[f8];exact sp
   have e:=(ac _ (by simp)).trans e
   have j:=(ac _ (by simp)).trans j
   have o:=(ac _ (by simp)).trans o
   have d:=(ac _ (by simp)).trans d
   have p:=(ac _ (by simp)).trans p
   simp[hh,e,j,o,d,p,ab,f248,f268,J,av,-ah,-ai]
   apply hk'
   refine aa.cut (fun ρ H n=>∃ (a4 a5:ag),((ρ 5=pA n1 5∧ρ 6=pA (n1+1) 6∧ρ 7=pA (n1+2) 7∧ρ 10=pA (n1+3) 10∧ρ 11 = .list true (r9.map av)∧ρ 14 = .ptr (A,14) 1 0 0∧ρ 15=int atV218∧ρ 16=int i219)∧H (n1,5)=some ⟨6,[bC false redex]⟩∧H (n1+1,6)=some ⟨6,[bC false agent]⟩∧H (n1+2,7)=some ⟨2,[mC false m]⟩∧H (n1+3,10)=some ⟨6,[zB]⟩∧H (A,14)=some ⟨6,[[int C,a4,.v (.slice none 0 0),int 0,a5,.v (.slice none 0 0)]]⟩)∧Sep H n [oN a4 ce,oS a5 G] [(A,14),(n1+3,10),(n1+2,7),(n1+1,6),(n1,5)]) (by refine⟨.arr c3 E.length 0 E.length,R,by simp[hh,e,j,o,d,p,ab,f248,f268,J,av,-ah,-ai],sp⟩) ?_
   clear hh e j o d p ab
   rintro ρ H n275 ⟨a4,a5,⟨hh,e,j,o,d,p⟩,sp⟩
   refine zF fun k' hk'=>?_
   obtain⟨gc,h⟩:=h
   obtain⟨gd,gg,h⟩:=atm h
   have f278:=aI gc gg
   simp[hh,e,j,o,d,p,f278,av,-ai]
   apply hk'
   refine aa.inBlock ?_
   refine zF fun k' hk'=>?_
   obtain⟨gi,h⟩:=h
   obtain⟨gj,go,h⟩:=atm h
   have f281:=aI gi go
   simp[hh,e,j,o,d,p,f281,av,-ai]
   apply hk'
   refine b3 (gd,gj,ce) _ _ _ h (by refine⟨a4,a5,by simp[hh,e,j,o,d,p,av],sp⟩)
  replace h:=h.2 J
  refine aa.skip ?_
  refine zF fun k' hk'=>?_
  obtain⟨gs,h⟩:=h
  obtain⟨gu,gv,h⟩:=atm h
  have f284:=aI gs gv
  simp[hh,e,j,o,d,p,f284,J,av,-ai]
  apply hk'
  refine aa.inBlock ?_
  refine zF fun k' hk'=>?_
  obtain⟨gw,h⟩:=h
  obtain⟨g0,g1,h⟩:=atm h
  have f287:=aI gw g1
  simp[hh,e,j,o,d,p,f287,J,av,-ai]
  apply hk'
  refine b3 (gu,g0,E) _ _ _ h (by refine⟨a2,R,by simp[hh,e,j,o,d,p,J,av],sp⟩)
 replace h:=h.2 I
 refine aa.exit rfl ?_
 refine zE fun k' hk'=>?_
 have f288:=Sep.oc sp
 have f289:=Sep.oc sp.f1
 simp[hh,e,j,o,d,p,f288,f289,I,av,-ar,-ay,cAx,o1x]
 apply hk'
 refine aa.cut (fun ρ H n=>∃ (a9 bd:ag),(ρ 10=pA (n1+3) 10∧H (n1+3,10)=some ⟨6,[[int C,a9,.v (.slice none 0 0),int 0,bd,.v (.slice none 0 0)]]⟩)∧Sep H n [oN a9 E,oS bd G] [(n1+3,10)]) (by refine⟨O,v222,by simp[hh,e,j,o,d,p,f288,f289,I,av,-ar,-ay,cAx,o1x],(Sep.sub (Sep.bF (w:=(n1+3,10)) sp (by simp)) (by simp +contextual))⟩) ?_
 clear hh e j o d p
 rintro ρ H n292 ⟨a9,bd,⟨hh,d⟩,sp⟩
 exact aa.yk ae (v:=.agg [int C,a9,.v (.slice none 0 0),int 0,bd,.v (.slice none 0 0)]) Tryz.func73 Tryz.results73 (by simp[hh,d,dO,av]) (hQ _ _ _ _ (Sep.sub (ids':=[]) (Sep.pack (az.v _ (az.own (az.own (az.v _ (az.own (az.own az.nil)))))) (Sep.f3 (Sep.f2 (Sep.f3 (Sep.cu (Sep.cu sp)))))) (by simp)) ⟨(Big.mk C E [] 0 G []),h,rfl⟩)
theorem BA (redex:Big) (agent:Big) (m:Match) (passed:List Int) (names:List Str) (hp:nq redex agent m passed names):a7 Tryz.prog 73 [.agg (bC false redex),.agg (bC false agent),.agg (mC false m),.list false (passed.map al),.list false (names.map aL)] (.a [.c,.s [.c,.c,.s [.c]],.s [.c],.c,.s [.c],.s [.c,.c]]) (fun r=>r = .agg [int ((ky redex agent m passed names).roots),.list true (((ky redex agent m passed names).nodes).map (aj.cells true)),.list true (((ky redex agent m passed names).sites).map al),int ((ky redex agent m passed names).edges),.list true (((ky redex agent m passed names).outer).map aL),.list true (((ky redex agent m passed names).inner).map aA.cells)]):=(w4 redex agent m passed names _ (BD redex agent m passed names hp)).mono (by rintro _ ⟨_,rfl,rfl⟩;rfl)
theorem e19:Ent Tryz.prog 19:=Ent.of Tryz.func19 (by kernel_rfl) rfl
theorem lG (sig:List Control) (redex:Big) (agent:Big) (m:Match) (Z:(Big × Bool)→Prop) (h:dD sig redex agent m Z):aq Tryz.prog 19 [.list false (sig.map Control.cells),.agg (bC false redex),.agg (bC false agent),.agg (mC false m)] (fun r=>∃ y:Big × Bool,Z y∧r = .tup [.agg (bC true y.1),bool y.2]):=by
 unfold dD at h
 refine aq.of Tryz.func19 rfl Tryz.ntmps19 (by simp) fun Q hQ=>?_
 refine aa.cut (fun ρ H n=>(ρ 0 = .list false (sig.map Control.cells)∧ρ 1 = .agg (bC false redex)∧ρ 2 = .agg (bC false agent)∧ρ 3 = .agg (mC false m))) (by simp) ?_
 rintro ρ H n1 hh
 refine zE fun k' hk'=>?_
 simp[hh]
 apply hk'
 refine aa.cut (fun ρ H n=>(ρ 0 = .list false (sig.map Control.cells)∧ρ 5=pA n1 5∧ρ 6=pA (n1+1) 6∧ρ 7=pA (n1+2) 7∧ρ 8=pA (n1+3) 8)∧H (n1,5)=some ⟨6,[bC false redex]⟩∧H (n1+1,6)=some ⟨6,[bC false agent]⟩∧H (n1+2,7)=some ⟨2,[mC false m]⟩∧H (n1+3,8)=some ⟨6,[zB]⟩) (by refine⟨?_,?_,?_,?_,?_⟩<;>simp[hh]) ?_
 clear hh
 rintro ρ H n6 ⟨hh,c,d,e,a⟩
 refine zE fun k' hk'=>?_
 obtain⟨hb7,h⟩:=h
 obtain⟨r8,er8,h⟩:=atm h
 simp[hh,c,d,e,a]
 refine aG.aB ae ((qw sig redex agent m hb7).pure) e71 (.cons (iR false sig) (.cons (bg false redex) (.cons (bg false agent) (.cons (eY false m) .nil)))) (by decide) (by decide) rfl (by simp[hh,c,d,e,a]) ?_
 rintro _ rfl
 rw[← er8]
 simp[hh,c,d,e,a]
 apply hk'
 refine aa.seq ?_
 refine zE fun k' hk'=>?_
 simp[hh,c,d,e,a]
 apply hk'
 refine aa.ite (b:=(!r8.2.2)) (by simp[hh,c,d,e,a]) (fun dr8_2_2=>?_) (fun dr8_2_2=>?_)
 ·have dr8_2_2:r8.2.2=false:=by simpa using dr8_2_2
  replace h:=h.2 dr8_2_2
  refine zE fun k' hk'=>?_
  simp[hh,c,d,e,a,dr8_2_2]
  apply hk'
  refine aa.cut (fun ρ H n=>(ρ 8=pA (n1+3) 8∧ρ 9=bool false)∧H (n1+3,8)=some ⟨6,[zB]⟩) (by refine⟨?_,?_⟩<;>simp[hh,c,d,e,a,dr8_2_2]) ?_
  clear hh c d e a
  rintro ρ H n9 ⟨hh,a⟩
  exact aa.tf ae (v:=.agg [int 0,.v (.slice none 0 0),.v (.slice none 0 0),int 0,.v (.slice none 0 0),.v (.slice none 0 0)]) (w:=bool false) Tryz.func19 Tryz.results19 (by simp[hh,a,dO]) (by simp[hh,a,dO]) (hQ _ _ _ _ (.of (.wo (.cons (.y6 (.cons (.v _) (.cons (.nil true) (.cons (.nil true) (.cons (.v _) (.cons (.nil true) (.cons (.nil true) .nil))))))) (.cons (.v _) .nil)))) ⟨((Big.mk 0 [] [] 0 [] []),false),h,rfl⟩)
 have dr8_2_2:r8.2.2=true:=by simpa using dr8_2_2
 replace h:=h.1 dr8_2_2
 refine aa.skip ?_
 refine zE fun k' hk'=>?_
 obtain⟨j,h⟩:=h
 obtain⟨i,l,h⟩:=atm h
 simp[hh,c,d,e,a,dr8_2_2]
 refine aG.aB ae ((BA redex agent m r8.1 r8.2.1 j).pure) e73 (.cons (bg false redex) (.cons (bg false agent) (.cons (eY false m) (.cons (cY true r8.1) (.cons (o6 true r8.2.1) .nil))))) (by decide) (by decide) rfl (by simp[hh,c,d,e,a,dr8_2_2]) ?_
 rintro _ rfl
 rw[← l]
 obtain⟨o,h⟩:=h
 obtain⟨g,p,h⟩:=atm h
 simp[hh,c,d,e,a,dr8_2_2]
 refine aG.GP (as1:=[.list false (sig.map Control.cells),.agg (bC true i)]) (bs:=[.list false (sig.map Control.cells),.agg (bC true i)]) ae (Cl sig i o) e72 (.cons (Sub.refl _) (.cons (Sub.refl _) .nil)) (by decide) (by decide) rfl (by simp[hh,c,d,e,a,dr8_2_2]) ?_
 rintro _ rfl
 rw[← p]
 simp[hh,c,d,e,a,dr8_2_2]
 apply hk'
 refine aa.cut (fun ρ H n=>(ρ 8=pA (n1+3) 8∧ρ 9=bool g.2)∧H (n1+3,8)=some ⟨6,[bC true g.1]⟩) (by refine⟨?_,?_⟩<;>simp[hh,c,d,e,a,dr8_2_2]) ?_
 clear hh c d e a
 rintro ρ H q ⟨hh,a⟩
 exact aa.tf ae (v:=.agg (bC true g.1)) (w:=bool g.2) Tryz.func19 Tryz.results19 (by simp[hh,a,dO]) (by simp[hh,a,dO]) (hQ _ _ _ _ (.of (.wo (.cons (.y6 (.cons (.v _) (.cons (.fresh (by simp)) (.cons (.fresh (by simp)) (.cons (.v _) (.cons (.fresh (by simp)) (.cons (.fresh (by simp)) .nil))))))) (.cons (.v _) .nil)))) ⟨(g.1,g.2),h,rfl⟩)
theorem od (sig:List Control) (redex:Big) (agent:Big) (m:Match) (hp:eu sig redex agent m):aq Tryz.prog 19 [.list false (sig.map Control.cells),.agg (bC false redex),.agg (bC false agent),.agg (mC false m)] (fun r=>r = .tup [.agg [int (((bD sig redex agent m).1).roots),.list true ((((bD sig redex agent m).1).nodes).map (aj.cells true)),.list true ((((bD sig redex agent m).1).sites).map al),int (((bD sig redex agent m).1).edges),.list true ((((bD sig redex agent m).1).outer).map aL),.list true ((((bD sig redex agent m).1).inner).map aA.cells)],bool ((bD sig redex agent m).2)]):=(lG sig redex agent m _ (nL sig redex agent m hp)).mono (by rintro _ ⟨_,rfl,rfl⟩;rfl)
end Go.Ab.Vg
/- Walks by program for YtbikfokhjdjfpaaGreatDoorAbNg. -/
namespace Go.Ab.Vg
open Go.Proofs
set_option maxRecDepth 100000
set_option linter.unusedSimpArgs false
set_option linter.unusedVariables false
attribute [local simp] Control.cells aj.cells aA.cells al gp aL bC mC pA zB
theorem e4:Ent Tryz.prog 4:=Ent.of Tryz.func4 (by kernel_rfl) rfl
set_option maxHeartbeats 4000000 in
theorem xO (aSig:List Control) (aRedex:Big) (aAgent:Big) (aM:Match) (Z:Bool→Prop) (h:mZ aSig aRedex aAgent aM Z):aq Tryz.prog 4 [.list false (aSig.map Control.cells),.agg (bC false aRedex),.agg (bC false aAgent),.agg (mC false aM)] (fun r=>∃ y:Bool,Z y∧r=bool y):=by
 unfold mZ at h
 have sp:Sep bc 0 [] []:=Sep.nil (by simp)
 refine aq.of Tryz.func4 rfl Tryz.ntmps4 (by simp) fun Q hQ=>?_
 refine aa.cut (fun ρ H n=>(ρ 0 = .list false (aSig.map Control.cells)∧ρ 1 = .agg (bC false aRedex)∧ρ 2 = .agg (bC false aAgent)∧ρ 3 = .agg (mC false aM))∧Sep H n [] []) (by refine⟨by simp ,sp⟩) ?_
 rintro ρ H n1 ⟨hh,sp⟩
 refine zE fun k' hk'=>?_
 simp[hh]
 apply hk'
 refine aa.cut (fun ρ H n=>((ρ 0 = .list false (aSig.map Control.cells)∧ρ 5=pA n1 5∧ρ 6=pA (n1+1) 6∧ρ 7=pA (n1+2) 7)∧H (n1,5)=some ⟨6,[bC false aRedex]⟩∧H (n1+1,6)=some ⟨6,[bC false aAgent]⟩∧H (n1+2,7)=some ⟨2,[mC false aM]⟩)∧Sep H n [] [(n1+2,7),(n1+1,6),(n1,5)]) (by refine⟨by simp[hh],sp.var.var.var⟩) ?_
 clear hh
 rintro ρ H n5 ⟨⟨hh,e,g,j⟩,sp⟩
 refine zE fun k' hk'=>?_
 simp[hh,e,g,j]
 apply hk'
 refine zE fun k' hk'=>?_
 obtain⟨hb6,h⟩:=h
 obtain⟨r7,er7,h⟩:=atm h
 simp[hh,e,g,j]
 refine aG.aB ae (tz aSig 1048576 hb6.1.1 hb6.1.2 hb6.2.len hb6.2.names) e7 (.cons (iR false aSig) (.cons (.v _ _ _) .nil)) (by decide) (by decide) rfl (by simp[hh,e,g,j]) ?_
 rintro _ rfl
 rw[← er7]
 simp[hh,e,g,j]
 apply hk'
 refine aa.seq ?_
 refine zE fun k' hk'=>?_
 obtain⟨c8,ec8,h⟩:=atm h
 have f9:=aT (k:=.i64) ec8
 simp[hh,e,g,j,f9,-ai]
 apply hk'
 refine aa.ite (b:=c8) (by simp[hh,e,g,j]) (fun dc8=>?_) (fun dc8=>?_)
 ·replace h:=h.1 dc8
  refine zE fun k' hk'=>?_
  simp[hh,e,g,j,dc8]
  apply hk'
  exact aa.aV (v:=bool true) Tryz.func4 Tryz.results4 (by simp[hh,e,g,j,dc8]) (hQ _ _ _ _ (.of (.v _)) ⟨true,h,rfl⟩)
 replace h:=h.2 dc8
 refine aa.skip ?_
 refine zE fun k' hk'=>?_
 obtain⟨i7,h⟩:=h
 obtain⟨ms,mt,h⟩:=atm h
 simp[hh,e,g,j,dc8]
 refine aG.aB ae (oK aRedex r7 i7.1.1 i7.1.2 i7.2) e8 (.cons (bg false aRedex) (.cons (.v _ _ _) .nil)) (by decide) (by decide) rfl (by simp[hh,e,g,j,dc8]) ?_
 rintro _ rfl
 rw[← mt]
 simp[hh,e,g,j,dc8]
 apply hk'
 refine aa.seq ?_
 refine zE fun k' hk'=>?_
 obtain⟨mu,mv,h⟩:=atm h
 have f13:=aT (k:=.i64) mv
 simp[hh,e,g,j,f13,dc8,-ai]
 apply hk'
 refine aa.ite (b:=mu) (by simp[hh,e,g,j,dc8]) (fun an=>?_) (fun an=>?_)
 ·replace h:=h.1 an
  refine zE fun k' hk'=>?_
  simp[hh,e,g,j,dc8,an]
  apply hk'
  exact aa.aV (v:=bool true) Tryz.func4 Tryz.results4 (by simp[hh,e,g,j,dc8,an]) (hQ _ _ _ _ (.of (.v _)) ⟨true,h,rfl⟩)
 replace h:=h.2 an
 refine aa.skip ?_
 refine zE fun k' hk'=>?_
 obtain⟨i8,h⟩:=h
 obtain⟨lb,mx,h⟩:=atm h
 simp[hh,e,g,j,dc8,an]
 refine aG.aB ae (oK aAgent ms i8.1.1 i8.1.2 i8.2) e8 (.cons (bg false aAgent) (.cons (.v _ _ _) .nil)) (by decide) (by decide) rfl (by simp[hh,e,g,j,dc8,an]) ?_
 rintro _ rfl
 rw[← mx]
 simp[hh,e,g,j,dc8,an]
 apply hk'
 refine aa.cut (fun ρ H n=>((ρ 0 = .list false (aSig.map Control.cells)∧ρ 5=pA n1 5∧ρ 6=pA (n1+1) 6∧ρ 7=pA (n1+2) 7∧ρ 9=int lb)∧H (n1,5)=some ⟨6,[bC false aRedex]⟩∧H (n1+1,6)=some ⟨6,[bC false aAgent]⟩∧H (n1+2,7)=some ⟨2,[mC false aM]⟩)∧Sep H n [] [(n1+2,7),(n1+1,6),(n1,5)]) (by refine⟨by simp[hh,e,g,j,dc8,an],sp⟩) ?_
 clear hh e g j
 rintro ρ H n16 ⟨⟨hh,e,g,j⟩,sp⟩
 refine aa.seq ?_
 refine zE fun k' hk'=>?_
 obtain⟨m1,m2,h⟩:=atm h
 have f18:=aT (k:=.i64) m2
 simp[hh,e,g,j,f18,-ai]
 apply hk'
 refine aa.ite (b:=m1) (by simp[hh,e,g,j]) (fun V=>?_) (fun V=>?_)
 ·replace h:=h.1 V
  refine zE fun k' hk'=>?_
  simp[hh,e,g,j,V]
  apply hk'
  exact aa.aV (v:=bool true) Tryz.func4 Tryz.results4 (by simp[hh,e,g,j,V]) (hQ _ _ _ _ (.of (.v _)) ⟨true,h,rfl⟩)
 replace h:=h.2 V
 refine aa.skip ?_
 refine zE fun k' hk'=>?_
 obtain⟨m3,h⟩:=h
 obtain⟨ws,m4,h⟩:=atm h
 simp[hh,e,g,j,V]
 refine aG.aB ae (Gj aM lb m3) e18 (.cons (eY false aM) (.cons (.v _ _ _) .nil)) (by decide) (by decide) rfl (by simp[hh,e,g,j,V]) ?_
 rintro _ rfl
 rw[← m4]
 simp[hh,e,g,j,V]
 apply hk'
 refine aa.seq ?_
 refine zE fun k' hk'=>?_
 obtain⟨ni,nj,h⟩:=atm h
 have f22:=aT (k:=.i64) nj
 simp[hh,e,g,j,f22,V,-ai]
 apply hk'
 refine aa.ite (b:=ni) (by simp[hh,e,g,j,V]) (fun bv=>?_) (fun bv=>?_)
 ·replace h:=h.1 bv
  refine zE fun k' hk'=>?_
  simp[hh,e,g,j,V,bv]
  apply hk'
  exact aa.aV (v:=bool true) Tryz.func4 Tryz.results4 (by simp[hh,e,g,j,V,bv]) (hQ _ _ _ _ (.of (.v _)) ⟨true,h,rfl⟩)
 replace h:=h.2 bv
 refine aa.skip ?_
 refine aa.cut (fun ρ H n=>((ρ 0 = .list false (aSig.map Control.cells)∧ρ 5=pA n1 5∧ρ 6=pA (n1+1) 6∧ρ 7=pA (n1+2) 7)∧H (n1,5)=some ⟨6,[bC false aRedex]⟩∧H (n1+1,6)=some ⟨6,[bC false aAgent]⟩∧H (n1+2,7)=some ⟨2,[mC false aM]⟩)∧Sep H n [] [(n1+2,7),(n1+1,6),(n1,5)]) (by refine⟨by simp[hh,e,g,j,V,bv],sp⟩) ?_
 clear hh e g j
 rintro ρ H n23 ⟨⟨hh,e,g,j⟩,sp⟩
 obtain⟨nl,h⟩:=h
 obtain⟨hj,ns,h⟩:=atm h
 obtain⟨n2,h⟩:=h
 obtain⟨hk,n3,h⟩:=atm h
 obtain⟨n4,h⟩:=h
 obtain⟨hl,n6,h⟩:=atm h
 obtain⟨n7,h⟩:=h
 obtain⟨hm,n8,h⟩:=atm h
 obtain⟨n9,h⟩:=h
 obtain⟨E,oa,h⟩:=atm h
 have hid35:=sp.1
 refine aa.seq (aa.A4 (Reg.Inv { m:=15,c:=8,a:=12,st:=13,d:=10,B:=[(0,.list false (aSig.map Control.cells)),(5,pA n1 5),(6,pA (n1+1) 6),(7,pA (n1+2) 7)],F:=fun GI AI=>[(0,44,.list false (aSig.map Control.cells)),(1,45,.list true (hj.map Control.cells)),(2,46,.agg (bC false aRedex)),(3,47,.agg (bC true hk)),(4,48,.agg (bC false aAgent)),(5,49,.agg (bC true hl)),(6,50,.agg (mC false aM)),(7,51,.agg (mC true hm)),(8,52,.tup [.agg (bC true E.1),bool E.2]),(9,43,.tup [.agg (bC true E.1),bool E.2]),(10,53,.agg (bC true E.1)),(11,54,bool E.2),(12,10,.ptr (AI,10) 1 0 0),(14,11,bool E.2)],ent:=fun GI=>[],ob0:=⟨6,[zB]⟩,ob1:=fun GI=>⟨6,[bC true E.1]⟩,RG:=fun GI=>True,onC:=[9,10,11,13,14],onA:=[13,14],H0:=H,n0:=n23,K:=[],ids:=[(n1+2,7),(n1+1,6),(n1,5)] }) bU (by decide) (Reg.init (Old.cons hh.1 (Old.cons hh.2.1 (Old.cons hh.2.2.1 (Old.cons hh.2.2.2 Old.nil)))) sp) ?_ ?_)
 ·rintro (_ | _ | _ | _ | _ | _ | _ | _ | _ | _ | _ | _ | _ | _ | _ | i)
  ·exact Reg.det (i:=0) rfl rfl rfl rfl (fun L' ρ' H' n' G' A' hO hT hd hG hcl hfr sp=>⟨.list false (aSig.map Control.cells),aJ ae (by rw[aC];have t0:=hO.at 0 rfl;simp[t0]),by simp⟩)
  ·exact Reg.det (i:=1) rfl rfl rfl rfl (fun L' ρ' H' n' G' A' hO hT hd hG hcl hfr sp=>⟨_,by have t44:=hT.at 0 rfl (hd ⟨0,.data⟩ (by simp) rfl);exact aN.jB (xs:=[.list false (aSig.map Control.cells)]) ((ew aSig nl).pure) e10 (.cons (iR false aSig) .nil) (by simp[t44]) (by simp[t44]),by simp[ns]⟩)
  ·exact Reg.det (i:=2) rfl rfl rfl rfl (fun L' ρ' H' n' G' A' hO hT hd hG hcl hfr sp=>⟨.agg (bC false aRedex),aJ ae (by rw[aC];have t5:=hO.at 1 rfl;have mm5_1:=(hfr (n1,5) (by simp)).trans e;simp[t5,mm5_1]),by simp⟩)
  ·exact Reg.det (i:=3) rfl rfl rfl rfl (fun L' ρ' H' n' G' A' hO hT hd hG hcl hfr sp=>⟨_,by have t46:=hT.at 2 rfl (hd ⟨2,.data⟩ (by simp) rfl);exact aN.jB (xs:=[.agg (bC false aRedex)]) ((cE aRedex n2).pure) e11 (.cons (bg false aRedex) .nil) (by simp[t46]) (by simp[t46]),by simp[n3]⟩)
  ·exact Reg.det (i:=4) rfl rfl rfl rfl (fun L' ρ' H' n' G' A' hO hT hd hG hcl hfr sp=>⟨.agg (bC false aAgent),aJ ae (by rw[aC];have t6:=hO.at 2 rfl;have mm6_2:=(hfr (n1+1,6) (by simp)).trans g;simp[t6,mm6_2]),by simp⟩)
  ·exact Reg.det (i:=5) rfl rfl rfl rfl (fun L' ρ' H' n' G' A' hO hT hd hG hcl hfr sp=>⟨_,by have t48:=hT.at 4 rfl (hd ⟨4,.data⟩ (by simp) rfl);exact aN.jB (xs:=[.agg (bC false aAgent)]) ((cE aAgent n4).pure) e11 (.cons (bg false aAgent) .nil) (by simp[t48]) (by simp[t48]),by simp[n6]⟩)
  ·exact Reg.det (i:=6) rfl rfl rfl rfl (fun L' ρ' H' n' G' A' hO hT hd hG hcl hfr sp=>⟨.agg (mC false aM),aJ ae (by rw[aC];have t7:=hO.at 3 rfl;have mm7_3:=(hfr (n1+2,7) (by simp)).trans j;simp[t7,mm7_3]),by simp⟩)
  ·exact Reg.det (i:=7) rfl rfl rfl rfl (fun L' ρ' H' n' G' A' hO hT hd hG hcl hfr sp=>⟨_,by have t50:=hT.at 6 rfl (hd ⟨6,.data⟩ (by simp) rfl);exact aN.jB (xs:=[.agg (mC false aM)]) ((kr aM n7).pure) e20 (.cons (eY false aM) .nil) (by simp[t50]) (by simp[t50]),by simp[n8]⟩)
  ·exact Reg.yd rfl rfl rfl (fun _=>rfl) (fun _=>trivial) (fun L' ρ' H' n' G' A' hO hT hd hfr sp=>⟨_,by have t45:=hT.at 1 rfl (hd ⟨1,.data⟩ (by simp) rfl);have t47:=hT.at 3 rfl (hd ⟨3,.data⟩ (by simp) rfl);have t49:=hT.at 5 rfl (hd ⟨5,.data⟩ (by simp) rfl);have t51:=hT.at 7 rfl (hd ⟨7,.data⟩ (by simp) rfl);exact aN.jB (xs:=[.list true (hj.map Control.cells),.agg (bC true hk),.agg (bC true hl),.agg (mC true hm)]) (od hj hk hl hm n9) e19 (.cons (iR true hj) (.cons (bg true hk) (.cons (bg true hl) (.cons (eY true hm) .nil)))) (by simp[t45,t47,t49,t51]) (by simp[t45,t47,t49,t51]),by simp[oa]⟩)
  ·exact Reg.det (i:=9) rfl rfl rfl rfl (fun L' ρ' H' n' G' A' hO hT hd hG hcl hfr sp=>⟨.tup [.agg (bC true E.1),bool E.2],aJ ae (by rw[aC];have t52:=hT.at 8 rfl (hd ⟨8,.data⟩ (by simp) rfl);simp[t52]),by simp⟩) (hc:=fun _=>⟨⟨8,.data⟩,by simp,rfl,by simp⟩)
  ·exact Reg.det (i:=10) rfl rfl rfl rfl (fun L' ρ' H' n' G' A' hO hT hd hG hcl hfr sp=>⟨.agg (bC true E.1),aJ ae (by rw[aC];have t43:=hT.at 9 rfl (hd ⟨9,.data⟩ (by simp) rfl);simp[t43]),by simp⟩) (hc:=fun _=>⟨⟨9,.data⟩,by simp,rfl,by simp⟩)
  ·exact Reg.det (i:=11) rfl rfl rfl rfl (fun L' ρ' H' n' G' A' hO hT hd hG hcl hfr sp=>⟨bool E.2,aJ ae (by rw[aC];have t43:=hT.at 9 rfl (hd ⟨9,.data⟩ (by simp) rfl);simp[t43]),by simp⟩) (hc:=fun _=>⟨⟨9,.data⟩,by simp,rfl,by simp⟩)
  ·exact Reg.alloc ae rfl pY rfl rfl rfl
  ·exact Reg.store ae rfl rfl rfl hid35 ⟨⟨10,.data⟩,by simp,rfl,by simp⟩ ⟨⟨12,.data⟩,by simp,rfl,by simp⟩ (fun L' ρ' H' G' A' hO hT hd hG hw=>by have t10:=hT.at 12 rfl (hd ⟨12,.data⟩ (by simp) rfl);have t53:=hT.at 10 rfl (hd ⟨10,.data⟩ (by simp) rfl);simp[t10,t53,hw,pY,-ay,vB,qD,vJ,uT,qK,vT,vI])
  ·exact Reg.det (i:=14) rfl rfl rfl rfl (fun L' ρ' H' n' G' A' hO hT hd hG hcl hfr sp=>⟨bool E.2,aJ ae (by rw[aC];have t54:=hT.at 11 rfl (hd ⟨11,.data⟩ (by simp) rfl);simp[t54]),by simp⟩) (hc:=fun _=>⟨⟨11,.data⟩,by simp,rfl,by simp⟩) (ha:=fun _=>⟨⟨13,.chain⟩,by simp,rfl,by simp⟩)
  ·exact jV.none (by simp)
 ·rintro L' ⟨ρ,H,n38⟩ hI hr
  obtain⟨wt,A,hO,hT,hG,sp,i9,hn0_,hA_,l⟩:=Reg.fin (by kernel_rfl) rfl (show (8:Nat)<15∧(12:Nat)<15∧(13:Nat)<15 by decide) (by intro G' A';simp) hI hr
  show aa _ _ _ _ ρ H n38 _
  replace hO:Old ρ _:=hO
  replace hT:zK ρ _:=hT
  clear hh
  have h0:=hO.at 0 rfl
  have h5:=hO.at 1 rfl
  have h6:=hO.at 2 rfl
  have h7:=hO.at 3 rfl
  have h44:=hT.at 0 rfl
  have h45:=hT.at 1 rfl
  have h46:=hT.at 2 rfl
  have h47:=hT.at 3 rfl
  have h48:=hT.at 4 rfl
  have h49:=hT.at 5 rfl
  have h50:=hT.at 6 rfl
  have h51:=hT.at 7 rfl
  have h52:=hT.at 8 rfl
  have h43:=hT.at 9 rfl
  have h53:=hT.at 10 rfl
  have h54:=hT.at 11 rfl
  have h10:=hT.at 12 rfl
  have h11:=hT.at 13 rfl
  have j:H (n1+2,7)=some ⟨2,[mC false aM]⟩:=(i9 (n1+2,7) (by simp)).trans j
  have g:H (n1+1,6)=some ⟨6,[bC false aAgent]⟩:=(i9 (n1+1,6) (by simp)).trans g
  have e:H (n1,5)=some ⟨6,[bC false aRedex]⟩:=(i9 (n1,5) (by simp)).trans e
  have l:H (A,10)=some ⟨6,[bC true E.1]⟩:=l
  replace sp:Sep H n38 [] [(A,10),(n1+2,7),(n1+1,6),(n1,5)]:=sp
  refine aa.cut (fun ρ H n=>((ρ 0 = .list false (aSig.map Control.cells)∧ρ 5=pA n1 5∧ρ 6=pA (n1+1) 6∧ρ 7=pA (n1+2) 7∧ρ 10 = .ptr (A,10) 1 0 0∧ρ 11=bool E.2)∧H (n1,5)=some ⟨6,[bC false aRedex]⟩∧H (n1+1,6)=some ⟨6,[bC false aAgent]⟩∧H (n1+2,7)=some ⟨2,[mC false aM]⟩∧H (A,10)=some ⟨6,[bC true E.1]⟩)∧Sep H n [] [(A,10),(n1+2,7),(n1+1,6),(n1,5)]) (by refine⟨by simp[e,g,j,l,h0,h5,h6,h7,h44,h45,h46,h47,h48,h49,h50,h51,h52,h43,h53,h54,h10,h11],sp⟩) ?_
  clear e g j l h0 h5 h6 h7 h44 h45 h46 h47 h48 h49 h50 h51 h52 h43 h53 h54 h10 h11
  rintro ρ H ww ⟨⟨hh,e,g,j,l⟩,sp⟩
  refine zE fun k' hk'=>?_
  obtain⟨ob,h⟩:=h
  obtain⟨X,oi,h⟩:=atm h
  simp[hh,e,g,j,l]
  refine aG.cd ae (ew aSig ob) e10 (.cons (iR false aSig) .nil) sp (by decide) (by decide) rfl (by simp[hh,e,g,j,l]) ?_
  rintro oj w1 w2 _ sp rfl xa hn
  rw[← oi] at sp
  have e:=(hn _ (by simp)).trans e
  have g:=(hn _ (by simp)).trans g
  have j:=(hn _ (by simp)).trans j
  have l:=(hn _ (by simp)).trans l
  simp[hh,e,g,j,l]
  apply hk'
  refine aa.cut (fun ρ H n=>∃ (ho:ag),((ρ 0 = .list false (aSig.map Control.cells)∧ρ 5=pA n1 5∧ρ 6=pA (n1+1) 6∧ρ 7=pA (n1+2) 7∧ρ 10 = .ptr (A,10) 1 0 0∧ρ 11=bool E.2∧ρ 12=ho)∧H (n1,5)=some ⟨6,[bC false aRedex]⟩∧H (n1+1,6)=some ⟨6,[bC false aAgent]⟩∧H (n1+2,7)=some ⟨2,[mC false aM]⟩∧H (A,10)=some ⟨6,[bC true E.1]⟩)∧Sep H n [oE [.c,.c,.c] Control.cells ho X] [(A,10),(n1+2,7),(n1+1,6),(n1,5)]) (by refine⟨oj,by simp[hh,e,g,j,l],sp⟩) ?_
  clear hh e g j l
  rintro ρ H xv ⟨ho,⟨hh,e,g,j,l⟩,sp⟩
  refine zE fun k' hk'=>?_
  obtain⟨ok,h⟩:=h
  obtain⟨D,ol,h⟩:=atm h
  simp[hh,e,g,j,l]
  refine aG.cd ae (cE aRedex ok) e11 (.cons (bg false aRedex) .nil) sp (by decide) (by decide) rfl (by simp[hh,e,g,j,l]) ?_
  rintro x0 x1 M _ sp rfl x2 hp
  rw[← ol] at sp
  have e:=(hp _ (by simp)).trans e
  have g:=(hp _ (by simp)).trans g
  have j:=(hp _ (by simp)).trans j
  have l:=(hp _ (by simp)).trans l
  replace sp:=Sep.unpack sp
  obtain⟨L66,hv,op,sp⟩:=sp
  subst hv
  obtain⟨x3,os,o0,x4,o1,o2,hv⟩:=cK (by simpa using op)
  subst hv
  simp only[dp,List.cons_append,List.nil_append] at sp
  replace sp:=Sep.scalar sp
  obtain⟨hv,sp⟩:=sp
  subst hv
  replace sp:=Sep.rot sp
  try simp only[List.cons_append,List.nil_append,List.append_assoc] at sp
  replace sp:=Sep.rot sp
  try simp only[List.cons_append,List.nil_append,List.append_assoc] at sp
  replace sp:=Sep.scalar sp
  obtain⟨hv,sp⟩:=sp
  subst hv
  replace sp:=Sep.rot sp
  try simp only[List.cons_append,List.nil_append,List.append_assoc] at sp
  replace sp:=Sep.rot sp
  try simp only[List.cons_append,List.nil_append,List.append_assoc] at sp
  have f73:=Sep.oc sp.f1
  have f74:=Sep.oc sp.f2
  have f75:=Sep.oc sp.f3
  have f76:=Sep.oc sp.f4
  simp[hh,e,g,j,l,f73,f74,f75,f76,-ar,-ay,cAx,o1x]
  apply hk'
  refine aa.cut (fun ρ H n=>∃ (hq hs ht hu hx:ag),((ρ 0 = .list false (aSig.map Control.cells)∧ρ 5=pA n1 5∧ρ 6=pA (n1+1) 6∧ρ 7=pA (n1+2) 7∧ρ 10 = .ptr (A,10) 1 0 0∧ρ 11=bool E.2∧ρ 12=hq∧ρ 13=pA M 13)∧H (n1,5)=some ⟨6,[bC false aRedex]⟩∧H (n1+1,6)=some ⟨6,[bC false aAgent]⟩∧H (n1+2,7)=some ⟨2,[mC false aM]⟩∧H (A,10)=some ⟨6,[bC true E.1]⟩∧H (M,13)=some ⟨6,[[int D.roots,hs,ht,int D.edges,hu,hx]]⟩)∧Sep H n [oE [.c,.c,.c] Control.cells hq X,oN hs D.nodes,oI ht D.sites,oS hu D.outer,oW hx D.inner] [(M,13),(A,10),(n1+2,7),(n1+1,6),(n1,5)]) (by refine⟨ho,os,o0,o1,o2,by simp[hh,e,g,j,l,f73,f74,f75,f76,-ar,-ay,cAx,o1x],sp.var⟩) ?_
  clear hh e g j l
  rintro ρ H x5 ⟨hq,hs,ht,hu,hx,⟨hh,e,g,j,l,q⟩,sp⟩
  refine zE fun k' hk'=>?_
  obtain⟨pa,h⟩:=h
  obtain⟨C,pb,h⟩:=atm h
  simp[hh,e,g,j,l,q]
  refine aG.cd ae (cE aAgent pa) e11 (.cons (bg false aAgent) .nil) sp (by decide) (by decide) rfl (by simp[hh,e,g,j,l,q]) ?_
  rintro v85 x6 L _ sp rfl x7 co
  rw[← pb] at sp
  have e:=(co _ (by simp)).trans e
  have g:=(co _ (by simp)).trans g
  have j:=(co _ (by simp)).trans j
  have l:=(co _ (by simp)).trans l
  have q:=(co _ (by simp)).trans q
  replace sp:=Sep.unpack sp
  obtain⟨L97,hv,pc,sp⟩:=sp
  subst hv
  obtain⟨v91,pi,v93,x8,pl,pm,hv⟩:=cK (by simpa using pc)
  subst hv
  simp only[dp,List.cons_append,List.nil_append] at sp
  replace sp:=Sep.scalar sp
  obtain⟨hv,sp⟩:=sp
  subst hv
  replace sp:=Sep.rot sp
  try simp only[List.cons_append,List.nil_append,List.append_assoc] at sp
  replace sp:=Sep.rot sp
  try simp only[List.cons_append,List.nil_append,List.append_assoc] at sp
  replace sp:=Sep.scalar sp
  obtain⟨hv,sp⟩:=sp
  subst hv
  replace sp:=Sep.rot sp
  try simp only[List.cons_append,List.nil_append,List.append_assoc] at sp
  replace sp:=Sep.rot sp
  try simp only[List.cons_append,List.nil_append,List.append_assoc] at sp
  have f104:=Sep.oc sp.f5
  have f105:=Sep.oc sp.f6
  have f106:=Sep.oc sp.f7
  have f107:=Sep.oc sp.f8
  simp[hh,e,g,j,l,q,f104,f105,f106,f107,-ar,-ay,cAx,o1x]
  apply hk'
  refine aa.cut (fun ρ H n=>∃ (hy v109 hz hA hB hD hE hF hH:ag),((ρ 0 = .list false (aSig.map Control.cells)∧ρ 5=pA n1 5∧ρ 6=pA (n1+1) 6∧ρ 7=pA (n1+2) 7∧ρ 10 = .ptr (A,10) 1 0 0∧ρ 11=bool E.2∧ρ 12=hy∧ρ 13=pA M 13∧ρ 14=pA L 14)∧H (n1,5)=some ⟨6,[bC false aRedex]⟩∧H (n1+1,6)=some ⟨6,[bC false aAgent]⟩∧H (n1+2,7)=some ⟨2,[mC false aM]⟩∧H (A,10)=some ⟨6,[bC true E.1]⟩∧H (M,13)=some ⟨6,[[int D.roots,v109,hz,int D.edges,hA,hB]]⟩∧H (L,14)=some ⟨6,[[int C.roots,hD,hE,int C.edges,hF,hH]]⟩)∧Sep H n [oE [.c,.c,.c] Control.cells hy X,oN v109 D.nodes,oI hz D.sites,oS hA D.outer,oW hB D.inner,oN hD C.nodes,oI hE C.sites,oS hF C.outer,oW hH C.inner] [(L,14),(M,13),(A,10),(n1+2,7),(n1+1,6),(n1,5)]) (by refine⟨hq,hs,ht,hu,hx,pi,v93,pl,pm,by simp[hh,e,g,j,l,q,f104,f105,f106,f107,-ar,-ay,cAx,o1x],sp.var⟩) ?_
  clear hh e g j l q
  rintro ρ H n117 ⟨hy,v109,hz,hA,hB,hD,hE,hF,hH,⟨hh,e,g,j,l,q,t⟩,sp⟩
  refine zE fun k' hk'=>?_
  obtain⟨pp,h⟩:=h
  obtain⟨N,ps,h⟩:=atm h
  simp[hh,e,g,j,l,q,t]
  refine aG.cd ae (kr aM pp) e20 (.cons (eY false aM) .nil) sp (by decide) (by decide) rfl (by simp[hh,e,g,j,l,q,t]) ?_
  rintro x9 ys n122 _ sp rfl y0 b0
  rw[← ps] at sp
  have e:=(b0 _ (by simp)).trans e
  have g:=(b0 _ (by simp)).trans g
  have j:=(b0 _ (by simp)).trans j
  have l:=(b0 _ (by simp)).trans l
  have q:=(b0 _ (by simp)).trans q
  have t:=(b0 _ (by simp)).trans t
  replace sp:=Sep.unpack sp
  obtain⟨L128,hv,pu,sp⟩:=sp
  subst hv
  obtain⟨px,v127,hv⟩:=cf (by simpa using pu)
  subst hv
  simp only[dp,List.cons_append,List.nil_append] at sp
  replace sp:=Sep.rot sp
  try simp only[List.cons_append,List.nil_append,List.append_assoc] at sp
  replace sp:=Sep.rot sp
  try simp only[List.cons_append,List.nil_append,List.append_assoc] at sp
  have f133:=Sep.oc sp.f9
  have f134:=Sep.oc sp.f10
  simp[hh,e,g,j,l,q,t,f133,f134,-ar,-ay,cAx,o1x]
  apply hk'
  refine aa.cut (fun ρ H n=>∃ (hJ hK hL v138 v139 hM v141 hN v143 hP v145:ag),((ρ 0 = .list false (aSig.map Control.cells)∧ρ 5=pA n1 5∧ρ 6=pA (n1+1) 6∧ρ 7=pA (n1+2) 7∧ρ 10 = .ptr (A,10) 1 0 0∧ρ 11=bool E.2∧ρ 12=hJ∧ρ 13=pA M 13∧ρ 14=pA L 14∧ρ 15=pA n122 15)∧H (n1,5)=some ⟨6,[bC false aRedex]⟩∧H (n1+1,6)=some ⟨6,[bC false aAgent]⟩∧H (n1+2,7)=some ⟨2,[mC false aM]⟩∧H (A,10)=some ⟨6,[bC true E.1]⟩∧H (M,13)=some ⟨6,[[int D.roots,hK,hL,int D.edges,v138,v139]]⟩∧H (L,14)=some ⟨6,[[int C.roots,hM,v141,int C.edges,hN,v143]]⟩∧H (n122,15)=some ⟨2,[[hP,v145]]⟩)∧Sep H n [oE [.c,.c,.c] Control.cells hJ X,oN hK D.nodes,oI hL D.sites,oS v138 D.outer,oW v139 D.inner,oN hM C.nodes,oI v141 C.sites,oS hN C.outer,oW v143 C.inner,oI hP N.nodes,oI v145 N.roots] [(n122,15),(L,14),(M,13),(A,10),(n1+2,7),(n1+1,6),(n1,5)]) (by refine⟨hy,v109,hz,hA,hB,hD,hE,hF,hH,px,v127,by simp[hh,e,g,j,l,q,t,f133,f134,-ar,-ay,cAx,o1x],sp.var⟩) ?_
  clear hh e g j l q t
  rintro ρ H n146 ⟨hJ,hK,hL,v138,v139,hM,v141,hN,v143,hP,v145,⟨hh,e,g,j,l,q,t,u⟩,sp⟩
  refine zE fun k' hk'=>?_
  obtain⟨p0,h⟩:=h
  obtain⟨p,p1,h⟩:=atm h
  simp[hh,e,g,j,l,q,t,u]
  refine aG.cd ae (jm X D C N p0) e21 (.cons (Sep.bb sp (aS (by simp))) (.cons (aF.agg (.cons (.v _ _ _) (.cons (Sep.bb sp.f1 (ck true D.nodes)) (.cons (Sep.bb sp.f2 (aS (by simp))) (.cons (.v _ _ _) (.cons (Sep.bb sp.f3 (aS (by simp))) (.cons (Sep.bb sp.f4 (aS (by simp))) .nil))))))) (.cons (aF.agg (.cons (.v _ _ _) (.cons (Sep.bb sp.f5 (ck true C.nodes)) (.cons (Sep.bb sp.f6 (aS (by simp))) (.cons (.v _ _ _) (.cons (Sep.bb sp.f7 (aS (by simp))) (.cons (Sep.bb sp.f8 (aS (by simp))) .nil))))))) (.cons (aF.agg (.cons (Sep.bb sp.f9 (aS (by simp))) (.cons (Sep.bb sp.f10 (aS (by simp))) .nil))) .nil)))) sp (by decide) (by decide) rfl (by simp[hh,e,g,j,l,q,t,u]) ?_
  rintro y1 y2 n151 _ sp rfl y3 a9
  rw[← p1] at sp
  have e:=(a9 _ (by simp)).trans e
  have g:=(a9 _ (by simp)).trans g
  have j:=(a9 _ (by simp)).trans j
  have l:=(a9 _ (by simp)).trans l
  have q:=(a9 _ (by simp)).trans q
  have t:=(a9 _ (by simp)).trans t
  have u:=(a9 _ (by simp)).trans u
  replace sp:=Sep.ku sp
  obtain⟨L157,hv,p2,sp⟩:=sp
  subst hv
  obtain⟨y4,y5,hv⟩:=cf (by simpa using p2)
  subst hv
  simp only[dp,List.cons_append,List.nil_append] at sp
  replace sp:=Sep.unpack sp
  obtain⟨L165,hv,p3,sp⟩:=sp
  subst hv
  obtain⟨v159,v160,p4,v162,p5,v164,hv⟩:=cK (by simpa using p3)
  subst hv
  simp only[dp,List.cons_append,List.nil_append] at sp
  replace sp:=Sep.scalar sp
  obtain⟨hv,sp⟩:=sp
  subst hv
  replace sp:=Sep.rot sp
  try simp only[List.cons_append,List.nil_append,List.append_assoc] at sp
  replace sp:=Sep.rot sp
  try simp only[List.cons_append,List.nil_append,List.append_assoc] at sp
  replace sp:=Sep.scalar sp
  obtain⟨hv,sp⟩:=sp
  subst hv
  replace sp:=Sep.rot sp
  try simp only[List.cons_append,List.nil_append,List.append_assoc] at sp
  replace sp:=Sep.rot sp
  try simp only[List.cons_append,List.nil_append,List.append_assoc] at sp
  replace sp:=Sep.scalar sp
  obtain⟨hv,sp⟩:=sp
  subst hv
  have f172:=Sep.oc sp.f11
  have f173:=Sep.oc sp.f12
  have f174:=Sep.oc sp.f13
  have f175:=Sep.oc sp.f14
  simp[hh,e,g,j,l,q,t,u,f172,f173,f174,f175,-ar,-ay,cAx,o1x]
  apply hk'
  refine aa.cut (fun ρ H n=>∃ (cs c0 c1 c2 c3 c4 v182 v183 c6 c9 da dc dl ds d0:ag),((ρ 0 = .list false (aSig.map Control.cells)∧ρ 5=pA n1 5∧ρ 6=pA (n1+1) 6∧ρ 7=pA (n1+2) 7∧ρ 10 = .ptr (A,10) 1 0 0∧ρ 11=bool E.2∧ρ 12=cs∧ρ 13=pA M 13∧ρ 14=pA L 14∧ρ 15=pA n122 15∧ρ 16=pA n151 16∧ρ 17=bool p.2)∧H (n1,5)=some ⟨6,[bC false aRedex]⟩∧H (n1+1,6)=some ⟨6,[bC false aAgent]⟩∧H (n1+2,7)=some ⟨2,[mC false aM]⟩∧H (A,10)=some ⟨6,[bC true E.1]⟩∧H (M,13)=some ⟨6,[[int D.roots,c0,c1,int D.edges,c2,c3]]⟩∧H (L,14)=some ⟨6,[[int C.roots,c4,v182,int C.edges,v183,c6]]⟩∧H (n122,15)=some ⟨2,[[c9,da]]⟩∧H (n151,16)=some ⟨6,[[int p.1.roots,dc,dl,int p.1.edges,ds,d0]]⟩)∧Sep H n [oE [.c,.c,.c] Control.cells cs X,oN c0 D.nodes,oI c1 D.sites,oS c2 D.outer,oW c3 D.inner,oN c4 C.nodes,oI v182 C.sites,oS v183 C.outer,oW c6 C.inner,oI c9 N.nodes,oI da N.roots,oN dc p.1.nodes,oI dl p.1.sites,oS ds p.1.outer,oW d0 p.1.inner] [(n151,16),(n122,15),(L,14),(M,13),(A,10),(n1+2,7),(n1+1,6),(n1,5)]) (by refine⟨hJ,hK,hL,v138,v139,hM,v141,hN,v143,hP,v145,v160,p4,p5,v164,by simp[hh,e,g,j,l,q,t,u,f172,f173,f174,f175,-ar,-ay,cAx,o1x],sp.var⟩) ?_
  clear hh e g j l q t u
  rintro ρ H n191 ⟨cs,c0,c1,c2,c3,c4,v182,v183,c6,c9,da,dc,dl,ds,d0,⟨hh,e,g,j,l,q,t,u,o⟩,sp⟩
  refine aa.seq ?_
  refine zE fun k' hk'=>?_
  obtain⟨p6,p7,qr⟩:=h
  have lc:∀ (sJ:Bool) (ρ:Env) (H:ak) (n:Nat),p6 sJ→(match sJ with | jp=>∃ (v196 hR v198 hS hV v201 hW v203 hX hY v206 h1 v208 h2 v210:ag),((ρ 0 = .list false (aSig.map Control.cells)∧ρ 5=pA n1 5∧ρ 6=pA (n1+1) 6∧ρ 7=pA (n1+2) 7∧ρ 10 = .ptr (A,10) 1 0 0∧ρ 11=bool E.2∧ρ 12=v196∧ρ 13=pA M 13∧ρ 14=pA L 14∧ρ 15=pA n122 15∧ρ 16=pA n151 16∧ρ 17=bool p.2∧ρ 79=bool jp)∧H (n1,5)=some ⟨6,[bC false aRedex]⟩∧H (n1+1,6)=some ⟨6,[bC false aAgent]⟩∧H (n1+2,7)=some ⟨2,[mC false aM]⟩∧H (A,10)=some ⟨6,[bC true E.1]⟩∧H (M,13)=some ⟨6,[[int D.roots,hR,v198,int D.edges,hS,hV]]⟩∧H (L,14)=some ⟨6,[[int C.roots,v201,hW,int C.edges,v203,hX]]⟩∧H (n122,15)=some ⟨2,[[hY,v206]]⟩∧H (n151,16)=some ⟨6,[[int p.1.roots,h1,v208,int p.1.edges,h2,v210]]⟩)∧Sep H n [oE [.c,.c,.c] Control.cells v196 X,oN hR D.nodes,oI v198 D.sites,oS hS D.outer,oW hV D.inner,oN v201 C.nodes,oI hW C.sites,oS v203 C.outer,oW hX C.inner,oI hY N.nodes,oI v206 N.roots,oN h1 p.1.nodes,oI v208 p.1.sites,oS h2 p.1.outer,oW v210 p.1.inner] [(n151,16),(n122,15),(L,14),(M,13),(A,10),(n1+2,7),(n1+1,6),(n1,5)])→aa Tryz.prog 4 165 k' ρ H n Q:=by
   rintro jp ρ H n212 h ⟨v196,hR,v198,hS,hV,v201,hW,v203,hX,hY,v206,h1,v208,h2,v210,⟨hh,e,g,j,l,q,t,u,o⟩,sp⟩
   replace h:=qr _ h
   apply hk'
   refine aa.ite (b:=jp) (by simp[hh,e,g,j,l,q,t,u,o]) (fun Y=>?_) (fun Y=>?_)
   ·replace h:=h.1 Y
    refine zE fun k' hk'=>?_
    simp[hh,e,g,j,l,q,t,u,o,Y]
    apply hk'
    exact aa.aV (v:=bool false) Tryz.func4 Tryz.results4 (by simp[hh,e,g,j,l,q,t,u,o,Y]) (hQ _ _ _ _ (.of (.v _)) ⟨false,h,rfl⟩)
   replace h:=h.2 Y
   refine aa.skip ?_
   refine aa.seq ?_
   refine zE fun k' hk'=>?_
   obtain⟨q1,h⟩:=h
   obtain⟨q2,q3,h⟩:=atm h
   simp[hh,e,g,j,l,q,t,u,o,Y]
   refine aG.cd ae (ew aSig q1) e10 (.cons (iR false aSig) .nil) sp (by decide) (by decide) rfl (by simp[hh,e,g,j,l,q,t,u,o,Y]) ?_
   rintro zs zv n217 _ sp rfl zF ao
   rw[← q3] at sp
   have e:=(ao _ (by simp)).trans e
   have g:=(ao _ (by simp)).trans g
   have j:=(ao _ (by simp)).trans j
   have l:=(ao _ (by simp)).trans l
   have q:=(ao _ (by simp)).trans q
   have t:=(ao _ (by simp)).trans t
   have u:=(ao _ (by simp)).trans u
   have o:=(ao _ (by simp)).trans o
   obtain⟨q4,h⟩:=h
   obtain⟨h3,q5,h⟩:=atm h
   simp[hh,e,g,j,l,q,t,u,o,Y]
   refine aG.aB ae (sO X q2 q4) e14 (.cons (Sep.bb sp.f1 (aS (by simp))) (.cons (Sep.bb sp (aS (by simp))) .nil)) (by decide) (by decide) rfl (by simp[hh,e,g,j,l,q,t,u,o,Y]) ?_
   rintro _ rfl
   rw[← q5]
   simp[hh,e,g,j,l,q,t,u,o,Y]
   apply hk'
   refine aa.cut (fun ρ H n=>∃ (h4 h8 v226 v227 v228 v229 h9 ih v232 v233 v234 ii v236 io ip:ag),((ρ 0 = .list false (aSig.map Control.cells)∧ρ 5=pA n1 5∧ρ 6=pA (n1+1) 6∧ρ 7=pA (n1+2) 7∧ρ 10 = .ptr (A,10) 1 0 0∧ρ 11=bool E.2∧ρ 12=h4∧ρ 13=pA M 13∧ρ 14=pA L 14∧ρ 15=pA n122 15∧ρ 16=pA n151 16∧ρ 17=bool p.2∧ρ 84=bool (!h3))∧H (n1,5)=some ⟨6,[bC false aRedex]⟩∧H (n1+1,6)=some ⟨6,[bC false aAgent]⟩∧H (n1+2,7)=some ⟨2,[mC false aM]⟩∧H (A,10)=some ⟨6,[bC true E.1]⟩∧H (M,13)=some ⟨6,[[int D.roots,h8,v226,int D.edges,v227,v228]]⟩∧H (L,14)=some ⟨6,[[int C.roots,v229,h9,int C.edges,ih,v232]]⟩∧H (n122,15)=some ⟨2,[[v233,v234]]⟩∧H (n151,16)=some ⟨6,[[int p.1.roots,ii,v236,int p.1.edges,io,ip]]⟩)∧Sep H n [oE [.c,.c,.c] Control.cells h4 X,oN h8 D.nodes,oI v226 D.sites,oS v227 D.outer,oW v228 D.inner,oN v229 C.nodes,oI h9 C.sites,oS ih C.outer,oW v232 C.inner,oI v233 N.nodes,oI v234 N.roots,oN ii p.1.nodes,oI v236 p.1.sites,oS io p.1.outer,oW ip p.1.inner] [(n151,16),(n122,15),(L,14),(M,13),(A,10),(n1+2,7),(n1+1,6),(n1,5)]) (by refine⟨v196,hR,v198,hS,hV,v201,hW,v203,hX,hY,v206,h1,v208,h2,v210,by simp[hh,e,g,j,l,q,t,u,o,Y],sp.dr⟩) ?_
   clear hh e g j l q t u o
   rintro ρ H n239 ⟨h4,h8,v226,v227,v228,v229,h9,ih,v232,v233,v234,ii,v236,io,ip,⟨hh,e,g,j,l,q,t,u,o⟩,sp⟩
   refine aa.ite (b:=(!h3)) (by simp[hh,e,g,j,l,q,t,u,o]) (fun J=>?_) (fun J=>?_)
   ·have J:h3=false:=by simpa using J
    replace h:=h.2 J
    refine zE fun k' hk'=>?_
    simp[hh,e,g,j,l,q,t,u,o,J]
    apply hk'
    exact aa.aV (v:=bool false) Tryz.func4 Tryz.results4 (by simp[hh,e,g,j,l,q,t,u,o,J]) (hQ _ _ _ _ (.of (.v _)) ⟨false,h,rfl⟩)
   have J:h3=true:=by simpa using J
   replace h:=h.1 J
   refine aa.skip ?_
   refine aa.seq ?_
   refine aa.eo ae aD bU (by decide) (by kernel_rfl) fun k' hk'=>?_
   obtain⟨rc,h⟩:=h
   obtain⟨li,rd,h⟩:=atm h
   simp[hh,e,g,j,l,q,t,u,o,J]
   refine bn.aB ae aD ((cE aRedex rc).pure) e11 (.cons (bg false aRedex) .nil) (by decide) rfl (by simp[hh,e,g,j,l,q,t,u,o,J]) ?_
   rw[← rd]
   obtain⟨rg,h⟩:=h
   obtain⟨j1,rl,h⟩:=atm h
   simp[hh,e,g,j,l,q,t,u,o,J]
   refine bn.aB ae aD (fa D li rg) e13 (.cons (aF.agg (.cons (.v _ _ _) (.cons (Sep.bb sp.f1 (ck true D.nodes)) (.cons (Sep.bb sp.f2 (aS (by simp))) (.cons (.v _ _ _) (.cons (Sep.bb sp.f3 (aS (by simp))) (.cons (Sep.bb sp.f4 (aS (by simp))) .nil))))))) (.cons (bg true li) .nil)) (by decide) rfl (by simp[hh,e,g,j,l,q,t,u,o,J]) ?_
   rw[← rl]
   simp[hh,e,g,j,l,q,t,u,o,J]
   apply hk'
   refine aa.ite (b:=(!j1)) (by simp[hh,e,g,j,l,q,t,u,o,J]) (fun O=>?_) (fun O=>?_)
   ·have O:j1=false:=by simpa using O
    replace h:=h.2 O
    refine zE fun k' hk'=>?_
    simp[hh,e,g,j,l,q,t,u,o,J,O]
    apply hk'
    exact aa.aV (v:=bool false) Tryz.func4 Tryz.results4 (by simp[hh,e,g,j,l,q,t,u,o,J,O]) (hQ _ _ _ _ (.of (.v _)) ⟨false,h,rfl⟩)
   have O:j1=true:=by simpa using O
   replace h:=h.1 O
   refine aa.skip ?_
   refine aa.seq ?_
   refine aa.eo ae aD bU (by decide) (by kernel_rfl) fun k' hk'=>?_
   obtain⟨ro,h⟩:=h
   obtain⟨lj,rs,h⟩:=atm h
   simp[hh,e,g,j,l,q,t,u,o,J,O]
   refine bn.aB ae aD ((cE aAgent ro).pure) e11 (.cons (bg false aAgent) .nil) (by decide) rfl (by simp[hh,e,g,j,l,q,t,u,o,J,O]) ?_
   rw[← rs]
   obtain⟨rt,h⟩:=h
   obtain⟨j2,rx,h⟩:=atm h
   simp[hh,e,g,j,l,q,t,u,o,J,O]
   refine bn.aB ae aD (fa C lj rt) e13 (.cons (aF.agg (.cons (.v _ _ _) (.cons (Sep.bb sp.f5 (ck true C.nodes)) (.cons (Sep.bb sp.f6 (aS (by simp))) (.cons (.v _ _ _) (.cons (Sep.bb sp.f7 (aS (by simp))) (.cons (Sep.bb sp.f8 (aS (by simp))) .nil))))))) (.cons (bg true lj) .nil)) (by decide) rfl (by simp[hh,e,g,j,l,q,t,u,o,J,O]) ?_
   rw[← rx]
   simp[hh,e,g,j,l,q,t,u,o,J,O]
   apply hk'
   refine aa.ite (b:=(!j2)) (by simp[hh,e,g,j,l,q,t,u,o,J,O]) (fun T=>?_) (fun T=>?_)
   ·have T:j2=false:=by simpa using T
    replace h:=h.2 T
    refine zE fun k' hk'=>?_
    simp[hh,e,g,j,l,q,t,u,o,J,O,T]
    apply hk'
    exact aa.aV (v:=bool false) Tryz.func4 Tryz.results4 (by simp[hh,e,g,j,l,q,t,u,o,J,O,T]) (hQ _ _ _ _ (.of (.v _)) ⟨false,h,rfl⟩)
   have T:j2=true:=by simpa using T
   replace h:=h.1 T
   refine aa.skip ?_
   refine aa.seq ?_
   refine aa.eo ae aD bU (by decide) (by kernel_rfl) fun k' hk'=>?_
   obtain⟨ry,h⟩:=h
   obtain⟨lm,rA,h⟩:=atm h
   simp[hh,e,g,j,l,q,t,u,o,J,O,T]
   refine bn.aB ae aD ((kr aM ry).pure) e20 (.cons (eY false aM) .nil) (by decide) rfl (by simp[hh,e,g,j,l,q,t,u,o,J,O,T]) ?_
   rw[← rA]
   obtain⟨rB,h⟩:=h
   obtain⟨it,rR,h⟩:=atm h
   simp[hh,e,g,j,l,q,t,u,o,J,O,T]
   refine bn.aB ae aD (F8 N lm rB) e22 (.cons (aF.agg (.cons (Sep.bb sp.f9 (aS (by simp))) (.cons (Sep.bb sp.f10 (aS (by simp))) .nil))) (.cons (eY true lm) .nil)) (by decide) rfl (by simp[hh,e,g,j,l,q,t,u,o,J,O,T]) ?_
   rw[← rR]
   simp[hh,e,g,j,l,q,t,u,o,J,O,T]
   apply hk'
   refine aa.cut (fun ρ H n=>∃ (d1 d2 d3 d4 d5 d6 d7 d8 d9 el em es ev ex ey:ag),((ρ 0 = .list false (aSig.map Control.cells)∧ρ 5=pA n1 5∧ρ 6=pA (n1+1) 6∧ρ 7=pA (n1+2) 7∧ρ 10 = .ptr (A,10) 1 0 0∧ρ 11=bool E.2∧ρ 12=d1∧ρ 13=pA M 13∧ρ 14=pA L 14∧ρ 15=pA n122 15∧ρ 16=pA n151 16∧ρ 17=bool p.2∧ρ 99=bool (!it))∧H (n1,5)=some ⟨6,[bC false aRedex]⟩∧H (n1+1,6)=some ⟨6,[bC false aAgent]⟩∧H (n1+2,7)=some ⟨2,[mC false aM]⟩∧H (A,10)=some ⟨6,[bC true E.1]⟩∧H (M,13)=some ⟨6,[[int D.roots,d2,d3,int D.edges,d4,d5]]⟩∧H (L,14)=some ⟨6,[[int C.roots,d6,d7,int C.edges,d8,d9]]⟩∧H (n122,15)=some ⟨2,[[el,em]]⟩∧H (n151,16)=some ⟨6,[[int p.1.roots,es,ev,int p.1.edges,ex,ey]]⟩)∧Sep H n [oE [.c,.c,.c] Control.cells d1 X,oN d2 D.nodes,oI d3 D.sites,oS d4 D.outer,oW d5 D.inner,oN d6 C.nodes,oI d7 C.sites,oS d8 C.outer,oW d9 C.inner,oI el N.nodes,oI em N.roots,oN es p.1.nodes,oI ev p.1.sites,oS ex p.1.outer,oW ey p.1.inner] [(n151,16),(n122,15),(L,14),(M,13),(A,10),(n1+2,7),(n1+1,6),(n1,5)]) (by refine⟨h4,h8,v226,v227,v228,v229,h9,ih,v232,v233,v234,ii,v236,io,ip,by simp[hh,e,g,j,l,q,t,u,o,J,O,T],sp⟩) ?_
   clear hh e g j l q t u o
   rintro ρ H n267 ⟨d1,d2,d3,d4,d5,d6,d7,d8,d9,el,em,es,ev,ex,ey,⟨hh,e,g,j,l,q,t,u,o⟩,sp⟩
   refine aa.ite (b:=(!it)) (by simp[hh,e,g,j,l,q,t,u,o]) (fun U=>?_) (fun U=>?_)
   ·have U:it=false:=by simpa using U
    replace h:=h.2 U
    refine zE fun k' hk'=>?_
    simp[hh,e,g,j,l,q,t,u,o,U]
    apply hk'
    exact aa.aV (v:=bool false) Tryz.func4 Tryz.results4 (by simp[hh,e,g,j,l,q,t,u,o,U]) (hQ _ _ _ _ (.of (.v _)) ⟨false,h,rfl⟩)
   have U:it=true:=by simpa using U
   replace h:=h.1 U
   refine aa.skip ?_
   refine zE fun k' hk'=>?_
   simp[hh,e,g,j,l,q,t,u,o,U]
   apply hk'
   refine zE fun k' hk'=>?_
   obtain⟨r1,h⟩:=h
   obtain⟨j3,lo,h⟩:=atm h
   have f270:=Sep.oc sp
   simp[hh,e,g,j,l,q,t,u,o,f270,U,-ar,-ay,cAx,o1x]
   refine aG.jh (v:=d1) ae (qo X 1 r1) e15 sp (by decide) (by decide) rfl (by simp[hh,e,g,j,l,q,t,u,o,f270,U,-ar,-ay,cAx,o1x]) ?_
   rintro _ r2 n272 _ ⟨rfl,rfl⟩ sp z0 ap
   rw[← lo] at sp
   rw[← lo]
   replace sp:Sep r2 n272 [oE [.c,.c,.c] Control.cells d1 j3.1,oN d2 D.nodes,oI d3 D.sites,oS d4 D.outer,oW d5 D.inner,oN d6 C.nodes,oI d7 C.sites,oS d8 C.outer,oW d9 C.inner,oI el N.nodes,oI em N.roots,oN es p.1.nodes,oI ev p.1.sites,oS ex p.1.outer,oW ey p.1.inner] [(n151,16),(n122,15),(L,14),(M,13),(A,10),(n1+2,7),(n1+1,6),(n1,5)]:=sp
   have e:=(ap _ (by simp)).trans e
   have g:=(ap _ (by simp)).trans g
   have j:=(ap _ (by simp)).trans j
   have l:=(ap _ (by simp)).trans l
   have q:=(ap _ (by simp)).trans q
   have t:=(ap _ (by simp)).trans t
   have u:=(ap _ (by simp)).trans u
   have o:=(ap _ (by simp)).trans o
   simp[hh,e,g,j,l,q,t,u,o,f270,U,-ar,-ay,cAx,o1x]
   apply hk'
   refine aa.cut (fun ρ H n=>∃ (e0 e1 e2 e3 e4 fd fl fn fo fr fs fz f0 gc:ag),((ρ 0 = .list false (aSig.map Control.cells)∧ρ 5=pA n1 5∧ρ 6=pA (n1+1) 6∧ρ 7=pA (n1+2) 7∧ρ 10 = .ptr (A,10) 1 0 0∧ρ 11=bool E.2∧ρ 13=pA M 13∧ρ 14=pA L 14∧ρ 15=pA n122 15∧ρ 16=pA n151 16∧ρ 17=bool p.2∧ρ 18=int j3.2)∧H (n1,5)=some ⟨6,[bC false aRedex]⟩∧H (n1+1,6)=some ⟨6,[bC false aAgent]⟩∧H (n1+2,7)=some ⟨2,[mC false aM]⟩∧H (A,10)=some ⟨6,[bC true E.1]⟩∧H (M,13)=some ⟨6,[[int D.roots,e0,e1,int D.edges,e2,e3]]⟩∧H (L,14)=some ⟨6,[[int C.roots,e4,fd,int C.edges,fl,fn]]⟩∧H (n122,15)=some ⟨2,[[fo,fr]]⟩∧H (n151,16)=some ⟨6,[[int p.1.roots,fs,fz,int p.1.edges,f0,gc]]⟩)∧Sep H n [oN e0 D.nodes,oI e1 D.sites,oS e2 D.outer,oW e3 D.inner,oN e4 C.nodes,oI fd C.sites,oS fl C.outer,oW fn C.inner,oI fo N.nodes,oI fr N.roots,oN fs p.1.nodes,oI fz p.1.sites,oS f0 p.1.outer,oW gc p.1.inner] [(n151,16),(n122,15),(L,14),(M,13),(A,10),(n1+2,7),(n1+1,6),(n1,5)]) (by refine⟨d2,d3,d4,d5,d6,d7,d8,d9,el,em,es,ev,ex,ey,by simp[hh,e,g,j,l,q,t,u,o,f270,U,-ar,-ay,cAx,o1x],sp.dr⟩) ?_
   clear hh e g j l q t u o
   rintro ρ H n290 ⟨e0,e1,e2,e3,e4,fd,fl,fn,fo,fr,fs,fz,f0,gc,⟨hh,e,g,j,l,q,t,u,o⟩,sp⟩
   refine zE fun k' hk'=>?_
   obtain⟨r3,h⟩:=h
   obtain⟨b1,lr,h⟩:=atm h
   have f293:=Sep.oc sp
   have f294:=Sep.oc sp.f1
   have f295:=Sep.oc sp.f2
   have f296:=Sep.oc sp.f3
   simp[hh,e,g,j,l,q,t,u,o,f293,f294,f295,f296,-ar,-ay,cAx,o1x]
   refine aG.jh (v:=.agg [int D.roots,e0,e1,int D.edges,e2,e3]) ae (nG D j3.2 r3) e16 (Sep.pack (az.v _ (az.own (az.own (az.v _ (az.own (az.own az.nil)))))) sp) (by decide) (by decide) rfl (by simp[hh,e,g,j,l,q,t,u,o,f293,f294,f295,f296,-ar,-ay,cAx,o1x]) ?_
   rintro _ r4 n298 _ ⟨rfl,rfl⟩ sp z1 a0
   rw[← lr] at sp
   rw[← lr]
   replace sp:=Sep.unpack sp
   obtain⟨L301,hv,z2,sp⟩:=sp
   cases hv
   simp only[dp,List.cons_append,List.nil_append] at sp
   replace sp:=(Sep.scalar sp).2
   replace sp:=Sep.rot sp
   try simp only[List.cons_append,List.nil_append,List.append_assoc] at sp
   replace sp:=Sep.rot sp
   try simp only[List.cons_append,List.nil_append,List.append_assoc] at sp
   replace sp:=(Sep.scalar sp).2
   replace sp:=Sep.rot sp
   try simp only[List.cons_append,List.nil_append,List.append_assoc] at sp
   replace sp:=Sep.rot sp
   try simp only[List.cons_append,List.nil_append,List.append_assoc] at sp
   replace sp:Sep r4 n298 [oN e4 C.nodes,oI fd C.sites,oS fl C.outer,oW fn C.inner,oI fo N.nodes,oI fr N.roots,oN fs p.1.nodes,oI fz p.1.sites,oS f0 p.1.outer,oW gc p.1.inner,oN e0 b1.1.nodes,oI e1 b1.1.sites,oS e2 b1.1.outer,oW e3 b1.1.inner] [(n151,16),(n122,15),(L,14),(M,13),(A,10),(n1+2,7),(n1+1,6),(n1,5)]:=sp
   have e:=(a0 _ (by simp)).trans e
   have g:=(a0 _ (by simp)).trans g
   have j:=(a0 _ (by simp)).trans j
   have l:=(a0 _ (by simp)).trans l
   have q:=(a0 _ (by simp)).trans q
   have t:=(a0 _ (by simp)).trans t
   have u:=(a0 _ (by simp)).trans u
   have o:=(a0 _ (by simp)).trans o
   simp[hh,e,g,j,l,q,t,u,o,f293,f294,f295,f296,-ar,-ay,cAx,o1x]
   apply hk'
   refine aa.cut (fun ρ H n=>∃ (gd gg gi gj go gs gu gw g0 g1:ag),((ρ 0 = .list false (aSig.map Control.cells)∧ρ 5=pA n1 5∧ρ 6=pA (n1+1) 6∧ρ 7=pA (n1+2) 7∧ρ 10 = .ptr (A,10) 1 0 0∧ρ 11=bool E.2∧ρ 14=pA L 14∧ρ 15=pA n122 15∧ρ 16=pA n151 16∧ρ 17=bool p.2∧ρ 18=int b1.2)∧H (n1,5)=some ⟨6,[bC false aRedex]⟩∧H (n1+1,6)=some ⟨6,[bC false aAgent]⟩∧H (n1+2,7)=some ⟨2,[mC false aM]⟩∧H (A,10)=some ⟨6,[bC true E.1]⟩∧H (L,14)=some ⟨6,[[int C.roots,gd,gg,int C.edges,gi,gj]]⟩∧H (n122,15)=some ⟨2,[[go,gs]]⟩∧H (n151,16)=some ⟨6,[[int p.1.roots,gu,gw,int p.1.edges,g0,g1]]⟩)∧Sep H n [oN gd C.nodes,oI gg C.sites,oS gi C.outer,oW gj C.inner,oI go N.nodes,oI gs N.roots,oN gu p.1.nodes,oI gw p.1.sites,oS g0 p.1.outer,oW g1 p.1.inner] [(n151,16),(n122,15),(L,14),(A,10),(n1+2,7),(n1+1,6),(n1,5)]) (by refine⟨e4,fd,fl,fn,fo,fr,fs,fz,f0,gc,by simp[hh,e,g,j,l,q,t,u,o,f293,f294,f295,f296,-ar,-ay,cAx,o1x],(Sep.sub sp.f10.dr.f10.dr.f10.dr.f10.dr (by simp +contextual))⟩) ?_
   clear hh e g j l q t u o
   rintro ρ H n314 ⟨gd,gg,gi,gj,go,gs,gu,gw,g0,g1,⟨hh,e,g,j,l,t,u,o⟩,sp⟩
   refine zE fun k' hk'=>?_
   obtain⟨r5,h⟩:=h
   obtain⟨b2,ls,h⟩:=atm h
   have f317:=Sep.oc sp
   have f318:=Sep.oc sp.f1
   have f319:=Sep.oc sp.f2
   have f320:=Sep.oc sp.f3
   simp[hh,e,g,j,l,t,u,o,f317,f318,f319,f320,-ar,-ay,cAx,o1x]
   refine aG.jh (v:=.agg [int C.roots,gd,gg,int C.edges,gi,gj]) ae (nG C b1.2 r5) e16 (Sep.pack (az.v _ (az.own (az.own (az.v _ (az.own (az.own az.nil)))))) sp) (by decide) (by decide) rfl (by simp[hh,e,g,j,l,t,u,o,f317,f318,f319,f320,-ar,-ay,cAx,o1x]) ?_
   rintro _ r6 n322 _ ⟨rfl,rfl⟩ sp z3 bd
   rw[← ls] at sp
   rw[← ls]
   replace sp:=Sep.unpack sp
   obtain⟨L325,hv,z4,sp⟩:=sp
   cases hv
   simp only[dp,List.cons_append,List.nil_append] at sp
   replace sp:=(Sep.scalar sp).2
   replace sp:=Sep.rot sp
   try simp only[List.cons_append,List.nil_append,List.append_assoc] at sp
   replace sp:=Sep.rot sp
   try simp only[List.cons_append,List.nil_append,List.append_assoc] at sp
   replace sp:=(Sep.scalar sp).2
   replace sp:=Sep.rot sp
   try simp only[List.cons_append,List.nil_append,List.append_assoc] at sp
   replace sp:=Sep.rot sp
   try simp only[List.cons_append,List.nil_append,List.append_assoc] at sp
   replace sp:Sep r6 n322 [oI go N.nodes,oI gs N.roots,oN gu p.1.nodes,oI gw p.1.sites,oS g0 p.1.outer,oW g1 p.1.inner,oN gd b2.1.nodes,oI gg b2.1.sites,oS gi b2.1.outer,oW gj b2.1.inner] [(n151,16),(n122,15),(L,14),(A,10),(n1+2,7),(n1+1,6),(n1,5)]:=sp
   have e:=(bd _ (by simp)).trans e
   have g:=(bd _ (by simp)).trans g
   have j:=(bd _ (by simp)).trans j
   have l:=(bd _ (by simp)).trans l
   have t:=(bd _ (by simp)).trans t
   have u:=(bd _ (by simp)).trans u
   have o:=(bd _ (by simp)).trans o
   simp[hh,e,g,j,l,t,u,o,f317,f318,f319,f320,-ar,-ay,cAx,o1x]
   apply hk'
   refine aa.cut (fun ρ H n=>∃ (g2 g3 g4 g5 g6 g7:ag),((ρ 0 = .list false (aSig.map Control.cells)∧ρ 5=pA n1 5∧ρ 6=pA (n1+1) 6∧ρ 7=pA (n1+2) 7∧ρ 10 = .ptr (A,10) 1 0 0∧ρ 11=bool E.2∧ρ 15=pA n122 15∧ρ 16=pA n151 16∧ρ 17=bool p.2∧ρ 18=int b2.2)∧H (n1,5)=some ⟨6,[bC false aRedex]⟩∧H (n1+1,6)=some ⟨6,[bC false aAgent]⟩∧H (n1+2,7)=some ⟨2,[mC false aM]⟩∧H (A,10)=some ⟨6,[bC true E.1]⟩∧H (n122,15)=some ⟨2,[[g2,g3]]⟩∧H (n151,16)=some ⟨6,[[int p.1.roots,g4,g5,int p.1.edges,g6,g7]]⟩)∧Sep H n [oI g2 N.nodes,oI g3 N.roots,oN g4 p.1.nodes,oI g5 p.1.sites,oS g6 p.1.outer,oW g7 p.1.inner] [(n151,16),(n122,15),(A,10),(n1+2,7),(n1+1,6),(n1,5)]) (by refine⟨go,gs,gu,gw,g0,g1,by simp[hh,e,g,j,l,t,u,o,f317,f318,f319,f320,-ar,-ay,cAx,o1x],(Sep.sub sp.f6.dr.f6.dr.f6.dr.f6.dr (by simp +contextual))⟩) ?_
   clear hh e g j l t u o
   rintro ρ H n334 ⟨g2,g3,g4,g5,g6,g7,⟨hh,e,g,j,l,u,o⟩,sp⟩
   refine zE fun k' hk'=>?_
   obtain⟨r8,h⟩:=h
   obtain⟨j4,lw,h⟩:=atm h
   have f337:=Sep.oc sp
   have f338:=Sep.oc sp.f1
   simp[hh,e,g,j,l,u,o,f337,f338,-ar,-ay,cAx,o1x]
   refine aG.jh (v:=.agg [g2,g3]) ae (vH N b2.2 r8) e23 (Sep.pack (az.own (az.own az.nil)) sp) (by decide) (by decide) rfl (by simp[hh,e,g,j,l,u,o,f337,f338,-ar,-ay,cAx,o1x]) ?_
   rintro _ r9 n340 _ ⟨rfl,rfl⟩ sp z5 b3
   rw[← lw] at sp
   rw[← lw]
   replace sp:=Sep.unpack sp
   obtain⟨L343,hv,z9,sp⟩:=sp
   cases hv
   simp only[dp,List.cons_append,List.nil_append] at sp
   replace sp:=Sep.rot sp
   try simp only[List.cons_append,List.nil_append,List.append_assoc] at sp
   replace sp:=Sep.rot sp
   try simp only[List.cons_append,List.nil_append,List.append_assoc] at sp
   replace sp:Sep r9 n340 [oN g4 p.1.nodes,oI g5 p.1.sites,oS g6 p.1.outer,oW g7 p.1.inner,oI g2 j4.1.nodes,oI g3 j4.1.roots] [(n151,16),(n122,15),(A,10),(n1+2,7),(n1+1,6),(n1,5)]:=sp
   have e:=(b3 _ (by simp)).trans e
   have g:=(b3 _ (by simp)).trans g
   have j:=(b3 _ (by simp)).trans j
   have l:=(b3 _ (by simp)).trans l
   have u:=(b3 _ (by simp)).trans u
   have o:=(b3 _ (by simp)).trans o
   simp[hh,e,g,j,l,u,o,f337,f338,-ar,-ay,cAx,o1x]
   apply hk'
   refine aa.cut (fun ρ H n=>∃ (b5 b7 b8 b9:ag),((ρ 0 = .list false (aSig.map Control.cells)∧ρ 5=pA n1 5∧ρ 6=pA (n1+1) 6∧ρ 7=pA (n1+2) 7∧ρ 10 = .ptr (A,10) 1 0 0∧ρ 11=bool E.2∧ρ 16=pA n151 16∧ρ 17=bool p.2∧ρ 18=int j4.2)∧H (n1,5)=some ⟨6,[bC false aRedex]⟩∧H (n1+1,6)=some ⟨6,[bC false aAgent]⟩∧H (n1+2,7)=some ⟨2,[mC false aM]⟩∧H (A,10)=some ⟨6,[bC true E.1]⟩∧H (n151,16)=some ⟨6,[[int p.1.roots,b5,b7,int p.1.edges,b8,b9]]⟩)∧Sep H n [oN b5 p.1.nodes,oI b7 p.1.sites,oS b8 p.1.outer,oW b9 p.1.inner] [(n151,16),(A,10),(n1+2,7),(n1+1,6),(n1,5)]) (by refine⟨g4,g5,g6,g7,by simp[hh,e,g,j,l,u,o,f337,f338,-ar,-ay,cAx,o1x],(Sep.sub sp.f4.dr.f4.dr (by simp +contextual))⟩) ?_
   clear hh e g j l u o
   rintro ρ H At ⟨b5,b7,b8,b9,⟨hh,e,g,j,l,o⟩,sp⟩
   refine aa.seq ?_
   refine zE fun k' hk'=>?_
   obtain⟨sg,sh,si⟩:=h
   have j5:∀ (sJ:Bool) (ρ:Env) (H:ak) (n:Nat),sg sJ→(match sJ with | kd=>∃ (cc ce ci cj:ag),((ρ 0 = .list false (aSig.map Control.cells)∧ρ 5=pA n1 5∧ρ 6=pA (n1+1) 6∧ρ 7=pA (n1+2) 7∧ρ 10 = .ptr (A,10) 1 0 0∧ρ 11=bool E.2∧ρ 16=pA n151 16∧ρ 124=bool kd)∧H (n1,5)=some ⟨6,[bC false aRedex]⟩∧H (n1+1,6)=some ⟨6,[bC false aAgent]⟩∧H (n1+2,7)=some ⟨2,[mC false aM]⟩∧H (A,10)=some ⟨6,[bC true E.1]⟩∧H (n151,16)=some ⟨6,[[int p.1.roots,cc,ce,int p.1.edges,ci,cj]]⟩)∧Sep H n [oN cc p.1.nodes,oI ce p.1.sites,oS ci p.1.outer,oW cj p.1.inner] [(n151,16),(A,10),(n1+2,7),(n1+1,6),(n1,5)])→aa Tryz.prog 4 165 k' ρ H n Q:=by
    rintro kd ρ H AC h ⟨cc,ce,ci,cj,⟨hh,e,g,j,l,o⟩,sp⟩
    replace h:=si _ h
    apply hk'
    refine aa.ite (b:=kd) (by simp[hh,e,g,j,l,o]) (fun af=>?_) (fun af=>?_)
    ·replace h:=h.1 af
     refine zE fun k' hk'=>?_
     simp[hh,e,g,j,l,o,af]
     apply hk'
     exact aa.aV (v:=bool false) Tryz.func4 Tryz.results4 (by simp[hh,e,g,j,l,o,af]) (hQ _ _ _ _ (.of (.v _)) ⟨false,h,rfl⟩)
    replace h:=h.2 af
    refine aa.skip ?_
    refine zE fun k' hk'=>?_
    simp[hh,e,g,j,l,o,af]
    apply hk'
    refine zE fun k' hk'=>?_
    obtain⟨sj,h⟩:=h
    obtain⟨G,lA,h⟩:=atm h
    have f363:=Sep.oc sp
    have f364:=Sep.oc sp.f1
    have f365:=Sep.oc sp.f2
    have f366:=Sep.oc sp.f3
    simp[hh,e,g,j,l,o,f363,f364,f365,f366,af,-ar,-ay,cAx,o1x]
    refine aG.jh (v:=.agg [int p.1.roots,cc,ce,int p.1.edges,ci,cj]) ae (nG p.1 1 sj) e16 (Sep.pack (az.v _ (az.own (az.own (az.v _ (az.own (az.own az.nil)))))) sp) (by decide) (by decide) rfl (by simp[hh,e,g,j,l,o,f363,f364,f365,f366,af,-ar,-ay,cAx,o1x]) ?_
    rintro _ so ss _ ⟨rfl,rfl⟩ sp AS g8
    rw[← lA] at sp
    rw[← lA]
    replace sp:=Sep.unpack sp
    obtain⟨L371,hv,A1,sp⟩:=sp
    cases hv
    simp only[dp,List.cons_append,List.nil_append] at sp
    replace sp:=(Sep.scalar sp).2
    replace sp:=Sep.rot sp
    try simp only[List.cons_append,List.nil_append,List.append_assoc] at sp
    replace sp:=Sep.rot sp
    try simp only[List.cons_append,List.nil_append,List.append_assoc] at sp
    replace sp:=(Sep.scalar sp).2
    replace sp:=Sep.rot sp
    try simp only[List.cons_append,List.nil_append,List.append_assoc] at sp
    replace sp:=Sep.rot sp
    try simp only[List.cons_append,List.nil_append,List.append_assoc] at sp
    replace sp:Sep so ss [oN cc G.1.nodes,oI ce G.1.sites,oS ci G.1.outer,oW cj G.1.inner] [(n151,16),(A,10),(n1+2,7),(n1+1,6),(n1,5)]:=sp
    have e:=(g8 _ (by simp)).trans e
    have g:=(g8 _ (by simp)).trans g
    have j:=(g8 _ (by simp)).trans j
    have l:=(g8 _ (by simp)).trans l
    have o:=(g8 _ (by simp)).trans o
    simp[hh,e,g,j,l,o,f363,f364,f365,f366,af,-ar,-ay,cAx,o1x]
    apply hk'
    refine aa.cut (fun ρ H n=>∃ (ix i0 i1 i2:ag),((ρ 0 = .list false (aSig.map Control.cells)∧ρ 5=pA n1 5∧ρ 6=pA (n1+1) 6∧ρ 7=pA (n1+2) 7∧ρ 10 = .ptr (A,10) 1 0 0∧ρ 11=bool E.2∧ρ 16=pA n151 16∧ρ 19=int G.2)∧H (n1,5)=some ⟨6,[bC false aRedex]⟩∧H (n1+1,6)=some ⟨6,[bC false aAgent]⟩∧H (n1+2,7)=some ⟨2,[mC false aM]⟩∧H (A,10)=some ⟨6,[bC true E.1]⟩∧H (n151,16)=some ⟨6,[[int p.1.roots,ix,i0,int p.1.edges,i1,i2]]⟩)∧Sep H n [oN ix G.1.nodes,oI i0 G.1.sites,oS i1 G.1.outer,oW i2 G.1.inner] [(n151,16),(A,10),(n1+2,7),(n1+1,6),(n1,5)]) (by refine⟨cc,ce,ci,cj,by simp[hh,e,g,j,l,o,f363,f364,f365,f366,af,-ar,-ay,cAx,o1x],sp⟩) ?_
    clear hh e g j l o
    rintro ρ H A2 ⟨ix,i0,i1,i2,⟨hh,e,g,j,l,o⟩,sp⟩
    refine zE fun k' hk'=>?_
    simp[hh,e,g,j,l,o]
    apply hk'
    refine zE fun k' hk'=>?_
    obtain⟨sv,h⟩:=h
    obtain⟨Bd,sz,h⟩:=atm h
    simp[hh,e,g,j,l,o]
    refine aG.aB ae (sl (Big.mk p.1.roots G.1.nodes G.1.sites p.1.edges G.1.outer G.1.inner) 1 sv) e17 (.cons (aF.agg (.cons (.v _ _ _) (.cons (Sep.bb sp (ck true G.1.nodes)) (.cons (Sep.bb sp.f1 (aS (by simp))) (.cons (.v _ _ _) (.cons (Sep.bb sp.f2 (aS (by simp))) (.cons (Sep.bb sp.f3 (aS (by simp))) .nil))))))) (.cons (.v _ _ _) .nil)) (by decide) (by decide) rfl (by simp[hh,e,g,j,l,o]) ?_
    rintro _ rfl
    rw[← sz]
    simp[hh,e,g,j,l,o]
    apply hk'
    refine aa.seq ?_
    refine zE fun k' hk'=>?_
    obtain⟨s0,s1,h⟩:=atm h
    have s2:=aT (k:=.i64) s1
    simp[hh,e,g,j,l,o,s2,-ai]
    apply hk'
    refine aa.ite (b:=s0) (by simp[hh,e,g,j,l,o]) (fun am=>?_) (fun am=>?_)
    ·replace h:=h.1 am
     refine zE fun k' hk'=>?_
     simp[hh,e,g,j,l,o,am]
     apply hk'
     exact aa.aV (v:=bool false) Tryz.func4 Tryz.results4 (by simp[hh,e,g,j,l,o,am]) (hQ _ _ _ _ (.of (.v _)) ⟨false,h,rfl⟩)
    replace h:=h.2 am
    refine aa.skip ?_
    refine aa.seq ?_
    refine zE fun k' hk'=>?_
    obtain⟨s3,s4,h⟩:=atm h
    have s5:=dz (k:=.i64) s4
    simp[hh,e,g,j,l,o,s5,am,-ai]
    apply hk'
    refine aa.ite (b:=s3) (by simp[hh,e,g,j,l,o,am]) (fun cl=>?_) (fun cl=>?_)
    ·replace h:=h.1 cl
     refine zE fun k' hk'=>?_
     simp[hh,e,g,j,l,o,am,cl]
     apply hk'
     exact aa.aV (v:=bool false) Tryz.func4 Tryz.results4 (by simp[hh,e,g,j,l,o,am,cl]) (hQ _ _ _ _ (.of (.v _)) ⟨false,h,rfl⟩)
    replace h:=h.2 cl
    refine aa.skip ?_
    refine aa.cut (fun ρ H n=>∃ (a1 a2 a3 a4:ag),((ρ 0 = .list false (aSig.map Control.cells)∧ρ 5=pA n1 5∧ρ 6=pA (n1+1) 6∧ρ 7=pA (n1+2) 7∧ρ 10 = .ptr (A,10) 1 0 0∧ρ 11=bool E.2∧ρ 16=pA n151 16∧ρ 19=int G.2)∧H (n1,5)=some ⟨6,[bC false aRedex]⟩∧H (n1+1,6)=some ⟨6,[bC false aAgent]⟩∧H (n1+2,7)=some ⟨2,[mC false aM]⟩∧H (A,10)=some ⟨6,[bC true E.1]⟩∧H (n151,16)=some ⟨6,[[int p.1.roots,a1,a2,int p.1.edges,a3,a4]]⟩)∧Sep H n [oN a1 G.1.nodes,oI a2 G.1.sites,oS a3 G.1.outer,oW a4 G.1.inner] [(n151,16),(A,10),(n1+2,7),(n1+1,6),(n1,5)]) (by refine⟨ix,i0,i1,i2,by simp[hh,e,g,j,l,o,am,cl],sp⟩) ?_
    clear hh e g j l o
    rintro ρ H s6 ⟨a1,a2,a3,a4,⟨hh,e,g,j,l,o⟩,sp⟩
    obtain⟨s7,h⟩:=h
    obtain⟨i3,s8,h⟩:=atm h
    obtain⟨s9,h⟩:=h
    obtain⟨i4,tb,h⟩:=atm h
    obtain⟨ti,h⟩:=h
    obtain⟨i5,tr,h⟩:=atm h
    obtain⟨ts,h⟩:=h
    obtain⟨i6,ty,h⟩:=atm h
    obtain⟨t1,h⟩:=h
    obtain⟨I,t2,h⟩:=atm h
    have hid405:=sp.1
    refine aa.seq (aa.A4 (Reg.Inv { m:=15,c:=8,a:=12,st:=13,d:=21,B:=[(0,.list false (aSig.map Control.cells)),(5,pA n1 5),(6,pA (n1+1) 6),(7,pA (n1+2) 7),(10,.ptr (A,10) 1 0 0),(11,bool E.2),(16,pA n151 16),(19,int G.2)],F:=fun GI AI=>[(0,137,.list false (aSig.map Control.cells)),(1,138,.list true (i3.map Control.cells)),(2,139,.agg (bC false aRedex)),(3,140,.agg (bC true i4)),(4,141,.agg (bC false aAgent)),(5,142,.agg (bC true i5)),(6,143,.agg (mC false aM)),(7,144,.agg (mC true i6)),(8,145,.tup [.agg [int I.1.roots,(gv GI 0),(gv GI 1),int I.1.edges,(gv GI 2),(gv GI 3)],bool I.2]),(9,136,.tup [.agg [int I.1.roots,(gv GI 0),(gv GI 1),int I.1.edges,(gv GI 2),(gv GI 3)],bool I.2]),(10,146,.agg [int I.1.roots,(gv GI 0),(gv GI 1),int I.1.edges,(gv GI 2),(gv GI 3)]),(11,147,bool I.2),(12,21,.ptr (AI,21) 1 0 0),(14,22,bool I.2)],ent:=fun GI=>[(.s [.c,.c,.s [.c]],(gv GI 0),.list true (I.1.nodes.map (aj.cells true))),(.s [.c],(gv GI 1),.list true (I.1.sites.map al)),(.s [.c],(gv GI 2),.list true (I.1.outer.map aL)),(.s [.c,.c],(gv GI 3),.list true (I.1.inner.map aA.cells))],ob0:=⟨6,[zB]⟩,ob1:=fun GI=>⟨6,[[int I.1.roots,(gv GI 0),(gv GI 1),int I.1.edges,(gv GI 2),(gv GI 3)]]⟩,RG:=fun GI=>Ab.ay (gv GI 0)=true∧Ab.ay (gv GI 1)=true∧Ab.ay (gv GI 2)=true∧Ab.ay (gv GI 3)=true,onC:=[9,10,11,13,14],onA:=[13,14],H0:=H,n0:=s6,K:=[oN a1 G.1.nodes,oI a2 G.1.sites,oS a3 G.1.outer,oW a4 G.1.inner],ids:=[(n151,16),(A,10),(n1+2,7),(n1+1,6),(n1,5)] }) bU (by decide) (Reg.init (Old.cons hh.1 (Old.cons hh.2.1 (Old.cons hh.2.2.1 (Old.cons hh.2.2.2.1 (Old.cons hh.2.2.2.2.1 (Old.cons hh.2.2.2.2.2.1 (Old.cons hh.2.2.2.2.2.2.1 (Old.cons hh.2.2.2.2.2.2.2 Old.nil)))))))) sp) ?_ ?_)
    ·rintro (_ | _ | _ | _ | _ | _ | _ | _ | _ | _ | _ | _ | _ | _ | _ | i)
     ·exact Reg.det (i:=0) rfl rfl rfl rfl (fun L' ρ' H' n' G' A' hO hT hd hG hcl hfr sp=>⟨.list false (aSig.map Control.cells),aJ ae (by rw[aC];have t0:=hO.at 0 rfl;simp[t0]),by simp⟩)
     ·exact Reg.det (i:=1) rfl rfl rfl rfl (fun L' ρ' H' n' G' A' hO hT hd hG hcl hfr sp=>⟨_,by have t137:=hT.at 0 rfl (hd ⟨0,.data⟩ (by simp) rfl);exact aN.jB (xs:=[.list false (aSig.map Control.cells)]) ((ew aSig s7).pure) e10 (.cons (iR false aSig) .nil) (by simp[t137]) (by simp[t137]),by simp[s8]⟩)
     ·exact Reg.det (i:=2) rfl rfl rfl rfl (fun L' ρ' H' n' G' A' hO hT hd hG hcl hfr sp=>⟨.agg (bC false aRedex),aJ ae (by rw[aC];have t5:=hO.at 1 rfl;have mm5_1:=(hfr (n1,5) (by simp)).trans e;simp[t5,mm5_1]),by simp⟩)
     ·exact Reg.det (i:=3) rfl rfl rfl rfl (fun L' ρ' H' n' G' A' hO hT hd hG hcl hfr sp=>⟨_,by have t139:=hT.at 2 rfl (hd ⟨2,.data⟩ (by simp) rfl);exact aN.jB (xs:=[.agg (bC false aRedex)]) ((cE aRedex s9).pure) e11 (.cons (bg false aRedex) .nil) (by simp[t139]) (by simp[t139]),by simp[tb]⟩)
     ·exact Reg.det (i:=4) rfl rfl rfl rfl (fun L' ρ' H' n' G' A' hO hT hd hG hcl hfr sp=>⟨.agg (bC false aAgent),aJ ae (by rw[aC];have t6:=hO.at 2 rfl;have mm6_2:=(hfr (n1+1,6) (by simp)).trans g;simp[t6,mm6_2]),by simp⟩)
     ·exact Reg.det (i:=5) rfl rfl rfl rfl (fun L' ρ' H' n' G' A' hO hT hd hG hcl hfr sp=>⟨_,by have t141:=hT.at 4 rfl (hd ⟨4,.data⟩ (by simp) rfl);exact aN.jB (xs:=[.agg (bC false aAgent)]) ((cE aAgent ti).pure) e11 (.cons (bg false aAgent) .nil) (by simp[t141]) (by simp[t141]),by simp[tr]⟩)
     ·exact Reg.det (i:=6) rfl rfl rfl rfl (fun L' ρ' H' n' G' A' hO hT hd hG hcl hfr sp=>⟨.agg (mC false aM),aJ ae (by rw[aC];have t7:=hO.at 3 rfl;have mm7_3:=(hfr (n1+2,7) (by simp)).trans j;simp[t7,mm7_3]),by simp⟩)
     ·exact Reg.det (i:=7) rfl rfl rfl rfl (fun L' ρ' H' n' G' A' hO hT hd hG hcl hfr sp=>⟨_,by have t143:=hT.at 6 rfl (hd ⟨6,.data⟩ (by simp) rfl);exact aN.jB (xs:=[.agg (mC false aM)]) ((kr aM ts).pure) e20 (.cons (eY false aM) .nil) (by simp[t143]) (by simp[t143]),by simp[ty]⟩)
     ·refine Reg.call rfl rfl rfl ⟨_,jm i3 i4 i5 i6 t1,fun L' ρ' H' n' G' A' hO hT hd hfr sp=>by have t138:=hT.at 1 rfl (hd ⟨1,.data⟩ (by simp) rfl);have t140:=hT.at 3 rfl (hd ⟨3,.data⟩ (by simp) rfl);have t142:=hT.at 5 rfl (hd ⟨5,.data⟩ (by simp) rfl);have t144:=hT.at 7 rfl (hd ⟨7,.data⟩ (by simp) rfl);exact⟨by simp[t138,t140,t142,t144],bA.of_eq (xs:=[.list true (i3.map Control.cells),.agg (bC true i4),.agg (bC true i5),.agg (mC true i6)]) (by simp[t138,t140,t142,t144]) (.cons (iR true i3) (.cons (bg true i4) (.cons (bg true i5) (.cons (eY true i6) .nil))))⟩⟩ e21 ?_
      rintro H' n' v r ids sp rfl
      rw[← t2] at sp
      replace sp:=Sep.ku sp
      obtain⟨L408,hv,t3,sp⟩:=sp
      subst hv
      obtain⟨Dn,Do,hv⟩:=cf (by simpa using t3)
      subst hv
      simp only[dp,List.cons_append,List.nil_append] at sp
      replace sp:=Sep.unpack sp
      obtain⟨L416,hv,t4,sp⟩:=sp
      subst hv
      obtain⟨Dp,l0,l1,D4,l2,l3,hv⟩:=cK (by simpa using t4)
      subst hv
      simp only[dp,List.cons_append,List.nil_append] at sp
      replace sp:=Sep.scalar sp
      obtain⟨hv,sp⟩:=sp
      subst hv
      have hov411:=Sep.ay sp
      replace sp:=Sep.rot sp
      try simp only[List.cons_append,List.nil_append,List.append_assoc] at sp
      have hov412:=Sep.ay sp
      replace sp:=Sep.rot sp
      try simp only[List.cons_append,List.nil_append,List.append_assoc] at sp
      replace sp:=Sep.scalar sp
      obtain⟨hv,sp⟩:=sp
      subst hv
      have hov414:=Sep.ay sp
      replace sp:=Sep.rot sp
      try simp only[List.cons_append,List.nil_append,List.append_assoc] at sp
      have hov415:=Sep.ay sp
      replace sp:=Sep.rot sp
      try simp only[List.cons_append,List.nil_append,List.append_assoc] at sp
      replace sp:=Sep.scalar sp
      obtain⟨hv,sp⟩:=sp
      subst hv
      replace sp:=Sep.swap (K1:=([oN a1 G.1.nodes,oI a2 G.1.sites,oS a3 G.1.outer,oW a4 G.1.inner])) (K2:=[(.s [.c,.c,.s [.c]],l0,.list true (I.1.nodes.map (aj.cells true))),(.s [.c],l1,.list true (I.1.sites.map al)),(.s [.c],l2,.list true (I.1.outer.map aL)),(.s [.c,.c],l3,.list true (I.1.inner.map aA.cells))]) sp
      exact⟨[l0,l1,l2,l3],⟨hov411,hov412,hov414,hov415⟩,sp,fun A'=>by simp⟩
     ·exact Reg.det (i:=9) rfl rfl rfl rfl (fun L' ρ' H' n' G' A' hO hT hd hG hcl hfr sp=>⟨.tup [.agg [int I.1.roots,(gv G' 0),(gv G' 1),int I.1.edges,(gv G' 2),(gv G' 3)],bool I.2],aJ ae (by rw[aC];have t145:=hT.at 8 rfl (hd ⟨8,.data⟩ (by simp) rfl);simp[t145]),by simp⟩) (hc:=fun _=>⟨⟨8,.data⟩,by simp,rfl,by simp⟩)
     ·exact Reg.det (i:=10) rfl rfl rfl rfl (fun L' ρ' H' n' G' A' hO hT hd hG hcl hfr sp=>⟨.agg [int I.1.roots,(gv G' 0),(gv G' 1),int I.1.edges,(gv G' 2),(gv G' 3)],aJ ae (by rw[aC];have t136:=hT.at 9 rfl (hd ⟨9,.data⟩ (by simp) rfl);simp[t136]),by simp⟩) (hc:=fun _=>⟨⟨9,.data⟩,by simp,rfl,by simp⟩)
     ·exact Reg.det (i:=11) rfl rfl rfl rfl (fun L' ρ' H' n' G' A' hO hT hd hG hcl hfr sp=>⟨bool I.2,aJ ae (by rw[aC];have t136:=hT.at 9 rfl (hd ⟨9,.data⟩ (by simp) rfl);simp[t136]),by simp⟩) (hc:=fun _=>⟨⟨9,.data⟩,by simp,rfl,by simp⟩)
     ·exact Reg.alloc ae rfl pY rfl rfl rfl
     ·exact Reg.store ae rfl rfl rfl hid405 ⟨⟨10,.data⟩,by simp,rfl,by simp⟩ ⟨⟨12,.data⟩,by simp,rfl,by simp⟩ (fun L' ρ' H' G' A' hO hT hd hG hw=>by have t21:=hT.at 12 rfl (hd ⟨12,.data⟩ (by simp) rfl);have t146:=hT.at 10 rfl (hd ⟨10,.data⟩ (by simp) rfl);have hG2:Ab.ay (gv G' 0)=true∧Ab.ay (gv G' 1)=true∧Ab.ay (gv G' 2)=true∧Ab.ay (gv G' 3)=true:=hG;simp[t21,t146,hG2,hw,pY,-ay,vB,qD,vJ,uT,qK,vT,vI])
     ·exact Reg.det (i:=14) rfl rfl rfl rfl (fun L' ρ' H' n' G' A' hO hT hd hG hcl hfr sp=>⟨bool I.2,aJ ae (by rw[aC];have t147:=hT.at 11 rfl (hd ⟨11,.data⟩ (by simp) rfl);simp[t147]),by simp⟩) (hc:=fun _=>⟨⟨11,.data⟩,by simp,rfl,by simp⟩) (ha:=fun _=>⟨⟨13,.chain⟩,by simp,rfl,by simp⟩)
     ·exact jV.none (by simp)
    ·rintro L' ⟨ρ,H,l4⟩ hI hr
     obtain⟨W,g9,hO,hT,hG,sp,hb,hn0_,hA_,ab⟩:=Reg.fin (by kernel_rfl) rfl (show (8:Nat)<15∧(12:Nat)<15∧(13:Nat)<15 by decide) (by intro G' A';simp) hI hr
     show aa _ _ _ _ ρ H l4 _
     replace hO:Old ρ _:=hO
     replace hT:zK ρ _:=hT
     clear hh
     have h0:=hO.at 0 rfl
     have h5:=hO.at 1 rfl
     have h6:=hO.at 2 rfl
     have h7:=hO.at 3 rfl
     have h10:=hO.at 4 rfl
     have h11:=hO.at 5 rfl
     have h16:=hO.at 6 rfl
     have h19:=hO.at 7 rfl
     have h137:=hT.at 0 rfl
     have h138:=hT.at 1 rfl
     have h139:=hT.at 2 rfl
     have h140:=hT.at 3 rfl
     have h141:=hT.at 4 rfl
     have h142:=hT.at 5 rfl
     have h143:=hT.at 6 rfl
     have h144:=hT.at 7 rfl
     have h145:=hT.at 8 rfl
     have h136:=hT.at 9 rfl
     have h146:=hT.at 10 rfl
     have h147:=hT.at 11 rfl
     have h21:=hT.at 12 rfl
     have h22:=hT.at 13 rfl
     have o:H (n151,16)=some ⟨6,[[int p.1.roots,a1,a2,int p.1.edges,a3,a4]]⟩:=(hb (n151,16) (by simp)).trans o
     have l:H (A,10)=some ⟨6,[bC true E.1]⟩:=(hb (A,10) (by simp)).trans l
     have j:H (n1+2,7)=some ⟨2,[mC false aM]⟩:=(hb (n1+2,7) (by simp)).trans j
     have g:H (n1+1,6)=some ⟨6,[bC false aAgent]⟩:=(hb (n1+1,6) (by simp)).trans g
     have e:H (n1,5)=some ⟨6,[bC false aRedex]⟩:=(hb (n1,5) (by simp)).trans e
     have ab:H (g9,21)=some ⟨6,[[int I.1.roots,(gv W 0),(gv W 1),int I.1.edges,(gv W 2),(gv W 3)]]⟩:=ab
     replace sp:Sep H l4 [oN (gv W 0) I.1.nodes,oI (gv W 1) I.1.sites,oS (gv W 2) I.1.outer,oW (gv W 3) I.1.inner,oN a1 G.1.nodes,oI a2 G.1.sites,oS a3 G.1.outer,oW a4 G.1.inner] [(g9,21),(n151,16),(A,10),(n1+2,7),(n1+1,6),(n1,5)]:=sp
     refine aa.cut (fun ρ H n=>∃ (ki kj kw k0 he hf hg hi:ag),((ρ 10 = .ptr (A,10) 1 0 0∧ρ 11=bool E.2∧ρ 16=pA n151 16∧ρ 19=int G.2∧ρ 21 = .ptr (g9,21) 1 0 0∧ρ 22=bool I.2)∧H (A,10)=some ⟨6,[bC true E.1]⟩∧H (n151,16)=some ⟨6,[[int p.1.roots,he,hf,int p.1.edges,hg,hi]]⟩∧H (g9,21)=some ⟨6,[[int I.1.roots,ki,kj,int I.1.edges,kw,k0]]⟩)∧Sep H n [oN ki I.1.nodes,oI kj I.1.sites,oS kw I.1.outer,oW k0 I.1.inner,oN he G.1.nodes,oI hf G.1.sites,oS hg G.1.outer,oW hi G.1.inner] [(g9,21),(n151,16),(A,10)]) (by refine⟨(gv W 0),(gv W 1),(gv W 2),(gv W 3),a1,a2,a3,a4,by simp[e,g,j,l,o,ab,h0,h5,h6,h7,h10,h11,h16,h19,h137,h138,h139,h140,h141,h142,h143,h144,h145,h136,h146,h147,h21,h22],(Sep.sub sp (by simp +contextual))⟩) ?_
     clear e g j l o ab h0 h5 h6 h7 h10 h11 h16 h19 h137 h138 h139 h140 h141 h142 h143 h144 h145 h136 h146 h147 h21 h22
     rintro ρ H D5 ⟨ki,kj,kw,k0,he,hf,hg,hi,⟨hh,l,o,ab⟩,sp⟩
     refine aa.seq ?_
     refine zE fun k' hk'=>?_
     obtain⟨t8,t9,ua⟩:=h
     have l5:∀ (sJ:Bool) (ρ:Env) (H:ak) (n:Nat),t8 sJ→(match sJ with | k1=>∃ (k2 k3 k4 k5:ag),((ρ 16=pA n151 16∧ρ 19=int G.2∧ρ 156=bool k1)∧H (n151,16)=some ⟨6,[[int p.1.roots,k2,k3,int p.1.edges,k4,k5]]⟩)∧Sep H n [oN k2 G.1.nodes,oI k3 G.1.sites,oS k4 G.1.outer,oW k5 G.1.inner] [(n151,16)])→aa Tryz.prog 4 165 k' ρ H n Q:=by
      rintro k1 ρ H Eq h ⟨k2,k3,k4,k5,⟨hh,o⟩,sp⟩
      replace h:=ua _ h
      apply hk'
      refine aa.ite (b:=k1) (by simp[hh,o]) (fun R=>?_) (fun R=>?_)
      ·replace h:=h.1 R
       refine zE fun k' hk'=>?_
       simp[hh,o,R]
       apply hk'
       exact aa.aV (v:=bool false) Tryz.func4 Tryz.results4 (by simp[hh,o,R]) (hQ _ _ _ _ (.of (.v _)) ⟨false,h,rfl⟩)
      replace h:=h.2 R
      refine aa.skip ?_
      refine zE fun k' hk'=>?_
      simp[hh,o,R]
      apply hk'
      refine zE fun k' hk'=>?_
      obtain⟨ul,h⟩:=h
      obtain⟨EQ,un,h⟩:=atm h
      simp[hh,o,R]
      refine aG.aB ae (sl (Big.mk p.1.roots G.1.nodes G.1.sites p.1.edges G.1.outer G.1.inner) 1 ul) e17 (.cons (aF.agg (.cons (.v _ _ _) (.cons (Sep.bb sp (ck true G.1.nodes)) (.cons (Sep.bb sp.f1 (aS (by simp))) (.cons (.v _ _ _) (.cons (Sep.bb sp.f2 (aS (by simp))) (.cons (Sep.bb sp.f3 (aS (by simp))) .nil))))))) (.cons (.v _ _ _) .nil)) (by decide) (by decide) rfl (by simp[hh,o,R]) ?_
      rintro _ rfl
      rw[← un]
      simp[hh,o,R]
      apply hk'
      refine aa.seq ?_
      refine zE fun k' hk'=>?_
      obtain⟨up,us,h⟩:=atm h
      have ut:=aT (k:=.i64) us
      simp[hh,o,ut,R,-ai]
      apply hk'
      refine aa.ite (b:=up) (by simp[hh,o,R]) (fun ac=>?_) (fun ac=>?_)
      ·replace h:=h.1 ac
       refine zE fun k' hk'=>?_
       simp[hh,o,R,ac]
       apply hk'
       exact aa.aV (v:=bool false) Tryz.func4 Tryz.results4 (by simp[hh,o,R,ac]) (hQ _ _ _ _ (.of (.v _)) ⟨false,h,rfl⟩)
      replace h:=h.2 ac
      refine aa.skip ?_
      refine aa.seq ?_
      refine zE fun k' hk'=>?_
      obtain⟨u2,u8,h⟩:=atm h
      have vs:=dz (k:=.i64) u8
      simp[hh,o,vs,R,ac,-ai]
      apply hk'
      refine aa.ite (b:=u2) (by simp[hh,o,R,ac]) (fun be=>?_) (fun be=>?_)
      ·replace h:=h.1 be
       refine zE fun k' hk'=>?_
       simp[hh,o,R,ac,be]
       apply hk'
       exact aa.aV (v:=bool false) Tryz.func4 Tryz.results4 (by simp[hh,o,R,ac,be]) (hQ _ _ _ _ (.of (.v _)) ⟨false,h,rfl⟩)
      replace h:=h.2 be
      refine aa.skip ?_
      refine zE fun k' hk'=>?_
      simp[hh,o,R,ac,be]
      apply hk'
      exact aa.aV (v:=bool true) Tryz.func4 Tryz.results4 (by simp[hh,o,R,ac,be]) (hQ _ _ _ _ (.of (.v _)) ⟨true,h,rfl⟩)
     replace h:=t9
     obtain⟨vx,h⟩:=h
     obtain⟨v0,v1,h⟩:=atm h
     simp[hh,l,o,ab]
     refine aG.aB ae (fa I.1 E.1 vx) e13 (.cons (aF.agg (.cons (.v _ _ _) (.cons (Sep.bb sp (ck true I.1.nodes)) (.cons (Sep.bb sp.f1 (aS (by simp))) (.cons (.v _ _ _) (.cons (Sep.bb sp.f2 (aS (by simp))) (.cons (Sep.bb sp.f3 (aS (by simp))) .nil))))))) (.cons (bg true E.1) .nil)) (by decide) (by decide) rfl (by simp[hh,l,o,ab]) ?_
     rintro _ rfl
     rw[← v1]
     rcases Bool.eq_false_or_eq_true v0 with bi | bi
     ·replace h:=h.1 bi
      obtain⟨v2,v3,h⟩:=atm h
      have l7:=vy v3
      simp[hh,l,o,ab,l7,bi,-dC]
      exact l5 (v2) _ _ _ h (by refine⟨he,hf,hg,hi,by simp[hh,l,o,ab,l7,bi,-dC],(Sep.sub sp.dr.dr.dr.dr (by simp +contextual))⟩)
     replace h:=h.2 bi
     simp[hh,l,o,ab,bi]
     exact l5 (true) _ _ _ h (by refine⟨he,hf,hg,hi,by simp[hh,l,o,ab,bi],(Sep.sub sp.dr.dr.dr.dr (by simp +contextual))⟩)
   replace h:=sh
   obtain⟨v4,v5,h⟩:=atm h
   have a5:=aT (k:=.i64) v5
   rcases Bool.eq_false_or_eq_true v4 with ad | ad
   ·replace h:=h.1 ad
    simp[hh,e,g,j,l,o,a5,ad,-ai]
    exact j5 (true) _ _ _ h (by refine⟨b5,b7,b8,b9,by simp[hh,e,g,j,l,o,a5,ad,-ai],sp⟩)
   replace h:=h.2 ad
   obtain⟨v6,h⟩:=h
   obtain⟨v7,v8,h⟩:=atm h
   simp[hh,e,g,j,l,o,a5,ad,-ai]
   refine aG.aB ae (fa p.1 E.1 v6) e13 (.cons (aF.agg (.cons (.v _ _ _) (.cons (Sep.bb sp (ck true p.1.nodes)) (.cons (Sep.bb sp.f1 (aS (by simp))) (.cons (.v _ _ _) (.cons (Sep.bb sp.f2 (aS (by simp))) (.cons (Sep.bb sp.f3 (aS (by simp))) .nil))))))) (.cons (bg true E.1) .nil)) (by decide) (by decide) rfl (by simp[hh,e,g,j,l,o,a5,ad,-ai]) ?_
   rintro _ rfl
   rw[← v8]
   rcases Bool.eq_false_or_eq_true v7 with bk | bk
   ·replace h:=h.1 bk
    obtain⟨v9,wd,h⟩:=atm h
    have md:=vy wd
    simp[hh,e,g,j,l,o,a5,md,ad,bk,-dC,-ai]
    exact j5 (v9) _ _ _ h (by refine⟨b5,b7,b8,b9,by simp[hh,e,g,j,l,o,a5,md,ad,bk,-dC,-ai],sp⟩)
   replace h:=h.2 bk
   simp[hh,e,g,j,l,o,a5,ad,bk,-ai]
   exact j5 (true) _ _ _ h (by refine⟨b5,b7,b8,b9,by simp[hh,e,g,j,l,o,a5,ad,bk,-ai],sp⟩)
  replace h:=p7
  obtain⟨wf,h⟩:=h
  obtain⟨wl,wn,h⟩:=atm h
  simp[hh,e,g,j,l,q,t,u,o]
  refine aG.aB ae (fa p.1 E.1 wf) e13 (.cons (aF.agg (.cons (.v _ _ _) (.cons (Sep.bb sp.f11 (ck true p.1.nodes)) (.cons (Sep.bb sp.f12 (aS (by simp))) (.cons (.v _ _ _) (.cons (Sep.bb sp.f13 (aS (by simp))) (.cons (Sep.bb sp.f14 (aS (by simp))) .nil))))))) (.cons (bg true E.1) .nil)) (by decide) (by decide) rfl (by simp[hh,e,g,j,l,q,t,u,o]) ?_
  rintro _ rfl
  rw[← wn]
  rcases Bool.eq_false_or_eq_true wl with bs | bs
  ·replace h:=h.1 bs
   obtain⟨wp,wr,h⟩:=atm h
   have mp:=vy wr
   simp[hh,e,g,j,l,q,t,u,o,mp,bs,-dC]
   exact lc (wp) _ _ _ h (by refine⟨cs,c0,c1,c2,c3,c4,v182,v183,c6,c9,da,dc,dl,ds,d0,by simp[hh,e,g,j,l,q,t,u,o,mp,bs,-dC],sp⟩)
  replace h:=h.2 bs
  simp[hh,e,g,j,l,q,t,u,o,bs]
  exact lc (true) _ _ _ h (by refine⟨cs,c0,c1,c2,c3,c4,v182,v183,c6,c9,da,dc,dl,ds,d0,by simp[hh,e,g,j,l,q,t,u,o,bs],sp⟩)
theorem Cq (aSig:List Control) (aRedex:Big) (aAgent:Big) (aM:Match) (hp:sb aSig aRedex aAgent aM):aq Tryz.prog 4 [.list false (aSig.map Control.cells),.agg (bC false aRedex),.agg (bC false aAgent),.agg (mC false aM)] (fun r=>r=bool (EA aSig aRedex aAgent aM)):=(xO aSig aRedex aAgent aM _ (Br aSig aRedex aAgent aM hp)).mono (by rintro _ ⟨_,rfl,rfl⟩;rfl)
end Go.Ab.Vg
/- Reader of a law's argument: a match. (Template: YtbikfokhjdjfpaaGreatDoor, Tryz, 46 the number of laws.Match.) -/
namespace Go.Ab
abbrev um (m:Match):Prop:=m.nodes.length≤9223372036854775807∧m.roots.length≤9223372036854775807
end Go.Ab
namespace Go.Proofs.YtbikfokhjdjfpaaGreatDoor
open Go.ChangeShapes Go.WideShapes Go.ChangeAt Go.RowKit Go.Ab
set_option maxRecDepth 100000
theorem FV:sC Tryz.prog 46 (fun m:Go.Ab.Match=>.agg [.list false (m.nodes.map al),.list false (m.roots.map al)]) um:=by
 have h:=Reader.struct Tryz.underlying46 (n:=2) (by kernel_rfl) (bP.cons (n:=1) rfl (by kernel_rfl) AJ (bP.cons (n:=1) rfl (by kernel_rfl) AJ (bP.nil 2)))
 have h2:=h.map (e':=Go.Ab.Match.cells false) (ok':=um) (fun p=>⟨p.1,p.2.1⟩) (fun p=>rfl) (fun p hp=>⟨hp.1.1,hp.2.1.1⟩)
 exact sC.struct Tryz.underlying46 h2
end Go.Proofs.YtbikfokhjdjfpaaGreatDoor
/- The contract of laws.FnExactMatchParameter: it answers true. -/
namespace Go.Ab
open Go.Proofs
theorem kX (a0:Sig) (a1:Big) (a2:Big) (a3:Match) (h0:AW a0) (h1:jP a1) (h2:jP a2) (h3:um a3):aq Tryz.prog 4 [bl false a0,cv false a1,cv false a2,.agg [.list false (a3.nodes.map al),.list false (a3.roots.map al)]] (fun r=>r=bool true):=Vg.Cq a0 a1 a2 a3 ⟨h0,h1,h2,h3⟩
end Go.Ab
