/- Merged texts (14 of 18) of the proof that ends in Cuy: Naw Sh. -/
import Derived.Test.YtbikfokhjdjfpaaGreatDoorAbQcu13
/- Walks by program for YtbikfokhjdjfpaaGreatDoorAbNa. -/
namespace Go.Ab.Vg
open Go.Proofs
set_option maxRecDepth 100000
set_option linter.unusedSimpArgs false
set_option linter.unusedVariables false
attribute [local simp] Control.cells GNode.cells Wire.cells intC intC2 sliceC strC bC mC pA
theorem e95:Ent Tryz.prog 95:=Ent.of Tryz.func95 (by kernel_rfl) rfl
theorem l4Some_walk (b:Big) (link:Int) (kind:List Bool) (is:Bool) (Z:Int→Prop) (h:l4Some_wp b link kind is Z):PureC Tryz.prog 95 [.agg (bC false b),int link,.list false (kind.map boolC),bool is] (fun r=>∃ y:Int,Z y∧r=int y):=by
 unfold l4Some_wp at h
 refine PureC.of Tryz.func95 rfl Tryz.ntmps95 (by simp) fun Q hQ=>?_
 refine Runs.cut (fun ρ H n=>(ρ 0 = .agg (bC false b)∧ρ 1=int link∧ρ 2 = .list false (kind.map boolC)∧ρ 3=bool is)) (by simp[boolC]) ?_
 rintro ρ H n1 hh
 refine zE fun k' hk'=>?_
 simp[hh,boolC]
 apply hk'
 refine Runs.cut (fun ρ H n=>(ρ 1=int link∧ρ 2 = .list false (kind.map boolC)∧ρ 3=bool is∧ρ 4=pA n1 4)∧H (n1,4)=some ⟨6,[bC false b]⟩) (by refine⟨?_,?_⟩<;>simp[hh,boolC]) ?_
 clear hh
 rintro ρ H n3 ⟨hh,m4_1⟩
 refine zE fun k' hk'=>?_
 obtain⟨hb4,h⟩:=h
 obtain⟨r5,er5,h⟩:=atm h
 simp[hh,m4_1,boolC]
 refine RunK.callA Ty_ok ((l2Ports_ok b link hb4).pure) e146 (.cons (argB false b) (.cons (.v _ _ _) .nil)) (by decide) (by decide) rfl (by simp[hh,m4_1,boolC]) ?_
 rintro _ rfl
 rw[← er5]
 simp[hh,m4_1,boolC]
 apply hk'
 refine Runs.seq ?_
 refine zE fun k' hk'=>?_
 simp[hh,m4_1,boolC]
 apply hk'
 refine Runs.block ?_
 refine Runs.loopW h (fun (sJ:Int × Int) ρ H n=>match sJ with | (count9,i10)=>(ρ 2 = .list false (kind.map boolC)∧ρ 3=bool is∧ρ 9 = .list true (r5.map intC2)∧ρ 10=int count9∧ρ 11=int i10)) (by simp[hh,m4_1,boolC]) ?_
 clear hh m4_1
 rintro⟨count9,i10⟩ ρ H n11 K h hh IH12
 refine Runs.seq ?_
 refine zE fun k' hk'=>?_
 obtain⟨len14,elen14,h⟩:=atm h
 have f15:=fun H=>len_list (H:=H) (fr:=true) (f:=intC2) kd_83 elen14
 obtain⟨c16,ec16,h⟩:=atm h
 have f17:=ib_lss (k:=.i64) ec16
 simp[hh,f15,f17,boolC,-intBin,-lenF]
 apply hk'
 refine Runs.ite (b:=c16) (by simp[hh,boolC]) (fun dc16=>?_) (fun dc16=>?_)
 ·replace h:=h.1 dc16
  refine Runs.skip ?_
  refine Runs.seq ?_
  refine Runs.block ?_
  refine zE fun k' hk'=>?_
  obtain⟨hb18,h⟩:=h
  obtain⟨x19,ex19,h⟩:=atm h
  have f20:=fun H=>ix_list (H:=H) (fr:=true) (f:=intC2) (k:=.i64) kd_83 (fun _=>rfl) hb18 ex19
  have f21:=fun H=>ixa_i (H:=H) (k:=.i64) (i:=0) (fr:=true) (cs:=[int x19.1,int x19.2]) kd_86 (by decide)
  obtain⟨hb22,h⟩:=h
  obtain⟨x23,ex23,h⟩:=atm h
  have f24:=fun H=>ix_list (H:=H) (fr:=false) (f:=boolC) (k:=.i64) kd_117 (fun _=>rfl) hb22 ex23
  obtain⟨c25,ec25,h⟩:=atm h
  have f26:=bb_eql ec25
  simp[hh,f20,f21,f24,f26,dc16,boolC,-boolBin,-indexAddrF]
  apply hk'
  refine Runs.ite (b:=c25) (by simp[hh,dc16,boolC]) (fun dc25=>?_) (fun dc25=>?_)
  ·replace h:=h.1 dc25
   refine zF fun k' hk'=>?_
   obtain⟨hb27,h⟩:=h
   obtain⟨v28,ev28,h⟩:=atm h
   have f29:=ib_add hb27 ev28
   simp[hh,f29,dc16,dc25,boolC,-intBin]
   apply hk'
   refine Runs.cut (fun ρ H n=>(ρ 2 = .list false (kind.map boolC)∧ρ 3=bool is∧ρ 9 = .list true (r5.map intC2)∧ρ 10=int v28∧ρ 11=int i10)) (by simp[hh,f29,dc16,dc25,boolC,-intBin]) ?_
   clear hh
   rintro ρ H n30 hh
   refine Runs.inBlock ?_
   refine zF fun k' hk'=>?_
   obtain⟨hb31,h⟩:=h
   obtain⟨v32,ev32,h⟩:=atm h
   have f33:=ib_add hb31 ev32
   simp[hh,f33,boolC,-intBin]
   apply hk'
   refine IH12 (v28,v32) _ _ _ h (by simp[hh,boolC])
  replace h:=h.2 dc25
  refine Runs.skip ?_
  refine Runs.inBlock ?_
  refine zF fun k' hk'=>?_
  obtain⟨hb34,h⟩:=h
  obtain⟨v35,ev35,h⟩:=atm h
  have f36:=ib_add hb34 ev35
  simp[hh,f36,dc16,dc25,boolC,-intBin]
  apply hk'
  refine Runs.cut (fun ρ H n=>(ρ 2 = .list false (kind.map boolC)∧ρ 3=bool is∧ρ 9 = .list true (r5.map intC2)∧ρ 10=int count9∧ρ 11=int v35)) (by simp[hh,f36,dc16,dc25,boolC,-intBin]) ?_
  clear hh
  rintro ρ H n37 hh
  refine IH12 (count9,v35) _ _ _ h (by simp[hh,boolC])
 replace h:=h.2 dc16
 refine Runs.exit rfl ?_
 refine zE fun k' hk'=>?_
 simp[hh,dc16,boolC]
 apply hk'
 exact Runs.ret1 (v:=int count9) Tryz.func95 Tryz.results95 (by simp[hh,dc16,boolC]) (hQ _ _ _ _ (.of (.v _)) ⟨count9,h,rfl⟩)
theorem l4Some_ok (b:Big) (link:Int) (kind:List Bool) (is:Bool) (hp:l4Some_pre b link kind is):PureC Tryz.prog 95 [.agg (bC false b),int link,.list false (kind.map boolC),bool is] (fun r=>r=int (l4Some b link kind is)):=(l4Some_walk b link kind is _ (l4Some_vc b link kind is hp)).mono (by rintro _ ⟨_,rfl,rfl⟩;rfl)
theorem e96:Ent Tryz.prog 96:=Ent.of Tryz.func96 (by kernel_rfl) rfl
theorem l4Letter_walk (link:Int) (Z:Str→Prop) (h:l4Letter_wp link Z):PureC Tryz.prog 96 [int link] (fun r=>∃ y:Str,Z y∧r=str y):=by
 unfold l4Letter_wp at h
 refine PureC.of Tryz.func96 rfl Tryz.ntmps96 (by simp) fun Q hQ=>?_
 refine Runs.cut (fun ρ H n=>ρ 0=int link) (by simp[]) ?_
 rintro ρ H n1 hh
 refine zE fun k' hk'=>?_
 simp[hh]
 apply hk'
 refine zE fun k' hk'=>?_
 obtain⟨hb2,h⟩:=h
 obtain⟨v3,ev3,h⟩:=atm h
 have f4:=ib_add hb2 ev3
 obtain⟨hb5,h⟩:=h
 obtain⟨s6,es6,h⟩:=atm h
 have f7:=fun H=>sl_str (H:=H) (lo:=some (int link)) (hi:=some (int v3)) (a:=link) (b:=v3) (by simp[boundOf]) (by simp[boundOf]) kd_9 hb5 es6
 simp[hh,f4,f7,-intBin,-sliceF]
 apply hk'
 exact Runs.ret1 (v:=str s6) Tryz.func96 Tryz.results96 (by simp[hh]) (hQ _ _ _ _ (.of (.v _)) ⟨s6,h,rfl⟩)
theorem l4Letter_ok (link:Int) (hp:l4Letter_pre link):PureC Tryz.prog 96 [int link] (fun r=>r=str (l4Letter link)):=(l4Letter_walk link _ (l4Letter_vc link hp)).mono (by rintro _ ⟨_,rfl,rfl⟩;rfl)
end Go.Ab.Vg
/- The abstract machine, part Sh: function values handed over: what they capture is seen by the callee as cells that are never written again. -/
namespace Go.Ab
theorem one1_cells {v:AVal} (h:Ab.one1 v=true):cellsA v=some [v]:=by
 cases v with
 | v x=>cases x<;>first | rfl | (simp[Ab.one1,one] at h)
 | undef=>simp[Ab.one1] at h
 | agg=>simp[Ab.one1] at h
 | tup=>simp[Ab.one1] at h
 | _=>rfl
theorem cv_32 {Ty:Types} {s t:TypeId} {i:TI} {k:IntKind} {a:Int} (hs:Ty s=some i) (ht:kd Ty t = .int .i32) (h : -2147483648≤a∧a≤2147483647):convF Ty s t (.v (.int k a))=some (.v (.int .i32 a)):=by
 have e:IntKind.i32.wrap a=a:=by
  simp only[IntKind.wrap,IntKind.bits,IntKind.signed,Bool.true_and]
  split
  ·rename_i h2
   simp at h2
   omega
  ·rename_i h2
   simp at h2
   omega
 simp only[convF,hs,ht,e]
inductive RetDs (H:Heap) (n:Nat):List AVal→List AVal→Prop
 | nil:RetDs H n [] []
 | cons {a b:AVal} {as1 bs:List AVal} (h:RetD H n a b) (t:RetDs H n as1 bs):RetDs H n (a::as1) (b::bs)
theorem RetDs.get {H:Heap} {n:Nat} {as1 bs:List AVal} (h:RetDs H n as1 bs):as1.length=bs.length∧∀ (i:Nat) (a b:AVal),as1[i]?=some a→bs[i]?=some b→RetD H n a b:=by
 induction h with
 | nil=>exact⟨rfl,by simp⟩
 | cons h _ ih=>
  refine⟨by simp[ih.1],fun i a b ha hb=>?_⟩
  cases i with
  | zero=>simp at ha hb;rw[← ha,← hb];exact h
  | succ i=>exact ih.2 i a b (by simpa using ha) (by simpa using hb)
theorem RetD.aggL {H:Heap} {n:Nat} {as1 bs:List AVal} (h:RetDs H n as1 bs):RetD H n (.agg as1) (.agg bs):=.agg h.get.1 h.get.2
theorem Imm.bnd {n:Nat} {a:AVal} (h:Imm a):Bnd n a:=by
 induction h with
 | v x=>exact .v x
 | agg cs _ ih=>exact .agg cs ih
 | tup cs _ ih=>exact .tup cs ih
 | list fr els _ ih=>exact .list fr els ih
 | iface t a _ ih=>exact .iface t a ih
section
variable {H:Heap} {n:Nat}
theorem ArgOk.ptrVar {X:Id} {sz:Nat} {cs ds:List AVal} (hX:H X=some ⟨sz,[cs]⟩) (h:ArgsOk H n cs ds):ArgOk H n (.ptr X 1 0 0) (.iptr false ds):=by
 intro c x hH hn g r c' hw hc
 obtain⟨hl,hi⟩:=h.get
 rw[← hH] at hX
 cases r with
 | ptr _ _ _ _ x h1 hlt hg hh=>
  obtain⟨_,rfl⟩:=hh _ hX rfl
  have hcell:∀ (j:Nat) (a:AVal),cs[j]?=some a→∃ y,c.w.cell? ⟨c.β X,0 * sz+j,none⟩=some y∧Rep c a y:=fun j a ha=>g.cell hX (i:=0) rfl ha
  have hget:∀ (j:Nat) (b:AVal),ds[j]?=some b→∃ a,cs[j]?=some a:=fun j b hb=>⟨_,List.getElem?_eq_getElem (show j<cs.length by rw[hl];exact (List.getElem?_eq_some_iff.1 hb).1)⟩
  refine .iptr false ds _ (fun j=>(c.w.cell? ⟨c.β X,0 * sz+j,none⟩).getD Go.undef) rfl (no_mu hc _) (by rw[hw];exact g.lt hX) (fun h=>by cases h) (fun j b hb=>?_) (fun j b hb=>?_)
  ·obtain⟨a,ha⟩:=hget j b hb
   obtain⟨y,hy,_⟩:=hcell j a ha
   rw[hw]
   show c.w.cell? ⟨c.β X,0 * sz+j,none⟩=_
   rw[hy];rfl
  ·obtain⟨a,ha⟩:=hget j b hb
   obtain⟨y,hy,hr⟩:=hcell j a ha
   simp only[hy,Option.getD_some]
   exact hi j a b ha hb c y hH hn g hr c' hw hc
theorem ArgOk.iptrF {fr:Bool} {cs ds:List AVal} (h:ArgsOk H n cs ds):ArgOk H n (.iptr fr cs) (.iptr false ds):=by
 intro c x hH hn g r c' hw hc
 obtain⟨hl,hi⟩:=h.get
 cases r with
 | iptr _ _ a cell hs hm hb hf hcl hr=>
  have hget:∀ (j:Nat) (b:AVal),ds[j]?=some b→∃ a,cs[j]?=some a:=fun j b hb=>⟨_,List.getElem?_eq_getElem (show j<cs.length by rw[hl];exact (List.getElem?_eq_some_iff.1 hb).1)⟩
  refine .iptr false ds a cell hs (no_mu hc _) (by rw[hw];exact hb) (fun h=>by cases h) (fun j b hb=>?_) (fun j b hb=>?_)
  ·obtain⟨x,hx⟩:=hget j b hb
   rw[hw]
   exact hcl j x hx
  ·obtain⟨x,hx⟩:=hget j b hb
   exact hi j x b hx hb c _ hH hn g (hr j x hx) c' hw hc
theorem ArgOk.fnF {f:Fn} {as1 as' bs bs':List AVal} (h1:ArgsOk H n as1 as') (h2:ArgsOk H n bs bs'):ArgOk H n (.fn f as1 bs) (.fn f as' bs'):=by
 intro c x hH hn g r c' hw hc
 obtain⟨l1,i1⟩:=h1.get
 obtain⟨l2,i2⟩:=h2.get
 cases r with
 | fn _ _ _ vs us hl hl' ha hb=>
  refine .fn f as' bs' vs us (by omega) (by omega) (fun i a x hx hv=>?_) (fun i a x hx hv=>?_)
  ·have hi:=(List.getElem?_eq_some_iff.1 hx).1
   have e:as1[i]?=some (as1[i]'(by omega)):=List.getElem?_eq_getElem (by omega)
   exact i1 i _ a e hx c x hH hn g (ha i _ x e hv) c' hw hc
  ·have hi:=(List.getElem?_eq_some_iff.1 hx).1
   have e:bs[i]?=some (bs[i]'(by omega)):=List.getElem?_eq_getElem (by omega)
   exact i2 i _ a e hx c x hH hn g (hb i _ x e hv) c' hw hc
theorem ArgsOk.app {as1 as' bs bs':List AVal} (h:ArgsOk H n as1 as') (h':ArgsOk H n bs bs'):ArgsOk H n (as1++bs) (as'++bs'):=by
 induction h with
 | nil=>exact h'
 | cons h _ ih=>exact .cons h ih
theorem PureC.args {P:Program} {f:FuncId} {as1 as':List AVal} {R:AVal→Prop} (h:PureC P f as' R) (ha:ArgsOk H n as1 as'):StillC P f as1 H n R:=by
 intro c xs hH hn gd hl
 have hb:Good ⟨c.w.heap.size,fun _=>0,noHeap,0,c.w⟩:=good_bare c.w
 obtain⟨hlen,hget⟩:=ha.get
 have hrep:RepL ⟨c.w.heap.size,fun _=>0,noHeap,0,c.w⟩ as' xs:=by
  refine⟨by rw[← hlen];exact hl.1,fun i b x hb' hx=>?_⟩
  have hi:=(List.getElem?_eq_some_iff.1 hb').1
  have ha':as1[i]?=some (as1[i]'(by omega)):=List.getElem?_eq_getElem (by omega)
  exact hget i _ b ha' hb' c x hH hn gd (hl.2 i _ x ha' hx) _ rfl (fun _=>rfl)
 refine (h _ xs rfl rfl hb hrep).mono ?_
 rintro e w' ⟨x,v,c1,he,hw,⟨r,hres,hR⟩,hrv,hg1,hk⟩
 subst hw
 have hnomu:∀ k,¬ Ctx.mu ⟨c.w.heap.size,fun _=>0,noHeap,0,c.w⟩ k:=by
  rintro k ⟨id,o,ho,_⟩
  cases ho
 obtain⟨hkc,hgc⟩:=more_blocks gd c1.w ⟨hk.os,hk.tape,hk.output⟩ hk.size (fun k hk'=>(hk.imm k hk' (hnomu k)).1)
 refine⟨x,r,{ c with w:=c1.w },he,rfl,⟨hR,hH,hn⟩,?_,hgc,hkc⟩
 refine hres c1 x rfl rfl hg1 hrv { c with w:=c1.w } rfl ?_ ?_
 ·rintro k ⟨id,o,ho,hb'⟩
  have hlt:c.β id<c.w.heap.size:=gd.lt ho
  rw[hk.B]
  show k<c.w.heap.size
  simp only at hb'
  omega
 ·rw[hk.B]
  exact gd.Bsize
end
section
variable {P:Program} {f:FuncId} {N:Nat} {k:List Item} {Q:AVal→Heap→Nat→Prop} {Ty:Types} {l:List Oper} {ρ:Env} {H:Heap} {n:Nat}
theorem RunK.callG (hT:TypesOk P Ty) {d:Option Tmp} {g:Operand} {args:Array Operand} {ats:Array TypeId} {ty:TypeId} {pos:String} {af:Array Edge} {R:AVal→Prop} {f':FuncId} {xs1 xs2 ys1 ys2:List AVal} {ops:List Oper}
  (h:PureC P f' (xs2++ys2) R) (hent:Ent P f') (ha:ArgsOk H n xs1 xs2) (hb:ArgsOk H n ys1 ys2) (hN:ops.all (fun o=>dok N o.dst)=true) (hl:(⟨d,.call ⟨.value g,args,ats⟩,ty,pos,af,none⟩::l:List Oper).all (fun o=>dok N o.dst)=true) (hg:ρ.ev g = .fn (.func f') [] ys1) (has:args.toList.map ρ.ev=xs1)
  (hk:∀ v,R v→evalK P f N k Q Ty ops.toArray l (ρ.put d v) H n) :
  RunK P f N k Q ops.toArray (⟨d,.call ⟨.value g,args,ats⟩,ty,pos,af,none⟩::l) ρ H n:=
 RunK.callF hT (cl:=.fn (.func f') [] ys1) ⟨f',[],ys1,rfl,hent,by rw[List.nil_append];exact PureC.args h (ha.app hb)⟩ hN hl hg has hk
theorem OpSem.callG {d:Option Tmp} {g:Operand} {args:Array Operand} {ats:Array TypeId} {ty:TypeId} {pos:String} {af:Array Edge} {gu:Option (Nat × Bool)} {v:AVal} {f':FuncId} {xs xs2 ys1 ys2:List AVal}
  (h:PureC P f' (xs2++ys2) (fun r=>r=v)) (hent:Ent P f') (ha:ArgsOk H n xs xs2) (hb:ArgsOk H n ys1 ys2) (hg:ρ.ev g = .fn (.func f') [] ys1) (has:args.toList.map ρ.ev=xs) :
  OpSem P N ⟨d,.call ⟨.value g,args,ats⟩,ty,pos,af,gu⟩ (loc (.call ⟨.value g,args,ats⟩) ρ) H n (isV v H n):=by
 have h1:(loc (.call ⟨.value g,args,ats⟩) ρ).ev g=ρ.ev g:=loc_ev (by simp[Op.operands,Call.operands])
 have h2:args.toList.map (loc (.call ⟨.value g,args,ats⟩) ρ).ev=args.toList.map ρ.ev:=List.map_congr_left fun x hx=>loc_ev (by simp[Op.operands,Call.operands];exact .inr (by simpa using hx))
 exact OpSem.call (by rw[h1];exact hg) hent (by rw[h2,has,List.nil_append];exact PureC.args h (ha.app hb))
theorem RunDK.callG (hT:TypesOk P Ty) {κ:Op→Nat} (hκ:KOk κ) {d:Option Tmp} {g:Operand} {args:Array Operand} {ats:Array TypeId} {ty:TypeId} {pos:String} {af:Array Edge} {v:AVal} {f':FuncId} {xs1 xs2 ys1 ys2:List AVal} {ops:Array Oper}
  (h:PureC P f' (xs2++ys2) (fun r=>r=v)) (hent:Ent P f') (ha:ArgsOk H n xs1 xs2) (hb:ArgsOk H n ys1 ys2) (h0:κ (.call ⟨.value g,args,ats⟩) ≠ 0) (hg:ρ.ev g = .fn (.func f') [] ys1) (has:args.toList.map ρ.ev=xs1)
  (hk:evalD P f N k Q Ty κ ops l (ρ.put d v) H n):RunDK P f N k Q κ ops (⟨d,.call ⟨.value g,args,ats⟩,ty,pos,af,none⟩::l) ρ H n:=
 RunDK.op hT hκ rfl h0 (fun _=>⟨rfl,rfl⟩) (OpSem.callG h hent ha hb hg has) hk
theorem RunK.same1 (hT:TypesOk P Ty) {ops:Array Oper} {o:Oper} {v:AVal} (hl:(o::l).all (fun o=>dok N o.dst)=true) (hg:o.guard=none) (hs:stepF Ty o.dst o.op ρ H n=some (v,H,n)) (h:RunK P f N k Q ops l (ρ.put o.dst v) H n):RunK P f N k Q ops (o::l) ρ H n:=by
 simp only[List.all_cons,Bool.and_eq_true] at hl
 refine RunO.op hg hl.1 ((stepF_ok hT hs).mono ?_)
 rintro _ _ _ ⟨rfl,rfl,rfl⟩
 exact h
theorem RunK.callA2 (_:TypesOk P Ty) {ops:Array Oper} {d:Option Tmp} {g:Operand} {args:Array Operand} {ats:Array TypeId} {ty:TypeId} {pos:String} {af:Array Edge} {R:AVal→Prop} {f':FuncId} {xs1 args':List AVal}
  (h:PureC P f' args' R) (hent:Ent P f') (ha:ArgsOk H n xs1 args') (hl:(⟨d,.call ⟨.value g,args,ats⟩,ty,pos,af,none⟩::l:List Oper).all (fun o=>dok N o.dst)=true) (hg:ρ.ev g = .fn (.func f') [] []) (has:args.toList.map ρ.ev=xs1)
  (hk:∀ v,R v→RunK P f N k Q ops l (ρ.put d v) H n):RunK P f N k Q ops (⟨d,.call ⟨.value g,args,ats⟩,ty,pos,af,none⟩::l) ρ H n:=by
 simp only[List.all_cons,Bool.and_eq_true] at hl
 refine RunO.op rfl hl.1 ((OpSem.callP hg hent (has ▸ ha) h).mono ?_)
 rintro v _ _ ⟨h1,rfl,rfl⟩
 exact hk v h1
theorem RunK.makeS (hT:TypesOk P Ty) {ops:List Oper} {d len:Nat} {t:TypeId} {j:TI} {ps:Array (Nat × Operand)} {ty:TypeId} {pos:String} {af:Array Edge} {l':List Sh} {K:List OwnE} {ids:List Id} {cs:List AVal} (es:List (List AVal)) (h:Sep H n K ids)
  (hN:ops.all (fun o=>dok N o.dst)=true) (hl:(⟨some d,.buildSlice t len ps,ty,pos,af,none⟩::l:List Oper).all (fun o=>dok N o.dst)=true) (hf:∀ t ∈ l',t = .c) (hk:kd Ty t = .slice j) (hj:j.size=l'.length) (h0:len ≠ 0∧len * j.size≤16777216∧j.size ≠ 0∧j.zero.length=j.size)
  (hcs:fillA (fun k=>some (k * j.size,j.size)) ((List.replicate len (j.zero.map AVal.v)).flatten) (ps.toList.map fun p=>(p.1,ρ.ev p.2))=some cs) (hes:chunks j.size len cs=es) (hel:es.length=len) (ho:∀ e ∈ es,e.length=l'.length∧∀ a ∈ e,flat a=true)
  (hc:∀ id H' n',Sep H' n' ((.s l',.arr id len 0 len,.list true es)::K) ids→(∀ i ∈ ids,H' i=H i)→n≤n'→evalK P f N k Q Ty ops.toArray l (ρ.put (some d) (.arr id len 0 len)) H' n'):RunK P f N k Q ops.toArray (⟨some d,.buildSlice t len ps,ty,pos,af,none⟩::l) ρ H n:=by
 subst hes
 have e:ownF Ty (some d) (.buildSlice t len ps) ρ H n=some (.arr (n,d) len 0 len,H.set (n,d) ⟨j.size,chunks j.size len cs⟩,n+1):=by
  simp only[ownF,hk]
  rw[if_pos h0,hcs]
  rfl
 refine RunK.op hT hN hl rfl (ownF_ok (o:=⟨some d,.buildSlice t len ps,ty,pos,af,none⟩) hT e).1 ?_
 rintro _ _ _ ⟨rfl,rfl,rfl⟩
 have h1:=Sep.addNew (d:=d) (l:=l') (els:=chunks j.size len cs) (es:=chunks j.size len cs) h (rowsP.flats ho hf)
 rw[hel,← hj] at h1
 exact hc (n,d) _ _ h1 (fun i hi=>Heap.get_set_ne _ _ (by rintro rfl;have:=h.1 _ hi;simp at this)) (Nat.le_succ n)
end
end Go.Ab
