/- Merged texts (8 of 14) of the proof that ends in Cxy: Kh Kk Kkw Kl Ko L2k Kq Sf Kp Ma. -/
import Derived.Test.YtlmihcmpigdojaaGreatDoorAbQcx7
/- The reference's codes are the program's. -/
namespace Go.Ab.Vg
set_option linter.unusedSimpArgs false
set_option linter.unusedVariables false
def numsE (b:Big) (es:List Int):List Int:=(List.range b.edges.toNat).map fun l:Nat=>if (l:Int) ∈ es then ((es.idxOf (l:Int):Nat):Int) else -1
structure EsOk (b:Big) (es:List Int):Prop where
  ed:0≤b.edges∧b.edges≤8
  nd:es.Nodup
  rng:∀ x ∈ es,0≤x∧x<b.edges
theorem numsE_at {b:Big} {es:List Int} {l:Int} (h:0≤l∧l<b.edges):at' (numsE b es) l=if l ∈ es then ((es.idxOf l:Nat):Int) else -1:=by
  obtain⟨k,rfl⟩:∃ k:Nat,l=k:=⟨l.toNat,by omega⟩
  rw[at_lt (show k<(numsE b es).length by simp[numsE];omega)]
  simp[numsE]
theorem cnt_nums {b:Big} {es:List Int} (h:EsOk b es):cntZ (numsE b es)=(es.length:Int):=by
  have h1:(numsE b es).filter (fun x=>decide (0≤x))=((List.range b.edges.toNat).filter fun l:Nat=>decide ((l:Int) ∈ es)).map fun l:Nat=>((es.idxOf (l:Int):Nat):Int):=by
    rw[numsE,List.filter_map]
    generalize List.range b.edges.toNat=r
    induction r with
    | nil=>rfl
    | cons x r ih=>
      simp only[List.filter_cons,Function.comp]
      by_cases hx:(x:Int) ∈ es
      · have hx2:(0:Int)≤((es.idxOf (x:Int):Nat):Int):=by omega
        simp only[if_pos hx,hx,hx2,decide_true,if_true,List.map_cons]
        rw[ih]
      · have hx2:¬ (0:Int) ≤ -1:=by omega
        simp only[if_neg hx,hx,hx2,decide_false,Bool.false_eq_true,if_false]
        exact ih
  have h2:(((List.range b.edges.toNat).filter fun l:Nat=>decide ((l:Int) ∈ es)).map fun l:Nat=>(l:Int)).Perm es:=by
    refine (List.perm_ext_iff_of_nodup ?_ h.nd).2 fun a=>?_
    · exact List.Pairwise.map _ (fun a c hac=>by intro h;exact hac (by omega)) (List.Pairwise.filter _ List.nodup_range)
    · simp only[List.mem_map,List.mem_filter,List.mem_range,decide_eq_true_eq]
      refine⟨fun ⟨l,⟨_,h3⟩,h4⟩=>h4 ▸ h3,fun h3=>⟨a.toNat,⟨?_,?_⟩,?_⟩⟩
      · have:=h.rng a h3;omega
      · have:=h.rng a h3;rw[show ((a.toNat:Nat):Int)=a by omega];exact h3
      · have:=h.rng a h3;omega
  have h3:=h2.length_eq
  rw[cntZ,h1]
  simp only[List.length_map] at h3 ⊢
  omega
theorem nums_put {b:Big} {es:List Int} (h:EsOk b es) {l:Int} (hl:0≤l∧l<b.edges) (hm:l ∉ es):(numsE b es).set l.toNat (es.length:Int)=numsE b (es++[l]):=by
  refine List.ext_getElem (by simp[numsE]) fun i h1 h2=>?_
  simp only[numsE,List.getElem_set,List.getElem_map,List.getElem_range,List.length_set,List.length_map,List.length_range] at h1 ⊢
  by_cases he:l.toNat=i
  · have hil:(i:Int)=l:=by omega
    rw[if_pos he,hil,if_pos (by simp),List.idxOf_append,if_neg hm]
    simp
  · rw[if_neg he]
    have hil:(i:Int) ≠ l:=by omega
    by_cases hi:(i:Int) ∈ es
    · rw[if_pos hi,if_pos (by simp[hi]),List.idxOf_append,if_pos hi]
    · rw[if_neg hi,if_neg (by simp[hi,hil])]
theorem EsOk.add {b:Big} {es:List Int} (h:EsOk b es) {l:Int} (hl:0≤l∧l<b.edges) (hm:l ∉ es):EsOk b (es++[l]):=by
  refine⟨h.ed,?_,fun x hx=>?_⟩
  · rw[List.nodup_append]
    exact⟨h.nd,by simp,fun a ha c hc=>by simp only[List.mem_singleton] at hc;subst hc;exact fun e=>hm (e ▸ ha)⟩
  · rcases List.mem_append.1 hx with hx | hx
    · exact h.rng x hx
    · simp only[List.mem_singleton] at hx;subst hx;exact hl
theorem told_links {b:Big}:∀ (links es:List Int),EsOk b es→(∀ l ∈ links,0≤l)→toldZ b (numsE b es) links=((linksC b es links).1,numsE b (linksC b es links).2)∧EsOk b (linksC b es links).2
  | [],es,h,_=>⟨rfl,h⟩
  | l::t,es,h,hl=>by
    have hl0:=hl l (by simp)
    have ht:∀ x ∈ t,0≤x:=fun x hx=>hl x (by simp[hx])
    simp only[toldZ,linksC]
    by_cases h1:l ≥ b.edges
    · rw[if_pos h1,if_pos h1]
      obtain⟨e1,e2⟩:=told_links t es h ht
      exact⟨by rw[e1],e2⟩
    · have hr:0≤l∧l<b.edges:=⟨hl0,by omega⟩
      rw[if_neg h1,if_neg h1,numsE_at hr]
      by_cases h2:l ∈ es
      · rw[if_pos h2,if_pos h2,if_neg (by omega)]
        obtain⟨e1,e2⟩:=told_links t es h ht
        exact⟨by rw[e1,numsE_at hr,if_pos h2],e2⟩
      · rw[if_neg h2,if_neg h2,if_pos (by omega),cnt_nums h,nums_put h hr h2]
        obtain⟨e1,e2⟩:=told_links t (es++[l]) (h.add hr h2) ht
        refine⟨?_,e2⟩
        rw[e1,numsE_at hr,if_pos (by simp),List.idxOf_append,if_neg h2]
        simp
end Go.Ab.Vg
/- Attempts: the slice of none of them, and what compares codes. -/
namespace Go.Ab.Vg
set_option linter.unusedSimpArgs false
set_option linter.unusedVariables false
section
variable {P:Program} {N:Nat} {Ty:Types} {ρ:Env} {H:Heap} {n:Nat}
variable {d:Option Tmp} {ty:TypeId} {pos:String} {af:Array Edge} {gu:Option (Nat × Bool)}
theorem OpSem.slice00 (hT:TypesOk P Ty) {t:TypeId} {x hi mx:Operand} {j:TI} {L:Id} {gn sz:Nat} {els:List (List AVal)} (hk:kd Ty t = .slice j) (hx:ρ.ev x = .arr L gn 0 gn) (hL:H L=some ⟨sz,els⟩) (hg:els.length=gn)
    (hh:ρ.ev hi=int 0) (hm:ρ.ev mx=int 0) :
    OpSem P N ⟨d,.slice t x none (some hi) (some mx),ty,pos,af,gu⟩ ρ H n fun v1 H1 n1=>v1 = .list true []∧H1=H∧n1=n:=
  OpSem.pure fun c a hH g r=>by
    obtain⟨i,e,hi',hd,hj⟩:=kd_slice hk
    have hde:=(hT t i hi').run_desc c.w
    have hsz:=(hT e j hj).run_size c.w
    have rx:=r.ev x
    rw[hx] at rx
    have e1:=ev_bound r hh
    have e2:=ev_bound r hm
    have hb:∀ len cap:Nat,len≤cap→(Instr.sliceBounds true len cap none (some (a.eval hi)) (some (a.eval mx))).run P c.w = .ok (0,0,0) c.w:=fun len cap hcap=>by
      have b1:∀ cap code,(Instr.sliceBound (.int .i64 0) cap code).run P c.w = .ok 0 c.w:=fun cap code=>run_bound (by omega) (by omega)
      simp[Instr.sliceBounds,e1,e2,b1]
    generalize hvx:a.eval x=vx at rx
    cases rx with
    | arr _ _ _ _ _ hone hn hgl hp=>
      obtain⟨p1,ad,cap,rfl,hab,hsp,hlc,hoff,hcl⟩:=hp _ (by rw[hH];exact hL) hg
      have h1:=hb gn cap hlc
      refine⟨.slice (some ad) 0 0,?_,?_⟩
      · simp[execOp,Instr.sliceAt,Instr.slice,hde,hd,hvx,h1,hsz]
      · exact .list true [] ad 0 0 (fun _ _=>Go.undef) (fun h=>absurd rfl h) (Nat.le_refl _) (fun h=>absurd rfl h) (fun i e he=>by simp at he) (fun i e j x he=>by simp at he) (fun i e j x he=>by simp at he)
end
abbrev isNaNZ (_:Int):Bool:=false
def isNaNZ_wp (x:Int) (Z:Bool→Prop):Prop:=
  ∀ c2:Bool,c2=decide (x ≠ x)→Z c2
theorem isNaNZ_vc (x:Int):isNaNZ_wp x (fun y=>y=isNaNZ x):=by
  unfold isNaNZ_wp
  simp
def cmpIZ (a b:Int):Int:=if a<b then -1 else if b<a then 1 else 0
def cmpIZ_wp (x:Int) (y:Int) (Z:Int→Prop):Prop:=
  ∀ r2:Bool,r2=isNaNZ x→∀ r3:Bool,r3=isNaNZ y→((r2=true→((r3=true→Z 0)∧(r3=false→Z (-1))))∧(r2=false→((r3=true→Z 1)∧(r3=false→∀ c4:Bool,c4=decide (x<y)→((c4=true→Z (-1))∧(c4=false→∀ c6:Bool,c6=decide (y<x)→((c6=true→Z 1)∧(c6=false→Z 0))))))))
theorem cmpIZ_vc (x y:Int):cmpIZ_wp x y (fun z=>z=cmpIZ x y):=by
  unfold cmpIZ_wp
  simp only[forall_eq,decide_eq_true_eq,decide_eq_false_iff_not,isNaNZ]
  refine⟨fun h=>(by cases h),fun _=>⟨fun h=>(by cases h),fun _=>⟨fun h=>by rw[cmpIZ,if_pos h],fun h=>⟨fun h2=>by rw[cmpIZ,if_neg h,if_pos h2],fun h2=>by rw[cmpIZ,if_neg h,if_neg h2]⟩⟩⟩⟩
abbrev cmpZ_pre (a b:List Int):Prop:=a.length≤1048576∧b.length≤1048576
abbrev cmpZ (a b:List Int):Int:=cmpL a b
def cmpZ_wp (s1:List Int) (s2:List Int) (Z:Int→Prop):Prop:=
  ∀ len2:Int,len2=(s1.length:Int)→loopW (σ:=Int) (fun v6 K9=>∀ c10:Bool,c10=decide (v6<len2)→((c10=true→(0≤v6∧v6<s1.length)∧∀ x13:Int,x13=at' s1 v6→∀ len15:Int,len15=(s2.length:Int)→∀ c17:Bool,c17=decide (len15≤v6)→((c17=true→Z 1)∧(c17=false→(0≤v6∧v6<s2.length)∧∀ x20:Int,x20=at' s2 v6→∀ r23:Int,r23=cmpIZ x13 x20→∀ c24:Bool,c24=decide (r23 ≠ 0)→((c24=true→Z r23)∧(c24=false→(I64 (v6+1))∧∀ v27:Int,v27=v6+1→K9 (v27))))))∧(c10=false→∀ len29:Int,len29=(s1.length:Int)→∀ len31:Int,len31=(s2.length:Int)→∀ c33:Bool,c33=decide (len29<len31)→((c33=true→Z (-1))∧(c33=false→Z 0))))) (0)
theorem cmpZ_vc (a b:List Int) (h:cmpZ_pre a b):cmpZ_wp a b (fun z=>z=cmpZ a b):=by
  unfold cmpZ_wp
  obtain⟨h1,h2⟩:=h
  simp only[forall_eq,decide_eq_true_eq,decide_eq_false_iff_not]
  refine loopW.up1 a.length (fun i=>i≤b.length∧cmpL (a.drop i) (b.drop i)=cmpL a b) ⟨by omega,rfl⟩ ?_
  rintro i K hi ⟨hib,hI⟩ IH
  refine⟨fun h3=>⟨⟨by omega,by omega⟩,fun h4=>?_,fun h4=>⟨⟨by omega,by omega⟩,fun h5=>?_,fun h5=>⟨by simp only[I64];omega,IH (by omega) ⟨by omega,?_⟩⟩⟩⟩,fun h3=>⟨fun h4=>?_,fun h4=>?_⟩⟩
  · rw[cmpZ,← hI,List.drop_of_length_le (l:=b) (by omega),List.drop_eq_getElem_cons (show i<a.length by omega)];rfl
  · rw[cmpZ,← hI,List.drop_eq_getElem_cons (show i<a.length by omega),List.drop_eq_getElem_cons (show i<b.length by omega)]
    rw[at_lt (show i<a.length by omega),at_lt (show i<b.length by omega)] at h5 ⊢
    simp only[cmpL,cmpIZ] at h5 ⊢
    repeat' split
    all_goals first | rfl | omega | (exfalso;simp_all)
  · rw[← hI,List.drop_eq_getElem_cons (show i<a.length by omega),List.drop_eq_getElem_cons (show i<b.length by omega)]
    rw[at_lt (show i<a.length by omega),at_lt (show i<b.length by omega)] at h5
    have h6:=Classical.not_not.1 h5
    simp only[cmpIZ] at h6
    simp only[cmpL]
    split
    · rename_i h7;rw[if_pos h7] at h6;omega
    · rename_i h7
      rw[if_neg h7] at h6
      split
      · rename_i h8;rw[if_pos h8] at h6;omega
      · rfl
  · rw[cmpZ,← hI,List.drop_of_length_le (l:=a) (by omega),List.drop_eq_getElem_cons (show i<b.length by omega)];rfl
  · rw[cmpZ,← hI,List.drop_of_length_le (l:=a) (by omega),List.drop_of_length_le (l:=b) (by omega)];rfl
end Go.Ab.Vg
/- Walks by program for YtlmihcmpigdojaaGreatDoorAbKk. -/
namespace Go.Ab.Vg
open Go.Proofs
set_option maxRecDepth 100000
set_option linter.unusedSimpArgs false
set_option linter.unusedVariables false
attribute [local simp] intC
theorem e147:Ent Tryz.prog 147:=Ent.of Tryz.func147 (by kernel_rfl) rfl
theorem isNaNZ_walk (x:Int) (Z:Bool→Prop) (h:isNaNZ_wp x Z):PureC Tryz.prog 147 [int x] (fun r=>∃ y:Bool,Z y∧r=bool y):=by
  unfold isNaNZ_wp at h
  refine PureC.of Tryz.func147 rfl Tryz.ntmps147 (by simp) fun Q hQ=>?_
  refine Runs.cut (fun ρ H n=>ρ 0=int x) (by simp[]) ?_
  rintro ρ H n1 hh
  refine zE fun k' hk'=>?_
  simp[hh]
  apply hk'
  refine zE fun k' hk'=>?_
  obtain⟨c2,ec2,h⟩:=atm h
  have f3:=ib_neq (k:=.i64) ec2
  simp[hh,f3,-intBin]
  apply hk'
  exact Runs.ret1 (v:=bool c2) Tryz.func147 Tryz.results147 (by simp[hh]) (hQ _ _ _ _ (.of (.v _)) ⟨c2,h,rfl⟩)
theorem isNaNZ_ok (x:Int)  : PureC Tryz.prog 147 [int x] (fun r=>r=bool (isNaNZ x)):=(isNaNZ_walk x _ (isNaNZ_vc x )).mono (by rintro _ ⟨_,rfl,rfl⟩;rfl)
theorem e134:Ent Tryz.prog 134:=Ent.of Tryz.func134 (by kernel_rfl) rfl
theorem cmpIZ_walk (x:Int) (y:Int) (Z:Int→Prop) (h:cmpIZ_wp x y Z):PureC Tryz.prog 134 [int x,int y] (fun r=>∃ y:Int,Z y∧r=int y):=by
  unfold cmpIZ_wp at h
  refine PureC.of Tryz.func134 rfl Tryz.ntmps134 (by simp) fun Q hQ=>?_
  refine Runs.cut (fun ρ H n=>(ρ 0=int x∧ρ 1=int y)) (by simp[]) ?_
  rintro ρ H n1 hh
  refine zE fun k' hk'=>?_
  simp[hh]
  apply hk'
  refine zE fun k' hk'=>?_
  obtain⟨r2,er2,h⟩:=atm h
  simp[hh]
  refine RunK.callA Ty_ok (isNaNZ_ok x ) e147 (.cons (.v _ _ _) .nil) (by decide) (by decide) rfl (by simp[hh]) ?_
  rintro _ rfl
  rw[← er2]
  simp[hh]
  apply hk'
  refine zE fun k' hk'=>?_
  obtain⟨r3,er3,h⟩:=atm h
  simp[hh]
  refine RunK.callA Ty_ok (isNaNZ_ok y ) e147 (.cons (.v _ _ _) .nil) (by decide) (by decide) rfl (by simp[hh]) ?_
  rintro _ rfl
  rw[← er3]
  simp[hh]
  apply hk'
  refine Runs.seq ?_
  refine zE fun k' hk'=>?_
  simp[hh]
  apply hk'
  refine Runs.ite (b:=r2) (by simp[hh]) (fun dr2=>?_) (fun dr2=>?_)
  · replace h:=h.1 dr2
    refine Runs.seq ?_
    refine zE fun k' hk'=>?_
    simp[hh,dr2]
    apply hk'
    refine Runs.ite (b:=r3) (by simp[hh,dr2]) (fun dr3=>?_) (fun dr3=>?_)
    · replace h:=h.1 dr3
      refine zE fun k' hk'=>?_
      simp[hh,dr2,dr3]
      apply hk'
      exact Runs.ret1 (v:=int 0) Tryz.func134 Tryz.results134 (by simp[hh,dr2,dr3]) (hQ _ _ _ _ (.of (.v _)) ⟨0,h,rfl⟩)
    replace h:=h.2 dr3
    refine Runs.skip ?_
    refine zE fun k' hk'=>?_
    simp[hh,dr2,dr3]
    apply hk'
    exact Runs.ret1 (v:=int (-1)) Tryz.func134 Tryz.results134 (by simp[hh,dr2,dr3]) (hQ _ _ _ _ (.of (.v _)) ⟨(-1),h,rfl⟩)
  replace h:=h.2 dr2
  refine Runs.skip ?_
  refine Runs.seq ?_
  refine zE fun k' hk'=>?_
  simp[hh,dr2]
  apply hk'
  refine Runs.ite (b:=r3) (by simp[hh,dr2]) (fun dr3=>?_) (fun dr3=>?_)
  · replace h:=h.1 dr3
    refine zE fun k' hk'=>?_
    simp[hh,dr2,dr3]
    apply hk'
    exact Runs.ret1 (v:=int 1) Tryz.func134 Tryz.results134 (by simp[hh,dr2,dr3]) (hQ _ _ _ _ (.of (.v _)) ⟨1,h,rfl⟩)
  replace h:=h.2 dr3
  refine Runs.skip ?_
  refine Runs.seq ?_
  refine zE fun k' hk'=>?_
  obtain⟨c4,ec4,h⟩:=atm h
  have f5:=ib_lss (k:=.i64) ec4
  simp[hh,f5,dr2,dr3,-intBin]
  apply hk'
  refine Runs.ite (b:=c4) (by simp[hh,dr2,dr3]) (fun dc4=>?_) (fun dc4=>?_)
  · replace h:=h.1 dc4
    refine zE fun k' hk'=>?_
    simp[hh,dr2,dr3,dc4]
    apply hk'
    exact Runs.ret1 (v:=int (-1)) Tryz.func134 Tryz.results134 (by simp[hh,dr2,dr3,dc4]) (hQ _ _ _ _ (.of (.v _)) ⟨(-1),h,rfl⟩)
  replace h:=h.2 dc4
  refine Runs.skip ?_
  refine Runs.seq ?_
  refine zE fun k' hk'=>?_
  obtain⟨c6,ec6,h⟩:=atm h
  have f7:=ib_gtr (k:=.i64) ec6
  simp[hh,f7,dr2,dr3,dc4,-intBin]
  apply hk'
  refine Runs.cut (fun ρ H n=>ρ 19=bool c6) (by simp[hh,f7,dr2,dr3,dc4,-intBin]) ?_
  clear hh
  rintro ρ H n8 hh
  refine Runs.ite (b:=c6) (by simp[hh]) (fun dc6=>?_) (fun dc6=>?_)
  · replace h:=h.1 dc6
    refine zE fun k' hk'=>?_
    simp[hh,dc6]
    apply hk'
    exact Runs.ret1 (v:=int 1) Tryz.func134 Tryz.results134 (by simp[hh,dc6]) (hQ _ _ _ _ (.of (.v _)) ⟨1,h,rfl⟩)
  replace h:=h.2 dc6
  refine Runs.skip ?_
  refine zE fun k' hk'=>?_
  simp[hh,dc6]
  apply hk'
  exact Runs.ret1 (v:=int 0) Tryz.func134 Tryz.results134 (by simp[hh,dc6]) (hQ _ _ _ _ (.of (.v _)) ⟨0,h,rfl⟩)
theorem cmpIZ_ok (x:Int) (y:Int)  : PureC Tryz.prog 134 [int x,int y] (fun r=>r=int (cmpIZ x y)):=(cmpIZ_walk x y _ (cmpIZ_vc x y )).mono (by rintro _ ⟨_,rfl,rfl⟩;rfl)
theorem e101:Ent Tryz.prog 101:=Ent.of Tryz.func101 (by kernel_rfl) rfl
theorem cmpZ_walk (s1:List Int) (s2:List Int) (Z:Int→Prop) (h:cmpZ_wp s1 s2 Z):PureC Tryz.prog 101 [.list false (s1.map intC),.list false (s2.map intC)] (fun r=>∃ y:Int,Z y∧r=int y):=by
  unfold cmpZ_wp at h
  refine PureC.of Tryz.func101 rfl Tryz.ntmps101 (by simp) fun Q hQ=>?_
  refine Runs.cut (fun ρ H n=>(ρ 0 = .list false (s1.map intC)∧ρ 1 = .list false (s2.map intC))) (by simp) ?_
  rintro ρ H n1 hh
  refine zE fun k' hk'=>?_
  simp[hh]
  apply hk'
  refine Runs.seq ?_
  refine zE fun k' hk'=>?_
  obtain⟨len2,elen2,h⟩:=atm h
  have f3:=fun H=>len_list (H:=H) (fr:=false) (f:=intC) kd_24 elen2
  simp[hh,f3,-lenF]
  apply hk'
  refine Runs.block ?_
  refine Runs.loopW h (fun (sJ:Int) ρ H n=>match sJ with | v6=>(ρ 0 = .list false (s1.map intC)∧ρ 1 = .list false (s2.map intC)∧ρ 9 = .list false (s1.map intC)∧ρ 10=int len2∧ρ 11=int v6)) (by simp[hh]) ?_
  clear hh
  rintro v6 ρ H n7 K h hh IH8
  refine zE fun k' hk'=>?_
  obtain⟨c10,ec10,h⟩:=atm h
  have f11:=ib_lss (k:=.i64) ec10
  simp[hh,f11,-intBin]
  apply hk'
  refine Runs.seq ?_
  refine Runs.ite (b:=c10) (by simp[hh]) (fun dc10=>?_) (fun dc10=>?_)
  · replace h:=h.1 dc10
    refine Runs.skip ?_
    refine Runs.seq ?_
    refine Runs.block ?_
    refine zE fun k' hk'=>?_
    obtain⟨hb12,h⟩:=h
    obtain⟨x13,ex13,h⟩:=atm h
    have f14:=fun H=>ix_list (H:=H) (fr:=false) (f:=intC) (k:=.i64) kd_24 (fun _=>rfl) hb12 ex13
    simp[hh,f14,dc10,-indexAddrF]
    apply hk'
    refine Runs.seq ?_
    refine zE fun k' hk'=>?_
    obtain⟨len15,elen15,h⟩:=atm h
    have f16:=fun H=>len_list (H:=H) (fr:=false) (f:=intC) kd_24 elen15
    obtain⟨c17,ec17,h⟩:=atm h
    have f18:=ib_geq (k:=.i64) ec17
    simp[hh,f16,f18,dc10,-intBin,-lenF]
    apply hk'
    refine Runs.ite (b:=c17) (by simp[hh,dc10]) (fun dc17=>?_) (fun dc17=>?_)
    · replace h:=h.1 dc17
      refine zE fun k' hk'=>?_
      simp[hh,dc10,dc17]
      apply hk'
      exact Runs.ret1 (v:=int 1) Tryz.func101 Tryz.results101 (by simp[hh,dc10,dc17]) (hQ _ _ _ _ (.of (.v _)) ⟨1,h,rfl⟩)
    replace h:=h.2 dc17
    refine Runs.skip ?_
    refine zE fun k' hk'=>?_
    obtain⟨hb19,h⟩:=h
    obtain⟨x20,ex20,h⟩:=atm h
    have f21:=fun H=>ix_list (H:=H) (fr:=false) (f:=intC) (k:=.i64) kd_24 (fun _=>rfl) hb19 ex20
    simp[hh,f21,dc10,dc17,-indexAddrF]
    apply hk'
    refine Runs.cut (fun ρ H n=>(ρ 0 = .list false (s1.map intC)∧ρ 1 = .list false (s2.map intC)∧ρ 6=int x13∧ρ 7=int x20∧ρ 9 = .list false (s1.map intC)∧ρ 10=int len2∧ρ 11=int v6)) (by simp[hh,f21,dc10,dc17,-indexAddrF]) ?_
    clear hh
    rintro ρ H n22 hh
    refine zE fun k' hk'=>?_
    obtain⟨r23,er23,h⟩:=atm h
    simp[hh]
    refine RunK.callA Ty_ok (cmpIZ_ok x13 x20 ) e134 (.cons (.v _ _ _) (.cons (.v _ _ _) .nil)) (by decide) (by decide) rfl (by simp[hh]) ?_
    rintro _ rfl
    rw[← er23]
    simp[hh]
    apply hk'
    refine zE fun k' hk'=>?_
    obtain⟨c24,ec24,h⟩:=atm h
    have f25:=ib_neq (k:=.i64) ec24
    simp[hh,f25,-intBin]
    apply hk'
    refine Runs.ite (b:=c24) (by simp[hh]) (fun dc24=>?_) (fun dc24=>?_)
    · replace h:=h.1 dc24
      refine zE fun k' hk'=>?_
      simp[hh,dc24]
      apply hk'
      exact Runs.ret1 (v:=int r23) Tryz.func101 Tryz.results101 (by simp[hh,dc24]) (hQ _ _ _ _ (.of (.v _)) ⟨r23,h,rfl⟩)
    replace h:=h.2 dc24
    refine Runs.skip ?_
    refine Runs.inBlock ?_
    refine zF fun k' hk'=>?_
    obtain⟨hb26,h⟩:=h
    obtain⟨v27,ev27,h⟩:=atm h
    have f28:=ib_add hb26 ev27
    simp[hh,f28,dc24,-intBin]
    apply hk'
    refine IH8 (v27) _ _ _ h (by simp[hh,dc24])
  replace h:=h.2 dc10
  refine Runs.exit rfl ?_
  refine Runs.seq ?_
  refine zE fun k' hk'=>?_
  obtain⟨len29,elen29,h⟩:=atm h
  have f30:=fun H=>len_list (H:=H) (fr:=false) (f:=intC) kd_24 elen29
  obtain⟨len31,elen31,h⟩:=atm h
  have f32:=fun H=>len_list (H:=H) (fr:=false) (f:=intC) kd_24 elen31
  obtain⟨c33,ec33,h⟩:=atm h
  have f34:=ib_lss (k:=.i64) ec33
  simp[hh,f30,f32,f34,dc10,-intBin,-lenF]
  apply hk'
  refine Runs.ite (b:=c33) (by simp[hh,dc10]) (fun dc33=>?_) (fun dc33=>?_)
  · replace h:=h.1 dc33
    refine zE fun k' hk'=>?_
    simp[hh,dc10,dc33]
    apply hk'
    exact Runs.ret1 (v:=int (-1)) Tryz.func101 Tryz.results101 (by simp[hh,dc10,dc33]) (hQ _ _ _ _ (.of (.v _)) ⟨(-1),h,rfl⟩)
  replace h:=h.2 dc33
  refine Runs.skip ?_
  refine zE fun k' hk'=>?_
  simp[hh,dc10,dc33]
  apply hk'
  exact Runs.ret1 (v:=int 0) Tryz.func101 Tryz.results101 (by simp[hh,dc10,dc33]) (hQ _ _ _ _ (.of (.v _)) ⟨0,h,rfl⟩)
theorem cmpZ_ok (s1:List Int) (s2:List Int) (hp:cmpZ_pre s1 s2):PureC Tryz.prog 101 [.list false (s1.map intC),.list false (s2.map intC)] (fun r=>r=int (cmpZ s1 s2)):=(cmpZ_walk s1 s2 _ (cmpZ_vc s1 s2 hp)).mono (by rintro _ ⟨_,rfl,rfl⟩;rfl)
end Go.Ab.Vg
/- The attempts with the least code: impl.leastOf, by hand. -/
namespace Go.Ab.Vg
set_option linter.unusedSimpArgs false
set_option linter.unusedVariables false
open Go.Proofs
abbrev AttV:=Att × AVal
def rowA (b:Big) (p:AttV):List AVal:=cdE (some (.list true (p.1.order.map intC))) b (.list true (p.1.s.es.map intC)) (.list true (p.1.s.pl.map intC)) p.2
def cEnt (ps:List AttV):List OwnE:=ps.map fun p=>oI p.2 p.1.code
def putP (out:List AttV) (x:AttV):List AttV:=
  match out with
  | []=>[x]
  | w::t=>if cmpL x.1.code w.1.code<0 then [x] else if cmpL x.1.code w.1.code=0 then (w::t)++[x] else w::t
def leastP (ps:List AttV):List AttV:=ps.foldl putP []
theorem putP_ne (out:List AttV) (x:AttV):putP out x ≠ []:=by
  cases out with
  | nil=>simp[putP]
  | cons w t=>
    simp only[putP]
    split
    · simp
    · split<;>simp
theorem putP_fst (out:List AttV) (x:AttV):(putP out x).map (·.1)=putA (out.map (·.1)) x.1:=by
  cases out with
  | nil=>rfl
  | cons w t=>
    simp only[putP,putA,List.map_cons]
    split
    · rfl
    · split
      · simp
      · rfl
theorem leastP_fst (ps:List AttV):(leastP ps).map (·.1)=leastA (ps.map (·.1)):=by
  have:∀ (ps out:List AttV),(ps.foldl putP out).map (·.1)=(ps.map (·.1)).foldl putA (out.map (·.1)):=by
    intro ps
    induction ps with
    | nil=>intro out;rfl
    | cons p ps ih=>intro out;simp only[List.foldl_cons,List.map_cons];rw[ih,putP_fst]
  exact this ps []
theorem putP_sub {out:List AttV} {x:AttV}:∀ p ∈ putP out x,p ∈ out∨p=x:=by
  intro p hp
  cases out with
  | nil=>simp only[putP,List.mem_singleton] at hp;exact .inr hp
  | cons w t=>
    simp only[putP] at hp
    split at hp
    · simp only[List.mem_singleton] at hp;exact .inr hp
    · split at hp
      · simp only[List.mem_append,List.mem_singleton] at hp;exact hp
      · exact .inl hp
theorem Sep.memOc {H:Heap} {n:Nat} {K:List OwnE} {ids:List Id} (h:Sep H n K ids) {v:AVal} {l:List Int} (he:oI v l ∈ K):Ab.one1 v=true∧cellsA v=some [v]∧ArgOk H n v (.list false (l.map intC)):=by
  obtain⟨K1,K2,rfl⟩:=List.append_of_mem he
  have h1:=Sep.front (x:=oI v l) h
  exact⟨h1.one1,h1.cells,Sep.argOk' h1 (old_listF (by intro e he a ha;obtain⟨x,_,rfl⟩:=List.mem_map.1 he;simp only[intC,List.mem_singleton] at ha;subst ha;rfl))⟩
theorem Runs.lastK {P:Program} {f:FuncId} {N:Nat} {k:List Item} {Q:AVal→Heap→Nat→Prop} {ρ:Env} {H:Heap} {n:Nat} {id:Nat} {ops:List Oper} (h:∀ k':List Item,(∀ ρ H n,Runs P f N k ρ H n Q→Runs P f N k' ρ H n Q)→RunK P f N k' Q ops.toArray ops ρ H n) :
    Runs P f N (.code (.region id ops.toArray false)::k) ρ H n Q:=Runs.region (h k fun _ _ _ h=>h)
theorem rowA_len (b:Big) (p:AttV):(rowA b p).length=10:=by simp[rowA,cdE,Big.cells]
section
variable {H:Heap} {n:Nat}
set_option maxRecDepth 100000 in
theorem leastOf_c {b:Big} {ps:List AttV} {K:List OwnE} {ids:List Id} {L:Id} (hne:ps ≠ []) (hL:H L=some ⟨10,ps.map (rowA b)⟩) (hc:∀ p ∈ ps,p.1.code.length≤1048576) (hlen:ps.length≤536870912) (sp:Sep H n (cEnt ps++K) (L::ids)) (hLi:L ∉ ids) :
    CallsA Tryz.prog 100 [.arr L ps.length 0 ps.length] H n (fun r H1 n1=>∃ O,r = .arr O (leastP ps).length 0 (leastP ps).length∧H1 O=some ⟨10,(leastP ps).map (rowA b)⟩∧O ∉ L::ids ∧
      Sep H1 n1 (cEnt ps++K) (O::L::ids)∧(∀ i ∈ L::ids,H1 i=H i)∧n≤n1):=by
  refine CallsA.of Tryz.func100 rfl Tryz.ntmps100 (by simp) fun Q hQ=>?_
  refine Runs.seqE Ty_ok (by decide) fun k' hk'=>?_
  simp
  apply hk'
  refine Runs.seqE Ty_ok (by decide) fun k' hk'=>?_
  simp
  refine RunK.op Ty_ok (by decide) (by decide) rfl (OpSem.slice00 Ty_ok (L:=L) (gn:=ps.length) kd_117 (by simp) hL (by simp) (by simp) (by simp)) ?_
  rintro _ H n ⟨rfl,rfl,rfl⟩
  simp
  apply hk'
  refine Runs.seq ?_
  refine Runs.seqE Ty_ok (by decide) fun k' hk'=>?_
  simp[hL]
  apply hk'
  refine Runs.block (Runs.loopUp ps.length (fun i ρ Hi ni=>ρ 9 = .arr L ps.length 0 ps.length∧ρ 10=int ps.length∧ρ 11=int i∧n≤ni∧(∀ j ∈ L::ids,Hi j=H j) ∧
      (((ps.take i).foldl putP []=[]∧ρ 3 = .list true []∧Sep Hi ni (cEnt ps++K) (L::ids)) ∨
       ∃ O,(ps.take i).foldl putP [] ≠ []∧ρ 3 = .arr O ((ps.take i).foldl putP []).length 0 ((ps.take i).foldl putP []).length∧Hi O=some ⟨10,((ps.take i).foldl putP []).map (rowA b)⟩∧O ∉ L::ids∧Sep Hi ni (cEnt ps++K) (O::L::ids)))
    ⟨by simp,by simp,by simp,Nat.le_refl _,fun _ _=>rfl,.inl ⟨by simp,by simp,sp⟩⟩ ?_)
  clear hk' sp
  rintro i ρ Hi ni hi ⟨r9,r10,r11,hni,fri,hout⟩ IH
  refine Runs.seqE Ty_ok (by decide) fun k' hk'=>?_
  simp[r10,r11]
  apply hk'
  refine Runs.seq ?_
  refine Runs.ite rfl (fun hc1=>?_) (fun hc1=>?_)
  · have hc1:i<ps.length:=by simpa using hc1
    refine Runs.skip ?_
    refine Runs.seq ?_
    refine Runs.block ?_
    have htk:(ps.take (i+1)).foldl putP []=putP ((ps.take i).foldl putP []) ps[i]:=by rw[← List.take_append_getElem hc1,List.foldl_append];rfl
    have hpm:ps[i] ∈ ps:=List.getElem_mem hc1
    have hLi2:Hi L=some ⟨10,ps.map (rowA b)⟩:=(fri L (by simp)).trans hL
    have hoc:Ab.one1 ps[i].2=true∧cellsA ps[i].2=some [ps[i].2]:=by
      rcases hout with ⟨_,_,sp⟩ | ⟨O,_,_,_,_,sp⟩
      · have:=Sep.memOc sp (v:=ps[i].2) (l:=ps[i].1.code) (List.mem_append_left _ (List.mem_map.2 ⟨_,hpm,rfl⟩));exact⟨this.1,this.2.1⟩
      · have:=Sep.memOc sp (v:=ps[i].2) (l:=ps[i].1.code) (List.mem_append_left _ (List.mem_map.2 ⟨_,hpm,rfl⟩));exact⟨this.1,this.2.1⟩
    generalize hp:ps[i]=p at htk hpm hoc
    have hrow:(ps.map (rowA b))[i]?=some (rowA b p):=by rw[List.getElem?_map,List.getElem?_eq_getElem hc1,hp];rfl
    refine Runs.seqE Ty_ok (by decide) fun k' hk'=>?_
    have hX1:∀ i ∈ L::ids,i.1<ni:=by
      rcases hout with ⟨_,_,sp⟩ | ⟨O,_,_,_,_,sp⟩
      · exact sp.1
      · exact fun i hi=>sp.1 i (List.mem_cons_of_mem _ hi)
    simp[r9,r11,hLi2,hc1,hrow,hp,rowA,cdE,Big.cells,encN,encI,encS,encW,hoc,-cellsA,-one1,cAx,o1x]
    apply hk'
    refine Runs.seqE Ty_ok (by decide) fun k' hk'=>?_
    simp
    apply hk'
    generalize hout0:(ps.take i).foldl putP []=outs at hout htk
    refine Runs.cut (fun ρ Hi nj=>ρ 5 = .ptr (ni,5) 1 0 0∧ρ 6=int (-1)∧ρ 9 = .arr L ps.length 0 ps.length∧ρ 10=int ps.length∧ρ 11=int i∧n≤nj∧Hi (ni,5)=some ⟨10,[rowA b p]⟩∧(∀ j ∈ L::ids,Hi j=H j) ∧
      ((outs=[]∧ρ 3 = .list true []∧Sep Hi nj (cEnt ps++K) ((ni,5)::L::ids)) ∨
       ∃ O,outs ≠ []∧ρ 3 = .arr O outs.length 0 outs.length∧Hi O=some ⟨10,outs.map (rowA b)⟩∧O ∉ L::ids∧O ≠ (ni,5)∧Sep Hi nj (cEnt ps++K) ((ni,5)::O::L::ids)))
      ⟨by simp,by simp,by simp[r9],by simp[r10],by simp[r11],by omega,by simp[rowA,cdE,Big.cells,encN,encI,encS,encW],fun j hj=>?_,?_⟩ ?_
    · rw[Heap.get_set_ne _ _ (by rintro rfl;have:=hX1 _ hj;simp at this)];exact fri j hj
    · rcases hout with ⟨h0,r3,sp⟩ | ⟨O,h0,r3,mO,hO,sp⟩
      · exact .inl ⟨h0,by simp[r3],Sep.var sp⟩
      · have hOn:O ≠ (ni,5):=by rintro rfl;have:=sp.1 (ni,5) (by simp);simp at this
        exact .inr ⟨O,h0,by simp[r3],by rw[Heap.get_set_ne _ _ hOn];exact mO,hO,hOn,Sep.var sp⟩
    clear hk' r9 r10 r11 hLi2 fri hout hni
    rintro ρ Hi nj ⟨r5,r6,r9,r10,r11,hni,mX,fri,hout⟩
    cases outs with
    | nil=>
      rcases hout with ⟨_,r3,sp⟩ | ⟨O,h0,_⟩
      · refine Runs.seq ?_
        refine Runs.seqE Ty_ok (by decide) fun k' hk'=>?_
        simp[r3]
        apply hk'
        refine Runs.ite rfl (fun hc3=>?_) (fun _=>?_)
        · cases hc3
        refine Runs.skip ?_
        refine Runs.block ?_
        refine Runs.seqE Ty_ok (by decide) fun k' hk'=>?_
        simp[r6]
        apply hk'
        refine Runs.ite rfl (fun _=>?_) (fun hc3=>?_)
        · have hput:putP [] p=[p]:=rfl
          refine Runs.lastK fun k' hk'=>?_
          refine RunK.same1 (v:=.agg (rowA b p)) Ty_ok (by decide) rfl (by simp[r5,mX,rowA_len,List.take_of_length_le]) ?_
          refine RunK.op Ty_ok (by decide) (by decide) rfl (ownF_ok (v:=.arr (nj,31) 1 0 1) (H':=Hi.set (nj,31) ⟨10,[rowA b p]⟩) (n':=nj+1) Ty_ok (by simp[ownF,rowA,cdE,Big.cells,encN,encI,encS,encW,List.range_succ])).1 ?_
          rintro _ _ _ ⟨rfl,rfl,rfl⟩
          simp
          apply hk'
          refine Runs.inBlock ?_
          refine Runs.inBlock ?_
          refine Runs.evalE Ty_ok (by decide) fun k' hk'=>?_
          have f2:=ib_add (show I64 ((i:Int)+1) by simp only[I64];omega) (show ((i+1:Nat):Int)=(i:Int)+1 by omega)
          simp[r11,f2,-intBin]
          apply hk'
          have hOn:(nj,31) ∉ L::ids:=fun h=>by have:=sp.1 (nj,31) (by simp only[List.mem_cons] at h ⊢;exact .inr h);simp at this
          refine IH hc1 _ _ _ ⟨by simp[r9],by simp[r10],by simp,by omega,fun j hj=>by rw[Heap.get_set_ne _ _ (show j ≠ (nj,31) from fun h=>hOn (h ▸ hj))];exact fri j hj,.inr ⟨(nj,31),by rw[htk,hput];simp,by rw[htk,hput];simp,by rw[htk,hput];simp,hOn,?_⟩⟩
          exact Sep.sub (Sep.var sp) (by simp +contextual)
        · cases hc3
      · exact absurd rfl h0
    | cons w t=>
      rcases hout with ⟨h0,_⟩ | ⟨O,_,r3,mO,hO,hOX,sp⟩
      · cases h0
      · have hwm:w ∈ ps:=by
          have hs:∀ (l out:List AttV),∀ q ∈ l.foldl putP out,q ∈ out∨q ∈ l:=by
            intro l
            induction l with
            | nil=>intro out q hq;exact .inl hq
            | cons x l ih=>
              intro out q hq
              rcases ih _ q hq with h | h
              · rcases putP_sub q h with h | rfl
                · exact .inl h
                · exact .inr (by simp)
              · exact .inr (by simp[h])
          rcases hs (ps.take i) [] w (by rw[hout0];simp) with h | h
          · cases h
          · exact List.mem_of_mem_take h
        have hlt:(w::t).length≤i:=by
          have hs:∀ (l out:List AttV),(l.foldl putP out).length≤out.length+l.length:=by
            intro l
            induction l with
            | nil=>intro out;simp
            | cons x l ih=>
              intro out
              have h1:=ih (putP out x)
              have h2:(putP out x).length≤out.length+1:=by
                cases out with
                | nil=>simp[putP]
                | cons w t=>
                  simp only[putP]
                  split
                  · simp
                  · split<;>simp
              simp only[List.foldl_cons,List.length_cons]
              omega
          have:=hs (ps.take i) []
          rw[hout0] at this
          simp only[List.length_nil,List.length_take] at this
          omega
        have hpe:=Sep.memOc sp (v:=p.2) (l:=p.1.code) (List.mem_append_left _ (List.mem_map.2 ⟨_,hpm,rfl⟩))
        have hwe:=Sep.memOc sp (v:=w.2) (l:=w.1.code) (List.mem_append_left _ (List.mem_map.2 ⟨_,hwm,rfl⟩))
        refine Runs.seq ?_
        refine Runs.seqE Ty_ok (by decide) fun k' hk'=>?_
        simp[r3,mO]
        apply hk'
        refine Runs.ite rfl (fun _=>?_) (fun hc3=>?_)
        · refine Runs.evalDE Ty_ok kindOp_ok draws (by decide) (by kernel_rfl) fun k' hk'=>?_
          simp[r5,r3,mX,mO,rowA,cdE,Big.cells]
          refine RunDK.callA Ty_ok kindOp_ok (cmpZ_ok p.1.code w.1.code ⟨hc _ hpm,hc _ hwm⟩) e101 (.cons hpe.2.2 (.cons hwe.2.2 .nil)) (by decide) rfl (by simp) ?_
          simp
          apply hk'
          refine Runs.block ?_
          refine Runs.seqE Ty_ok (by decide) fun k' hk'=>?_
          simp
          apply hk'
          refine Runs.ite rfl (fun hc4=>?_) (fun hc4=>?_)
          · have hc4:cmpL p.1.code w.1.code<0:=by simpa using hc4
            have hput:putP (w::t) p=[p]:=by simp only[putP];rw[if_pos hc4]
            refine Runs.lastK fun k' hk'=>?_
            refine RunK.same1 (v:=.agg (rowA b p)) Ty_ok (by decide) rfl (by simp[r5,mX,rowA_len,List.take_of_length_le]) ?_
            refine RunK.op Ty_ok (by decide) (by decide) rfl (ownF_ok (v:=.arr (nj,31) 1 0 1) (H':=Hi.set (nj,31) ⟨10,[rowA b p]⟩) (n':=nj+1) Ty_ok (by simp[ownF,rowA,cdE,Big.cells,encN,encI,encS,encW,List.range_succ])).1 ?_
            rintro _ _ _ ⟨rfl,rfl,rfl⟩
            simp
            apply hk'
            refine Runs.inBlock ?_
            refine Runs.inBlock ?_
            refine Runs.evalE Ty_ok (by decide) fun k' hk'=>?_
            have f2:=ib_add (show I64 ((i:Int)+1) by simp only[I64];omega) (show ((i+1:Nat):Int)=(i:Int)+1 by omega)
            simp[r11,f2,-intBin]
            apply hk'
            have hOn:(nj,31) ∉ L::ids:=fun h=>by have:=sp.1 (nj,31) (by simp only[List.mem_cons] at h ⊢;exact .inr (.inr h));simp at this
            refine IH hc1 _ _ _ ⟨by simp[r9],by simp[r10],by simp,by omega,fun j hj=>by rw[Heap.get_set_ne _ _ (show j ≠ (nj,31) from fun h=>hOn (h ▸ hj))];exact fri j hj,.inr ⟨(nj,31),by rw[htk,hput];simp,by rw[htk,hput];simp,by rw[htk,hput];simp,hOn,?_⟩⟩
            exact Sep.sub (Sep.var sp) (by simp +contextual)
          · have hc4:¬ cmpL p.1.code w.1.code<0:=by simpa using hc4
            refine Runs.seqE Ty_ok (by decide) fun k' hk'=>?_
            simp
            apply hk'
            refine Runs.ite rfl (fun hc5=>?_) (fun hc5=>?_)
            · have hc5:cmpL p.1.code w.1.code=0:=by simpa using hc5
              have hput:putP (w::t) p=(w::t)++[p]:=by simp only[putP];rw[if_neg hc4,if_pos hc5]
              have hbig:t.length+1+1≤1073741824:=by simp only[List.length_cons] at hlt;omega
              refine Runs.evalE Ty_ok (by decide) fun k' hk'=>?_
              simp[r3,r5,mX,mO,rowA,cdE,Big.cells,encN,encI,encS,encW,hpe.1,hpe.2.1,List.range_succ,hbig,-cellsA,-one1,cAx,o1x]
              apply hk'
              refine Runs.inBlock ?_
              refine Runs.inBlock ?_
              refine Runs.evalE Ty_ok (by decide) fun k' hk'=>?_
              have f2:=ib_add (show I64 ((i:Int)+1) by simp only[I64];omega) (show ((i+1:Nat):Int)=(i:Int)+1 by omega)
              simp[r11,f2,-intBin]
              apply hk'
              refine IH hc1 _ _ _ ⟨by simp[r9],by simp[r10],by simp,by omega,fun j hj=>by rw[Heap.get_set_ne _ _ (show j ≠ O from fun h=>hO (h ▸ hj))];exact fri j hj,.inr ⟨O,by rw[htk,hput];simp,by rw[htk,hput];simp,by rw[htk,hput];simp[rowA,cdE,Big.cells,encN,encI,encS,encW],hO,?_⟩⟩
              exact Sep.sub (Sep.setVar sp (by simp)) (by simp +contextual)
            · have hc5:¬ cmpL p.1.code w.1.code=0:=by simpa using hc5
              have hput:putP (w::t) p=w::t:=by simp only[putP];rw[if_neg hc4,if_neg hc5]
              refine Runs.skip ?_
              refine Runs.inBlock ?_
              refine Runs.inBlock ?_
              refine Runs.evalE Ty_ok (by decide) fun k' hk'=>?_
              have f2:=ib_add (show I64 ((i:Int)+1) by simp only[I64];omega) (show ((i+1:Nat):Int)=(i:Int)+1 by omega)
              simp[r11,f2,-intBin]
              apply hk'
              refine IH hc1 _ _ _ ⟨by simp[r9],by simp[r10],by simp,by omega,fri,.inr ⟨O,by rw[htk,hput];simp,by rw[htk,hput];simp[r3],by rw[htk,hput];exact mO,hO,?_⟩⟩
              exact Sep.sub sp (by simp +contextual)
        · simp at hc3
  · have hc2:¬ i<ps.length:=by simpa using hc1
    have hc1:i=ps.length:=by omega
    subst hc1
    refine Runs.exit rfl ?_
    rw[List.take_length] at hout
    refine Runs.seqE Ty_ok (by decide) fun k' hk'=>?_
    simp
    apply hk'
    rcases hout with ⟨h0,_,_⟩ | ⟨O,h0,r3,mO,hO,sp⟩
    · exfalso
      have:∀ l:List AttV,l ≠ []→l.foldl putP [] ≠ []:=fun l hl=>by
        obtain⟨l',x,rfl⟩:∃ l' x,l=l'++[x]:=⟨l.dropLast,l.getLast hl,(List.dropLast_concat_getLast hl).symm⟩
        rw[List.foldl_append]
        exact putP_ne _ _
      exact this ps hne h0
    · exact Runs.ret1 (v:=.arr O (leastP ps).length 0 (leastP ps).length) Tryz.func100 Tryz.results100 (by simp[r3,leastP]) (hQ _ _ _ ⟨O,rfl,mO,hO,sp,fri,hni⟩)
end
end Go.Ab.Vg
/- The layers of attempts: what is owned, how many there are. -/
namespace Go.Ab.Vg
set_option linter.unusedSimpArgs false
set_option linter.unusedVariables false
theorem Sep.sublist {H:Heap} {n:Nat} {ids:List Id} {K K':List OwnE} (h:K'.Sublist K):∀ A:List OwnE,Sep H n (A++K) ids→Sep H n (A++K') ids:=by
  induction h with
  | slnil=>exact fun _ h=>h
  | cons a _ ih=>
    intro A hs
    exact ih A (Sep.dr (Sep.front (x:=a) hs))
  | cons_cons a _ ih=>
    intro A hs
    have:=ih (A++[a]) (by simpa using hs)
    simpa using this
theorem putP_subl {l out:List AttV} {x:AttV} (h:out.Sublist l):(putP out x).Sublist (l++[x]):=by
  cases out with
  | nil=>simp[putP]
  | cons w t=>
    simp only[putP]
    split
    · simp
    · split
      · exact List.Sublist.append h (List.Sublist.refl _)
      · exact h.trans (List.sublist_append_left _ _)
theorem leastP_subl (ps:List AttV):(leastP ps).Sublist ps:=by
  have:∀ (l pre out:List AttV),out.Sublist pre→(l.foldl putP out).Sublist (pre++l):=by
    intro l
    induction l with
    | nil=>intro pre out h;simpa using h
    | cons x l ih=>
      intro pre out h
      have:=ih (pre++[x]) (putP out x) (putP_subl h)
      simpa using this
  have h:=this ps [] [] (List.Sublist.refl _)
  rw[List.nil_append] at h
  exact h
def layN (b:Big):Nat→List Att
  | 0=>[⟨[],s0C b,[]⟩]
  | m+1=>leastA ((layN b m).flatMap (extC b))
theorem layersC_snoc (b:Big):∀ (m:Nat) (l:List Att),layersC b (m+1) l=leastA ((layersC b m l).flatMap (extC b))
  | 0,l=>rfl
  | m+1,l=>by rw[layersC,layersC_snoc b m];rfl
theorem layN_eq (b:Big):∀ m,layN b m=layersC b m [⟨[],s0C b,[]⟩]
  | 0=>rfl
  | m+1=>by rw[layN,layN_eq b m,layersC_snoc]
structure AttOk (b:Big) (m:Nat) (a:Att):Prop where
  s:CzOk b m a.s
  ord:a.order.length=m
  code:a.code.length≤5 * m
  mem:∀ k:Int,0≤k∧k<b.nodes.length→(k ∈ a.order↔0≤at' a.s.pl k)
theorem leastA_sub {l:List Att} {x:Att} (h:x ∈ leastA l):x ∈ l:=(mem_leastA.1 h).1
theorem attOk_ext {sig:Sig} {b:Big} (hv:ValidB sig b) {m:Nat} (hm:m≤8) {a x:Att} (h:AttOk b m a) (hx:x ∈ extC b a):AttOk b (m+1) x:=by
  simp only[extC,List.mem_map] at hx
  obtain⟨k,hk,rfl⟩:=hx
  have hr:=(mem_freeC.1 hk).1
  refine⟨h.s.step hv hr hm,by simp[h.ord],?_,fun j hj=>?_⟩
  rotate_left
  · have hkl:0≤k∧k<a.s.pl.length:=by rw[h.s.pl];exact hr
    simp only[stepC,List.mem_append,List.mem_singleton,at'_set hj.1 hkl]
    have:=h.mem j hj
    have hn:=h.s.num
    split
    · rename_i e;subst e;simp
    · rename_i e;rw[this];simp[e]
  have h3:=hv.links3 hr
  have h4:(linksC b a.s.es (at' b.nodes k).links).1.length=(at' b.nodes k).links.length:=linksC_len _ _
  have h5:=h.code
  simp only[chunkC,List.length_append,List.length_cons]
  omega
theorem layN_ok {sig:Sig} {b:Big} (hv:ValidB sig b):∀ m≤b.nodes.length,∀ a ∈ layN b m,AttOk b m a
  | 0,_,a,ha=>by
    rw[List.mem_singleton.1 ha]
    refine⟨czOk0 b,rfl,by simp,fun k hk=>?_⟩
    have e:at' (s0C b).pl k = -1:=by
      obtain⟨h1,h2⟩:=at_eq (l:=(s0C b).pl) (i:=k) (by simpa[s0C] using hk)
      rw[h2];simp[s0C]
    simp only[e,List.not_mem_nil,false_iff];omega
  | m+1,hm,a,ha=>by
    have hn:=hv.len
    obtain⟨x,hx,h2⟩:=List.mem_flatMap.1 (leastA_sub ha)
    exact attOk_ext hv (by omega) (layN_ok hv m (by omega) x hx) h2
theorem ext_len {b:Big} (hn:b.nodes.length≤8) (a:Att):(extC b a).length≤8:=by
  have h1:(freeC b a.s.pl).length≤b.nodes.length:=by
    refine Nat.le_trans (List.length_filter_le _ _) ?_
    simp
  simp only[extC,List.length_map];omega
theorem flat_len {b:Big} (hn:b.nodes.length≤8):∀ l:List Att,(l.flatMap (extC b)).length≤8 * l.length
  | []=>by simp
  | a::l=>by
    have h1:=flat_len hn l
    have h2:=ext_len hn a
    simp only[List.flatMap_cons,List.length_append,List.length_cons];omega
theorem leastA_len:∀ l:List Att,(leastA l).length≤l.length:=by
  have:∀ (l out:List Att),(l.foldl putA out).length≤out.length+l.length:=by
    intro l
    induction l with
    | nil=>intro out;simp
    | cons x l ih=>
      intro out
      have h1:=ih (putA out x)
      have h2:(putA out x).length≤out.length+1:=by
        cases out with
        | nil=>simp[putA]
        | cons w t=>
          simp only[putA]
          split
          · simp
          · split<;>simp
      simp only[List.foldl_cons,List.length_cons];omega
  intro l
  have h:=this l []
  rw[List.length_nil,Nat.zero_add] at h
  exact h
theorem layN_len {b:Big} (hn:b.nodes.length≤8):∀ m,(layN b m).length≤8 ^ m
  | 0=>by simp[layN]
  | m+1=>by
    have h1:=layN_len hn m
    have h2:=flat_len hn (layN b m)
    have h3:=leastA_len ((layN b m).flatMap (extC b))
    rw[layN,Nat.pow_succ];omega
theorem layN_lay {b:Big} (he:Even b) (hd:Downs b):∀ m≤b.nodes.length,Lay b (b.nodes.length - m) (layN b m)∧layN b m ≠ []
  | 0,_=>⟨lay0,by simp[layN]⟩
  | m+1,hm=>by
    obtain⟨h1,h2⟩:=layN_lay he hd m (by omega)
    obtain⟨q,hq⟩:∃ q,b.nodes.length - m=q+1:=⟨b.nodes.length - (m+1),by omega⟩
    rw[hq] at h1
    have hq2:b.nodes.length - (m+1)=q:=by omega
    rw[hq2]
    refine⟨lay_least hd (lay_ext he h1),leastA_ne ?_⟩
    obtain⟨a,ha⟩:=List.exists_mem_of_ne_nil _ h2
    obtain⟨k,hk⟩:=free_some hd (h1.fit a ha)
    intro h
    have:(⟨a.order++[k],stepC b a.s k,a.code++(chunkC b a.s k).1⟩:Att) ∈ (layN b m).flatMap (extC b):=List.mem_flatMap.2 ⟨a,ha,List.mem_map.2 ⟨k,hk,rfl⟩⟩
    rw[h] at this
    cases this
theorem flat_ne {b:Big} (he:Even b) (hd:Downs b) {m:Nat} (hm:m<b.nodes.length):(layN b m).flatMap (extC b) ≠ []:=fun h=>(layN_lay he hd (m+1) hm).2 (by rw[layN,h];rfl)
end Go.Ab.Vg
/- Children of a place: pure conditions of (impl.Bigraph).childrenOf, spec.l2Kids and spec.l2Holes. -/
namespace Go.Ab.Vg
set_option linter.unusedSimpArgs false
set_option linter.unusedVariables false
def kidsB (b:Big) (p:Int):List Int:=idxs b.nodes (fun x=>decide (x.parent=p)) b.nodes.length
def holesB (b:Big) (p:Int):List Int:=idxs b.sites (fun x=>decide (x=p)) b.sites.length
abbrev l2Kids (b:Big) (p:Int):=kidsB b p
abbrev l2Kids_pre (b:Big) (_:Int):Prop:=b.nodes.length≤1048576
def l2Kids_wp (b:Big) (parent:Int) (Z:(List Int)→Prop):Prop:=
  loopW (σ:=Int × (List Int)) (fun (i14,l15) K19=>∀ len20:Int,len20=(b.nodes.length:Int)→∀ c22:Bool,c22=decide (i14<len20)→((c22=true→(0≤i14∧i14<b.nodes.length)∧∀ x25:GNode,x25=at' b.nodes i14→∀ c27:Bool,c27=decide (x25.parent=parent)→((c27=true→(l15.length+1≤1073741824)∧∀ l30:List Int,l30=l15++[i14]→(I64 (i14+1))∧∀ v40:Int,v40=i14+1→K19 (v40,l30))∧(c27=false→(I64 (i14+1))∧∀ v43:Int,v43=i14+1→K19 (v43,l15))))∧(c22=false→Z l15))) (0,([]:List Int))
theorem l2Kids_vc (b:Big) (p:Int) (h:l2Kids_pre b p):l2Kids_wp b p (fun y=>y=l2Kids b p):=by
  unfold l2Kids_wp
  refine loopW.upL b.nodes.length (fun k out=>out=idxs b.nodes (fun x=>decide (x.parent=p)) k) [] rfl ?_
  rintro k out K hk rfl IH
  have hl:=idxs_len b.nodes (fun x=>decide (x.parent=p)) k
  simp only[l2Kids_pre] at h
  simp only[forall_eq,decide_eq_true_eq,decide_eq_false_iff_not,I64]
  refine⟨fun h1=>⟨by omega,fun h2=>⟨by omega,by omega,?_⟩,fun h2=>⟨by omega,?_⟩⟩,fun h1=>?_⟩
  · exact IH (by omega) _ (idxs_yes _ _ (by simpa using h2)).symm
  · exact IH (by omega) _ (idxs_no _ _ (by simpa using h2)).symm
  · rw[show k=b.nodes.length by omega];rfl
abbrev l2Holes (b:Big) (p:Int):=holesB b p
abbrev l2Holes_pre (b:Big) (_:Int):Prop:=b.sites.length≤1048576
def l2Holes_wp (b:Big) (parent:Int) (Z:(List Int)→Prop):Prop:=
  loopW (σ:=Int × (List Int)) (fun (i14,l15) K19=>∀ len20:Int,len20=(b.sites.length:Int)→∀ c22:Bool,c22=decide (i14<len20)→((c22=true→(0≤i14∧i14<b.sites.length)∧∀ x25:Int,x25=at' b.sites i14→∀ c27:Bool,c27=decide (x25=parent)→((c27=true→(l15.length+1≤1073741824)∧∀ l30:List Int,l30=l15++[i14]→(I64 (i14+1))∧∀ v40:Int,v40=i14+1→K19 (v40,l30))∧(c27=false→(I64 (i14+1))∧∀ v43:Int,v43=i14+1→K19 (v43,l15))))∧(c22=false→Z l15))) (0,([]:List Int))
theorem l2Holes_vc (b:Big) (p:Int) (h:l2Holes_pre b p):l2Holes_wp b p (fun y=>y=l2Holes b p):=by
  unfold l2Holes_wp
  refine loopW.upL b.sites.length (fun k out=>out=idxs b.sites (fun x=>decide (x=p)) k) [] rfl ?_
  rintro k out K hk rfl IH
  have hl:=idxs_len b.sites (fun x=>decide (x=p)) k
  simp only[l2Holes_pre] at h
  simp only[forall_eq,decide_eq_true_eq,decide_eq_false_iff_not,I64]
  refine⟨fun h1=>⟨by omega,fun h2=>⟨by omega,by omega,?_⟩,fun h2=>⟨by omega,?_⟩⟩,fun h1=>?_⟩
  · exact IH (by omega) _ (idxs_yes _ _ (by simpa using h2)).symm
  · exact IH (by omega) _ (idxs_no _ _ (by simpa using h2)).symm
  · rw[show k=b.sites.length by omega];rfl
end Go.Ab.Vg
/- The reference's order of the canonical form. -/
namespace Go.Ab.Vg
set_option linter.unusedSimpArgs false
set_option linter.unusedVariables false
abbrev lessZ (a b:List Int):Bool:=decide (cmpL a b<0)
abbrev lessZ_pre (a b:List Int):Prop:=a.length≤1048576∧b.length≤1048576
def lessZ_wp (a:List Int) (b:List Int) (Z:Bool→Prop):Prop:=
  loopW (σ:=Int) (fun i4 K7=>joinW (fun (J8:Bool→Prop)=>∀ len42:Int,len42=(a.length:Int)→∀ c44:Bool,c44=decide (i4<len42)→((c44=true→∀ len46:Int,len46=(b.length:Int)→∀ c48:Bool,c48=decide (i4<len46)→J8 (c48))∧(c44=false→J8 (false)))) (fun b11=>((b11=true→(0≤i4∧i4<a.length)∧∀ x15:Int,x15=at' a i4→(0≤i4∧i4<b.length)∧∀ x18:Int,x18=at' b i4→∀ c20:Bool,c20=decide (x15 ≠ x18)→((c20=true→(0≤i4∧i4<a.length)∧∀ x23:Int,x23=at' a i4→(0≤i4∧i4<b.length)∧∀ x27:Int,x27=at' b i4→∀ c30:Bool,c30=decide (x15<x18)→Z c30)∧(c20=false→(I64 (i4+1))∧∀ v34:Int,v34=i4+1→K7 (v34))))∧(b11=false→∀ len36:Int,len36=(a.length:Int)→∀ len38:Int,len38=(b.length:Int)→∀ c40:Bool,c40=decide (len36<len38)→Z c40)))) (0)
theorem lessZ_vc (a b:List Int) (h:lessZ_pre a b):lessZ_wp a b (fun y=>y=lessZ a b):=by
  unfold lessZ_wp
  obtain⟨h1,h2⟩:=h
  refine loopW.up1 (min a.length b.length) (fun k=>k≤a.length∧k≤b.length∧cmpL a b=cmpL (a.drop k) (b.drop k)) ⟨by omega,by omega,rfl⟩ ?_
  rintro k K hk ⟨ha,hb,hI⟩ IH
  simp only[forall_eq,decide_eq_true_eq,decide_eq_false_iff_not,I64,lessZ]
  refine⟨fun c=>c=decide (k<a.length∧k<b.length),⟨fun h3=>by simp[show k<a.length by omega],fun h3=>by simp[show ¬ k<a.length by omega]⟩,?_⟩
  rintro _ rfl
  simp only[decide_eq_true_eq,decide_eq_false_iff_not]
  refine⟨fun h3=>⟨by omega,by omega,fun h4=>⟨by omega,by omega,?_⟩,fun h4=>⟨by omega,IH (by omega) ⟨by omega,by omega,?_⟩⟩⟩,fun h3=>?_⟩
  · rw[hI,drop_at h3.1,drop_at h3.2,cmpL]
    by_cases h5:at' a (k:Int)<at' b (k:Int)
    · simp[h5]
    · rw[if_neg h5,if_pos (by omega)];simp[h5]
  · rw[hI,drop_at h3.1,drop_at h3.2,cmpL,if_neg (by omega),if_neg (by omega)]
  · rw[hI]
    rcases Nat.lt_or_ge k a.length with h5 | h5
    · rw[show k=b.length by omega,List.drop_length,drop_at (by omega:b.length<a.length)]
      simp[cmpL,show ¬ (a.length:Int)<b.length by omega]
    · rw[show k=a.length by omega,List.drop_length]
      rcases Nat.lt_or_ge a.length b.length with h6 | h6
      · rw[drop_at h6];simp[cmpL,h6]
      · rw[List.drop_eq_nil_of_le h6];simp[cmpL,show ¬ (a.length:Int)<b.length by omega]
abbrev sameZ (a b:List Int):Bool:=decide (a=b)
abbrev sameZ_pre (a b:List Int):Prop:=a.length≤1048576
def sameZ_wp (a:List Int) (b:List Int) (Z:Bool→Prop):Prop:=
  ∀ len2:Int,len2=(a.length:Int)→∀ len4:Int,len4=(b.length:Int)→∀ c6:Bool,c6=decide (len2 ≠ len4)→((c6=true→Z false)∧(c6=false→loopW (σ:=Int) (fun i10 K13=>∀ len14:Int,len14=(a.length:Int)→∀ c16:Bool,c16=decide (i10<len14)→((c16=true→(0≤i10∧i10<a.length)∧∀ x19:Int,x19=at' a i10→(0≤i10∧i10<b.length)∧∀ x22:Int,x22=at' b i10→∀ c24:Bool,c24=decide (x19 ≠ x22)→((c24=true→Z false)∧(c24=false→(I64 (i10+1))∧∀ v27:Int,v27=i10+1→K13 (v27))))∧(c16=false→Z true))) (0)))
theorem sameZ_vc (a b:List Int) (h:sameZ_pre a b):sameZ_wp a b (fun y=>y=sameZ a b):=by
  unfold sameZ_wp
  simp only[forall_eq,decide_eq_true_eq,decide_eq_false_iff_not,sameZ]
  have h1:a.length≤1048576:=h
  refine⟨fun h3=>(decide_eq_false (fun e=>h3 (by rw[e]))).symm,fun h3=>?_⟩
  refine loopW.up1 a.length (fun k=>a.take k=b.take k) (by simp) ?_
  rintro k K hk hI IH
  simp only[I64]
  refine⟨fun h4=>⟨⟨by omega,by omega⟩,by omega,fun h5=>(decide_eq_false (fun e=>h5 (by rw[e]))).symm,fun h5=>⟨by omega,IH (by omega) ?_⟩⟩,fun h4=>?_⟩
  · rw[at_lt (show k<a.length by omega),at_lt (show k<b.length by omega)] at h5
    rw[← List.take_append_getElem (show k<a.length by omega),← List.take_append_getElem (show k<b.length by omega),hI,Classical.not_not.1 h5]
  · rw[show k=a.length by omega,List.take_length,List.take_of_length_le (by omega)] at hI
    exact (decide_eq_true hI).symm
abbrev twinZ (b:Big) (x y:Int):Bool:=twinB b x y
abbrev twinZ_pre (b:Big) (x y:Int):Prop:=(∃ sig,ValidB sig b)∧(0≤x∧x<b.nodes.length)∧(0≤y∧y<b.nodes.length)
def twinZ_wp (b:Big) (x:Int) (y:Int) (Z:Bool→Prop):Prop:=
  (0≤x∧x<b.nodes.length)∧∀ x5:GNode,x5=at' b.nodes x→(0≤y∧y<b.nodes.length)∧∀ x8:GNode,x8=at' b.nodes y→joinW (fun (J13:Bool→Prop)=>∀ c49:Bool,c49=decide (x5.control ≠ x8.control)→((c49=true→J13 (true))∧(c49=false→∀ c51:Bool,c51=decide (x5.parent ≠ x8.parent)→((c51=true→J13 (true))∧(c51=false→(sameZ_pre x5.links x8.links)∧∀ r54:Bool,r54=sameZ x5.links x8.links→J13 ((!r54))))))) (fun b16=>((b16=true→Z false)∧(b16=false→joinW (fun (J19:Bool→Prop)=>(l2Kids_pre b x)∧∀ r26:List Int,r26=l2Kids b x→∀ len27:Int,len27=(r26.length:Int)→∀ c29:Bool,c29=decide (len27=0)→((c29=true→(l2Kids_pre b y)∧∀ r32:List Int,r32=l2Kids b y→∀ len33:Int,len33=(r32.length:Int)→∀ c35:Bool,c35=decide (len33=0)→((c35=true→(l2Holes_pre b x)∧∀ r38:List Int,r38=l2Holes b x→∀ len39:Int,len39=(r38.length:Int)→∀ c41:Bool,c41=decide (len39=0)→((c41=true→(l2Holes_pre b y)∧∀ r44:List Int,r44=l2Holes b y→∀ len45:Int,len45=(r44.length:Int)→∀ c47:Bool,c47=decide (len45=0)→J19 (c47))∧(c41=false→J19 (false))))∧(c35=false→J19 (false))))∧(c29=false→J19 (false)))) (fun b22=>Z b22))))
theorem kids_none (b:Big) (x:Int):(kidsB b x=[])↔∀ n ∈ b.nodes,n.parent ≠ x:=by
  constructor
  · intro h n hn e
    obtain⟨i,hi,rfl⟩:=List.getElem_of_mem hn
    have:(i:Int) ∈ kidsB b x:=(mem_idxs _ _).2 ⟨by omega,by omega,by rw[at_lt hi];exact decide_eq_true e⟩
    rw[h] at this;cases this
  · intro h
    rcases hq:kidsB b x with _ | ⟨y,t⟩
    · rfl
    · have hy:y ∈ kidsB b x:=by rw[hq];simp
      obtain⟨h1,h2,h3⟩:=(mem_idxs _ _).1 hy
      exact absurd (of_decide_eq_true h3) (h _ (at_mem ⟨h1,h2⟩))
theorem holes_none (b:Big) (x:Int):(holesB b x=[])↔∀ p ∈ b.sites,p ≠ x:=by
  constructor
  · intro h n hn e
    obtain⟨i,hi,rfl⟩:=List.getElem_of_mem hn
    have:(i:Int) ∈ holesB b x:=(mem_idxs _ _).2 ⟨by omega,by omega,by rw[at_lt hi];exact decide_eq_true e⟩
    rw[h] at this;cases this
  · intro h
    rcases hq:holesB b x with _ | ⟨y,t⟩
    · rfl
    · have hy:y ∈ holesB b x:=by rw[hq];simp
      obtain⟨h1,h2,h3⟩:=(mem_idxs _ _).1 hy
      exact absurd (of_decide_eq_true h3) (h _ (at_mem ⟨h1,h2⟩))
theorem twinB_kids (b:Big) (x y:Int):twinB b x y=(decide ((at' b.nodes x).control=(at' b.nodes y).control) && decide ((at' b.nodes x).parent=(at' b.nodes y).parent) && decide ((at' b.nodes x).links=(at' b.nodes y).links) && (decide (kidsB b x=[]) && decide (kidsB b y=[]) && decide (holesB b x=[]) && decide (holesB b y=[]))):=by
  have e1:b.nodes.all (fun n=>decide (n.parent ≠ x) && decide (n.parent ≠ y))=(decide (kidsB b x=[]) && decide (kidsB b y=[])):=by
    rw[Bool.eq_iff_iff]
    simp only[List.all_eq_true,Bool.and_eq_true,decide_eq_true_eq,kids_none]
    exact⟨fun h=>⟨fun n hn=>(h n hn).1,fun n hn=>(h n hn).2⟩,fun h n hn=>⟨h.1 n hn,h.2 n hn⟩⟩
  have e2:b.sites.all (fun p=>decide (p ≠ x) && decide (p ≠ y))=(decide (holesB b x=[]) && decide (holesB b y=[])):=by
    rw[Bool.eq_iff_iff]
    simp only[List.all_eq_true,Bool.and_eq_true,decide_eq_true_eq,holes_none]
    exact⟨fun h=>⟨fun n hn=>(h n hn).1,fun n hn=>(h n hn).2⟩,fun h n hn=>⟨h.1 n hn,h.2 n hn⟩⟩
  rw[twinB,e1,e2]
  simp only[Bool.and_assoc]
theorem twinZ_vc (b:Big) (x y:Int) (h:twinZ_pre b x y):twinZ_wp b x y (fun z=>z=twinZ b x y):=by
  unfold twinZ_wp
  obtain⟨⟨sig,hv⟩,hx,hy⟩:=h
  have h3:=hv.links3 hx
  have hn:=hv.len
  have hs:=hv.slen
  simp only[forall_eq,decide_eq_true_eq,decide_eq_false_iff_not,ne_eq,Decidable.not_not,twinZ,l2Kids,l2Holes,l2Kids_pre,l2Holes_pre,sameZ_pre]
  refine⟨hx,hy,fun c=>c = !(decide ((at' b.nodes x).control=(at' b.nodes y).control) && decide ((at' b.nodes x).parent=(at' b.nodes y).parent) && decide ((at' b.nodes x).links=(at' b.nodes y).links)),⟨fun h4=>by simp[h4],fun h4=>⟨fun h5=>by simp[h5],fun h5=>⟨by omega,by simp[h4,h5,sameZ]⟩⟩⟩,?_⟩
  rintro _ rfl
  refine⟨fun h4=>?_,fun h4=>?_⟩
  · rw[twinB_kids]
    simp only[Bool.not_eq_true'] at h4
    rw[h4];rfl
  · simp only[Bool.not_eq_false'] at h4
    rw[twinB_kids,h4,Bool.true_and]
    have hl:∀ l:List Int,((l.length:Int)=0)=(l=[]):=fun l=>by rw[← List.length_eq_zero_iff];simp
    simp only[hl]
    refine⟨fun c=>c=(decide (kidsB b x=[]) && decide (kidsB b y=[]) && decide (holesB b x=[]) && decide (holesB b y=[])),⟨by omega,fun h5=>⟨by omega,fun h6=>⟨by omega,fun h7=>⟨by omega,by simp[h5,h6,h7]⟩,fun h7=>by simp[h7]⟩,fun h6=>by simp[h6]⟩,fun h5=>by simp[h5]⟩,?_⟩
    rintro _ rfl
    rfl
abbrev freeZ (b:Big) (places:List Int):List Int:=freeT b places
abbrev freeZ_pre (b:Big) (places:List Int):Prop:=(∃ sig,ValidB sig b)∧places.length=b.nodes.length
def freeZ_wp (b:Big) (places:List Int) (Z:(List Int)→Prop):Prop:=
  loopW (σ:=Int × (List Int)) (fun (i14,l15) K19=>∀ len20:Int,len20=(b.nodes.length:Int)→∀ c22:Bool,c22=decide (i14<len20)→((c22=true→joinW (fun (J24:Bool→Prop)=>(0≤i14∧i14<places.length)∧∀ x82:Int,x82=at' places i14→∀ c84:Bool,c84=decide (x82<0)→((c84=true→(0≤i14∧i14<b.nodes.length)∧∀ x87:GNode,x87=at' b.nodes i14→∀ c89:Bool,c89=decide (x87.parent<0)→((c89=true→J24 (true))∧(c89=false→(0≤i14∧i14<b.nodes.length)∧∀ x92:GNode,x92=at' b.nodes i14→(0≤x87.parent∧x87.parent<places.length)∧∀ x96:Int,x96=at' places x87.parent→∀ c98:Bool,c98=decide (0≤x96)→J24 (c98))))∧(c84=false→J24 (false)))) (fun b27=>loopW (σ:=Bool × Int) (fun (free35,k36) K40=>joinW (fun (J41:Bool→Prop)=>∀ len77:Int,len77=(l15.length:Int)→∀ c79:Bool,c79=decide (k36<len77)→((c79=true→J41 (free35))∧(c79=false→J41 (false)))) (fun b44=>((b44=true→(0≤k36∧k36<l15.length)∧∀ x53:Int,x53=at' l15 k36→(twinZ_pre b x53 i14)∧∀ r57:Bool,r57=twinZ b x53 i14→(I64 (k36+1))∧∀ v59:Int,v59=k36+1→K40 ((!r57),v59))∧(b44=false→((free35=true→(l15.length+1≤1073741824)∧∀ l62:List Int,l62=l15++[i14]→(I64 (i14+1))∧∀ v72:Int,v72=i14+1→K19 (v72,l62))∧(free35=false→(I64 (i14+1))∧∀ v75:Int,v75=i14+1→K19 (v75,l15))))))) (b27,0)))∧(c22=false→Z l15))) (0,([]:List Int))
theorem thin_snoc (tw:Int→Int→Bool) (i:Int):∀ (l out:List Int),thin tw out (l++[i])=if (thin tw out l).any (fun x=>tw x i) then thin tw out l else thin tw out l++[i]
  | [],out=>rfl
  | x::l,out=>by
    simp only[List.cons_append,thin]
    exact thin_snoc tw i l _
theorem thin_len (tw:Int→Int→Bool):∀ (l out:List Int),(thin tw out l).length≤out.length+l.length
  | [],out=>by simp[thin]
  | x::l,out=>by
    have h:=thin_len tw l (if out.any (fun y=>tw y x) then out else out++[x])
    simp only[thin,List.length_cons] at h ⊢
    split at h
    · rename_i h1;rw[if_pos h1];omega
    · rename_i h1;rw[if_neg h1];simp only[List.length_append,List.length_cons,List.length_nil] at h;omega
def freeAt (b:Big) (pl:List Int) (k:Nat):List Int:=((List.range k).map fun i:Nat=>(i:Int)).filter (freeP b pl)
theorem freeAt_succ (b:Big) (pl:List Int) (k:Nat):freeAt b pl (k+1)=if freeP b pl k then freeAt b pl k++[(k:Int)] else freeAt b pl k:=by
  simp only[freeAt,List.range_succ,List.map_append,List.filter_append,List.map_cons,List.map_nil,List.filter_cons,List.filter_nil]
  split<;>simp_all
theorem freeAt_len (b:Big) (pl:List Int) (k:Nat):(freeAt b pl k).length≤k:=by
  have:=List.length_filter_le (freeP b pl) ((List.range k).map fun i:Nat=>(i:Int))
  simpa[freeAt] using this
theorem freeAt_mem {b:Big} {pl:List Int} {k:Nat} {x:Int} (h:x ∈ freeAt b pl k):0≤x∧x<k:=by
  simp only[freeAt,List.mem_filter,List.mem_map,List.mem_range] at h
  obtain⟨⟨i,hi,rfl⟩,_⟩:=h
  omega
theorem freeZ_vc (b:Big) (places:List Int) (h:freeZ_pre b places):freeZ_wp b places (fun z=>z=freeZ b places):=by
  unfold freeZ_wp
  obtain⟨⟨sig,hv⟩,hl⟩:=h
  have hn:=hv.len
  refine loopW.upL b.nodes.length (fun k out=>out=thin (twinB b) [] (freeAt b places k)) [] rfl ?_
  rintro k _ K hk rfl IH
  have hlen:=thin_len (twinB b) (freeAt b places k) []
  have hlen2:=freeAt_len b places k
  have hin:∀ x ∈ thin (twinB b) [] (freeAt b places k),0≤x∧x<k:=fun x hx=>freeAt_mem ((thin_in _ hx).resolve_left (by simp))
  simp only[List.length_nil] at hlen
  simp only[forall_eq,decide_eq_true_eq,decide_eq_false_iff_not]
  refine⟨fun h1=>?_,fun h1=>by rw[show k=b.nodes.length by omega];rfl⟩
  have hkn:(0:Int)≤k∧(k:Int)<b.nodes.length:=⟨by omega,by omega⟩
  have hp:=hv.parAt hkn
  refine⟨fun c=>c=freeP b places k,⟨⟨by omega,by omega⟩,fun h2=>⟨by omega,fun h3=>by simp[freeP,h2,h3],fun h3=>⟨by omega,⟨by omega,by omega⟩,by simp[freeP,h2,h3]⟩⟩,fun h2=>by simp[freeP,h2]⟩,?_⟩
  rintro _ rfl
  have hsucc:=freeAt_succ b places k
  generalize ho:thin (twinB b) [] (freeAt b places k)=out at hlen hin ⊢
  refine loopW.upR out.length (fun j f=>f=(freeP b places k && !((out.take j).any fun x=>twinB b x k))) _ (by simp) ?_
  rintro j _ K2 hj rfl IH2
  refine⟨fun c=>c=(decide (j<out.length) && (freeP b places k && !((out.take j).any fun x=>twinB b x k))),⟨fun h2=>by simp[show j<out.length by omega],fun h2=>by simp[show ¬ j<out.length by omega]⟩,?_⟩
  rintro _ rfl
  refine⟨fun h2=>?_,fun h2=>?_⟩
  · simp only[Bool.and_eq_true,decide_eq_true_eq,Bool.not_eq_true'] at h2
    obtain⟨h3,h4,h5⟩:=h2
    dsimp only
    have hm:=hin (at' out (j:Int)) (by rw[at_lt h3];exact List.getElem_mem h3)
    refine⟨by omega,⟨⟨sig,hv⟩,⟨hm.1,by omega⟩,hkn⟩,⟨by omega,by omega⟩,IH2 h3 _ ?_⟩
    rw[← List.take_append_getElem h3,List.any_append,h5,h4,at_lt h3]
    simp[twinZ]
  · have hnext:∀ r,(freeP b places k && !((out.take j).any fun x=>twinB b x k))=r→(r=true→j=out.length)→thin (twinB b) [] (freeAt b places (k+1))=if r then out++[(k:Int)] else out:=fun r hr hj2=>by
      rw[hsucc]
      cases r with
      | true=>
        simp only[Bool.and_eq_true,Bool.not_eq_true'] at hr
        have h6:=hr.2
        rw[hj2 rfl,List.take_length] at h6
        rw[if_pos hr.1,thin_snoc,ho,h6];rfl
      | false=>
        by_cases h6:freeP b places k=true
        · rw[if_pos h6,thin_snoc,ho]
          simp only[h6,Bool.true_and,Bool.not_eq_false'] at hr
          have:(out.any fun x=>twinB b x k)=true:=by
            obtain⟨x,hx,hx2⟩:=List.any_eq_true.1 hr
            exact List.any_eq_true.2 ⟨x,List.mem_of_mem_take hx,hx2⟩
          rw[this];rfl
        · rw[if_neg h6,ho];rfl
    have hjl:(freeP b places k && !((out.take j).any fun x=>twinB b x k))=true→j=out.length:=fun h6=>by
      rw[h6] at h2
      simp only[Bool.and_true,decide_eq_false_iff_not] at h2
      omega
    generalize hr:(freeP b places k && !((out.take j).any fun x=>twinB b x k))=r at hjl ⊢
    have:=hnext r hr hjl
    dsimp only
    refine⟨fun h6=>⟨by omega,⟨by omega,by omega⟩,IH (by omega) _ ?_⟩,fun h6=>⟨⟨by omega,by omega⟩,IH (by omega) _ ?_⟩⟩
    · rw[this,h6];rfl
    · rw[this,h6];rfl
structure BestSt (b:Big) (places edges:List Int) (many:Int) (s:Cz):Prop where
  bfit:Fit b (b.nodes.length - many.toNat) s
  bcz:CzOk b many.toNat s
  bes:EsOk b s.es
  bpl:s.pl=places
  bed:numsE b s.es=edges
  bnum:0≤many∧many≤b.nodes.length
noncomputable def bestZ (b:Big) (places edges:List Int) (many:Int):List Int × List Int:=open Classical in if h:∃ s,BestSt b places edges many s then bestC b (b.nodes.length - many.toNat) h.choose else ([],[])
abbrev bestZ_pre (b:Big) (places edges:List Int) (many:Int):Prop:=(∃ sig,ValidB sig b)∧∃ s,BestSt b places edges many s
abbrev bestZ_ms (b:Big) (_ _:List Int) (many:Int):Nat:=b.nodes.length - many.toNat
def bestZ_wp (b:Big) (places:List Int) (edges:List Int) (many:Int) (Z:((List Int) × (List Int))→Prop):Prop:=
  ∀ len4:Int,len4=(b.nodes.length:Int)→∀ c6:Bool,c6=decide (many=len4)→((c6=true→(tailZ_pre b places edges)∧∀ r9:(List Int) × (List Int),r9=tailZ b places edges→Z (r9.1,([]:List Int)))∧(c6=false→(freeZ_pre b places)∧∀ r30:List Int,r30=freeZ b places→((0:Int)≤0∧(0:Int)<r30.length)∧∀ x47:Int,x47=at' r30 0→(chunkZ_pre b x47 places edges)∧∀ r51:(List Int) × (List Int),r51=chunkZ b x47 places edges→loopW (σ:=Int × (List Int)) (fun (i160,l161) K166=>∀ len167:Int,len167=(r30.length:Int)→∀ c169:Bool,c169=decide (i160<len167)→((c169=true→(0≤i160∧i160<r30.length)∧∀ x179:Int,x179=at' r30 i160→(chunkZ_pre b x179 places edges)∧∀ r183:(List Int) × (List Int),r183=chunkZ b x179 places edges→(lessZ_pre r183.1 l161)∧∀ r285:Bool,r285=lessZ r183.1 l161→((r285=true→(I64 (i160+1))∧∀ v287:Int,v287=i160+1→K166 (v287,r183.1))∧(r285=false→(I64 (i160+1))∧∀ v290:Int,v290=i160+1→K166 (v290,l161))))∧(c169=false→loopW (σ:=Bool × Int × (List Int) × (List Int)) (fun (found315,i316,l317,l318) K325=>∀ len326:Int,len326=(r30.length:Int)→∀ c328:Bool,c328=decide (i316<len326)→((c328=true→(0≤i316∧i316<r30.length)∧∀ x340:Int,x340=at' r30 i316→(chunkZ_pre b x340 places edges)∧∀ r344:(List Int) × (List Int),r344=chunkZ b x340 places edges→(sameZ_pre r344.1 l161)∧∀ r449:Bool,r449=sameZ r344.1 l161→((r449=true→(ownZ_pre places)∧∀ r454:List Int,r454=ownZ places→(0≤i316∧i316<r30.length)∧∀ x474:Int,x474=at' r30 i316→(0≤x474∧x474<r454.length)∧∀ x482:Int,x482=at' r454 x474→∀ l485:List Int,l485=r454.set x474.toNat many→(I64 (many+1))∧∀ v497:Int,v497=many+1→(bestZ_pre b l485 r344.2 v497∧bestZ_ms b l485 r344.2 v497<bestZ_ms b places edges many)∧∀ r500:(List Int) × (List Int),r500=bestZ b l485 r344.2 v497→joinW (fun (J520:Bool→Prop)=>((found315=true→(lessZ_pre r500.1 l318)∧∀ r568:Bool,r568=lessZ r500.1 l318→J520 (r568))∧(found315=false→J520 (true)))) (fun b523=>((b523=true→(0≤i316∧i316<r30.length)∧∀ x537:Int,x537=at' r30 i316→∀ l540:List Int,l540=[x537]→(l540.length+r500.2.length≤1073741824)∧∀ l549:List Int,l549=l540++r500.2→(I64 (i316+1))∧∀ v562:Int,v562=i316+1→K325 (true,v562,l549,r500.1))∧(b523=false→(I64 (i316+1))∧∀ v565:Int,v565=i316+1→K325 (found315,v565,l317,l318)))))∧(r449=false→(I64 (i316+1))∧∀ v451:Int,v451=i316+1→K325 (found315,v451,l317,l318))))∧(c328=false→(l161.length+l318.length≤1073741824)∧∀ l570:List Int,l570=l161++l318→Z (l570,l317)))) (false,0,([]:List Int),([]:List Int))))) (1,r51.1)))
theorem nums_inj {b:Big} {es es':List Int} (h:EsOk b es) (h':EsOk b es') (e:numsE b es=numsE b es'):es=es':=by
  have hl:es.length=es'.length:=by have h1:=cnt_nums h;have h2:=cnt_nums h';rw[e] at h1;omega
  refine List.ext_getElem hl fun i h1 h2=>?_
  have hm:es[i] ∈ es:=List.getElem_mem h1
  have hr:=h.rng _ hm
  have e1:=numsE_at (es:=es) hr
  rw[e,numsE_at hr,if_pos hm,List.Nodup.idxOf_getElem h.nd] at e1
  by_cases h3:es[i] ∈ es'
  · rw[if_pos h3] at e1
    have h4:es'.idxOf es[i]=i:=by omega
    have h5:=List.getElem_idxOf (x:=es[i]) (xs:=es') (List.idxOf_lt_length_of_mem h3)
    simp only[h4] at h5
    exact h5.symm
  · rw[if_neg h3] at e1;omega
theorem BestSt.uniq {b:Big} {pl ed:List Int} {many:Int} {s s':Cz} (h:BestSt b pl ed many s) (h':BestSt b pl ed many s'):s=s':=by
  have e1:=nums_inj h.bes h'.bes (h.bed.trans h'.bed.symm)
  have e2:=h.bpl.trans h'.bpl.symm
  have e3:=h.bcz.num.trans h'.bcz.num.symm
  cases s;cases s';simp_all
theorem bestZ_eq {b:Big} {pl ed:List Int} {many:Int} {s:Cz} (h:BestSt b pl ed many s):bestZ b pl ed many=bestC b (b.nodes.length - many.toNat) s:=by
  have hx:∃ s,BestSt b pl ed many s:=⟨s,h⟩
  rw[bestZ,dif_pos hx,hx.choose_spec.uniq h]
theorem ValidB.downs {sig:Sig} {b:Big} (h:ValidB sig b):Downs b:=fun x hx=>(h.parAt hx).2
theorem ValidB.even {sig:Sig} {b:Big} (h:ValidB sig b):Even b:=fun x y hx hy e=>by
  have h1:=h.portsAt hx
  have h2:=h.portsAt hy
  rw[e] at h1
  omega
theorem BestSt.rz {sig:Sig} {b:Big} {pl ed:List Int} {many:Int} {s:Cz} (hv:ValidB sig b) (h:BestSt b pl ed many s):RzOk b many.toNat ⟨[],ed,pl⟩:=by
  have h1:=cnt_nums h.bes
  have h2:=hv.edges
  have h3:=cntZ_le (numsE b s.es)
  have h4:(numsE b s.es).length=b.edges.toNat:=by simp[numsE]
  refine⟨⟨hv.edges,by simp only[← h.bed,h4];omega,fun v hx=>?_⟩,by simp only[← h.bpl];exact h.bcz.pl,fun v hx=>?_,by simp⟩
  · simp only[← h.bed,numsE,List.mem_map,List.mem_range] at hx
    obtain⟨l,hl,rfl⟩:=hx
    split
    · rename_i h5
      have:=List.idxOf_lt_length_of_mem h5
      omega
    · omega
  · simp only[← h.bpl] at hx
    exact h.bcz.lo v hx
theorem BestSt.chunk {sig:Sig} {b:Big} {pl ed:List Int} {many:Int} {s:Cz} (hv:ValidB sig b) (h:BestSt b pl ed many s) {k:Int} (hk:0≤k∧k<b.nodes.length):chunkZ b k pl ed=((chunkC b s k).1,numsE b (chunkC b s k).2)∧EsOk b (chunkC b s k).2:=by
  have hl:=hv.linksAt hk
  obtain⟨t1,t2⟩:=told_links (at' b.nodes k).links _ h.bes fun l hl2=>(hl l hl2).1
  rw[h.bed] at t1
  refine⟨?_,t2⟩
  simp only[chunkZ,t1,chunkC,h.bpl]
theorem BestSt.step {sig:Sig} {b:Big} {pl ed:List Int} {many:Int} {s:Cz} (hv:ValidB sig b) (h:BestSt b pl ed many s) (hm:many<b.nodes.length) {k:Int} (hk:k ∈ freeC b s.pl) :
    BestSt b (pl.set k.toNat many) (chunkZ b k pl ed).2 (many+1) (stepC b s k):=by
  have hr:=(mem_freeC.1 hk).1
  have hb:=h.bnum
  have hn:=hv.len
  obtain⟨e1,e2⟩:=h.chunk hv hr
  have h1:=h.bfit
  rw[show b.nodes.length - many.toNat=(b.nodes.length - (many+1).toNat)+1 by omega] at h1
  have h2:=CzOk.step hv h.bcz hr (by omega)
  refine⟨h1.step hk,?_,e2,?_,by rw[e1];rfl,by omega⟩
  · rw[show (many+1).toNat=many.toNat+1 by omega];exact h2
  · have:=h.bcz.num
    simp only[stepC,h.bpl]
    congr 1;omega
theorem comps_len {b:Big} (he:Even b) (h3:∀ k:Int,0≤k∧k<b.nodes.length→(at' b.nodes k).links.length≤3):∀ {m:Nat} {s:Cz} {p:P2},p ∈ comps b m s→p.2.length=m∧p.1.length≤5 * m+(b.sites.length+b.inner.length)
  | 0,s,p,h=>by
    rw[List.mem_singleton.1 h]
    simp[tailC,linksC_len]
  | m+1,s,p,h=>by
    obtain⟨k,hk,q,hq,rfl⟩:=comps_succ.1 h
    have hr:=(mem_freeC.1 hk).1
    obtain⟨h4,h5⟩:=comps_len he h3 hq
    have h6:=h3 k hr
    have h7:(chunkC b s k).1.length≤5:=by simp[chunkC,linksC_len];omega
    simp only[List.length_cons,List.length_append]
    omega
theorem freeT_in {b:Big} {pl:List Int} {k:Int} (h:k ∈ freeT b pl):k ∈ freeC b pl:=(thin_in _ h).resolve_left (by simp)
theorem freeT_ne {b:Big} (hd:Downs b) {m:Nat} {s:Cz} (h:Fit b (m+1) s):freeT b s.pl ≠ []:=by
  have hhas:=thin_has (twinB b) (l:=freeC b s.pl) (out:=[]) (by simp) (freeC_asc s.pl)
  obtain⟨k,hk⟩:=free_some hd h
  rcases hhas k hk with h1 | ⟨x,h1,_⟩<;>intro e<;>rw[freeT] at e<;>rw[e] at h1<;>cases h1
theorem bestZ_vc (b:Big) (places edges:List Int) (many:Int) (h:bestZ_pre b places edges many):bestZ_wp b places edges many (fun z=>z=bestZ b places edges many):=by
  unfold bestZ_wp
  obtain⟨⟨sig,hv⟩,s,hs⟩:=h
  have hn:=hv.len
  have hsl:=hv.slen
  have hil:=hv.inner
  have hb:=hs.bnum
  have hrz:=hs.rz hv
  have hpl:places.length=b.nodes.length:=hrz.pl
  simp only[forall_eq,decide_eq_true_eq,decide_eq_false_iff_not]
  refine⟨fun h1=>⟨hrz.tail hv,?_⟩,fun h1=>⟨⟨⟨sig,hv⟩,hpl⟩,?_⟩⟩
  · obtain⟨t1,t2⟩:=told_links (b.inner.map fun w=>w.link) _ hs.bes fun l hl=>by
      obtain⟨w,hw,rfl⟩:=List.mem_map.1 hl
      exact (hv.wires w hw).1
    rw[hs.bed] at t1
    rw[bestZ_eq hs,show b.nodes.length - many.toNat=0 by omega,bestC]
    simp only[tailZ,t1,tailC,hs.bpl]
  have hm:many<b.nodes.length:=by omega
  obtain⟨m,hmm⟩:∃ m,b.nodes.length - many.toNat=m+1:=⟨b.nodes.length - many.toNat - 1,by omega⟩
  have hfit:=hs.bfit
  rw[hmm] at hfit
  have hne:=freeT_ne hv.downs hfit
  have hin:∀ x ∈ freeT b s.pl,0≤x∧x<b.nodes.length:=fun x hx=>(mem_freeC.1 (freeT_in hx)).1
  have hfl:(freeT b s.pl).length≤b.nodes.length:=by
    have h2:=thin_len (twinB b) (freeC b s.pl) []
    have h3:(freeC b s.pl).length≤b.nodes.length:=freeAt_len b s.pl b.nodes.length
    simp only[List.length_nil] at h2
    have h4:(freeT b s.pl).length≤0+(freeC b s.pl).length:=h2
    omega
  have hch:∀ k:Int,0≤k∧k<b.nodes.length→(chunkC b s k).1.length≤5:=fun k hk=>by
    have:=hv.links3 hk
    simp[chunkC,linksC_len];omega
  rw[bestZ_eq hs,hmm,show freeZ b places=freeT b s.pl by rw[hs.bpl]]
  have hrec:∀ k ∈ freeT b s.pl,(bestZ b (places.set k.toNat many) (chunkZ b k places edges).2 (many+1))=bestC b m (stepC b s k)∧(bestC b m (stepC b s k)).2.length≤8∧(bestC b m (stepC b s k)).1.length≤100:=fun k hk=>by
    have h2:=hs.step hv hm (freeT_in hk)
    have h3:=(bestC_min hv.even hv.downs (fun p hp=>(hv.sites p hp).2) (hfit.step (freeT_in hk))).1
    have h4:=comps_len hv.even (fun k hk=>hv.links3 hk) h3
    rw[bestZ_eq h2,show b.nodes.length - (many+1).toNat=m by omega]
    exact⟨rfl,by omega,by omega⟩
  rw[bestC]
  generalize hF:freeT b s.pl=F at hne hin hfl hrec
  obtain⟨k0,t,hF2⟩:∃ k0 t,F=k0::t:=by
    cases F with
    | nil=>exact absurd rfl hne
    | cons k0 t=>exact⟨k0,t,rfl⟩
  have hF0:at' F (0:Int)=k0:=by rw[hF2];rfl
  have hlF:0<F.length:=by rw[hF2];simp
  have hk0:=hin k0 (by rw[hF2];simp)
  rw[hF0]
  have hc0:=hs.chunk hv hk0
  refine⟨⟨by omega,by omega⟩,hrz.chunk hv hk0,?_⟩
  rw[hc0.1]
  refine loopW.up t.length (fun s=>s.1 - 1) (fun k l=>((k:Int)+1,l)) (fun k l=>by simp) (fun k l=>l=(t.take k).foldl (fun a k=>if cmpL (chunkC b s k).1 a<0 then (chunkC b s k).1 else a) (chunkC b s k0).1∧l.length≤5) _ rfl ⟨rfl,hch k0 hk0⟩ ?_
  rintro i l K hi ⟨hl,hl5⟩ IH
  have htl:F.length=t.length+1:=by rw[hF2];simp
  simp only[forall_eq,decide_eq_true_eq,decide_eq_false_iff_not]
  refine⟨fun h2=>?_,fun h2=>?_⟩
  · have hit:i<t.length:=by omega
    have hFi:at' F ((i:Int)+1)=t[i]:=by
      rw[hF2,show (i:Int)+1=((i+1:Nat):Int) by omega,at_lt (by simp;omega)];simp
    have hti:=hin t[i] (by rw[hF2];simp)
    have hci:=hs.chunk hv hti
    have h5:=hch _ hti
    rw[hFi,hci.1]
    refine⟨⟨by omega,by omega⟩,hrz.chunk hv hti,⟨by simp only;omega,by omega⟩,fun h6=>⟨⟨by omega,by omega⟩,?_⟩,fun h6=>⟨⟨by omega,by omega⟩,?_⟩⟩
    · refine IH hit _ ⟨?_,h5⟩
      rw[← List.take_append_getElem hit,List.foldl_append,← hl]
      simp only[lessZ,decide_eq_true_eq] at h6
      simp[h6]
    · refine IH hit _ ⟨?_,hl5⟩
      rw[← List.take_append_getElem hit,List.foldl_append,← hl]
      simp only[lessZ,decide_eq_false_iff_not] at h6
      simp[h6]
  · have hit:i=t.length:=by omega
    rw[hit,List.take_length] at hl
    have hlc:l=leastC b s F:=by rw[hl,hF2];rfl
    rw[← hlc]
    clear IH K
    refine loopW.up (τ:=Bool × List Int × List Int) F.length (fun s=>s.2.1) (fun j x=>(x.1,(j:Int),x.2.1,x.2.2)) (fun _ _=>rfl) (fun j x=>(x.2.2,x.2.1,x.1)=(F.take j).foldl (pickB (fun k=>decide ((chunkC b s k).1=l)) fun k=>bestC b m (stepC b s k)) ([],[],false)∧x.2.1.length≤9∧x.2.2.length≤100) (false,[],[]) rfl ⟨rfl,by simp,by simp⟩ ?_
    rintro j ⟨found,ord,code⟩ K hj ⟨hI,ho9,hc100⟩ IH
    simp only at hI ho9 hc100
    simp only[forall_eq,decide_eq_true_eq,decide_eq_false_iff_not]
    refine⟨fun h3=>?_,fun h3=>?_⟩
    · have hjF:j<F.length:=by omega
      have hFj:at' F (j:Int)=F[j]:=at_lt hjF
      have hmem:F[j] ∈ F:=List.getElem_mem hjF
      have hfj:=hin _ hmem
      have hcj:=hs.chunk hv hfj
      have h5:=hch _ hfj
      obtain⟨r1,r2,r3⟩:=hrec _ hmem
      have hst:=hs.step hv hm (freeT_in (by rw[hF];exact hmem):F[j] ∈ freeC b s.pl)
      have hfold:∀ x,x=pickB (fun k=>decide ((chunkC b s k).1=l)) (fun k=>bestC b m (stepC b s k)) (code,ord,found) F[j]→x=(F.take (j+1)).foldl (pickB (fun k=>decide ((chunkC b s k).1=l)) fun k=>bestC b m (stepC b s k)) ([],[],false):=fun x hx=>by
        rw[← List.take_append_getElem hjF,List.foldl_append,← hI,hx];rfl
      rw[hFj]
      rw[hcj.1] at r1 hst ⊢
      refine⟨⟨by omega,by omega⟩,hrz.chunk hv hfj,by simp only[sameZ_pre];omega,fun h6=>?_,fun h6=>?_⟩
      · simp only[sameZ,decide_eq_true_eq] at h6
        have hat:∃ y,at' (ownZ places) F[j]=y:=⟨_,rfl⟩
        refine⟨by simp only[ownZ_pre];omega,⟨by omega,by omega⟩,⟨hfj.1,by simp only[ownZ];omega⟩,⟨by omega,by omega⟩,⟨⟨⟨sig,hv⟩,_,hst⟩,by simp only[bestZ_ms];omega⟩,?_⟩
        simp only[ownZ]
        rw[r1]
        refine⟨fun c=>c=(found=false∨cmpL (bestC b m (stepC b s F[j])).1 code<0:Bool),⟨fun h7=>⟨⟨by omega,by omega⟩,?_⟩,fun h7=>by simp[h7]⟩,?_⟩
        · simp[h7,lessZ]
        · rintro _ rfl
          simp only[decide_eq_true_eq,decide_eq_false_iff_not]
          refine⟨fun h7=>⟨⟨by omega,by omega⟩,by simp;omega,⟨by omega,by omega⟩,IH hjF (_,_,_) ⟨hfold _ ?_,by simp;omega,r3⟩⟩,fun h7=>⟨⟨by omega,by omega⟩,IH hjF (_,_,_) ⟨hfold _ ?_,ho9,hc100⟩⟩⟩
          · simp only[pickB,h6,decide_true,if_true]
            rw[if_pos h7];simp
          · simp only[pickB,h6,decide_true,if_true]
            rw[if_neg h7]
      · simp only[sameZ,decide_eq_false_iff_not] at h6
        refine⟨⟨by omega,by omega⟩,IH hjF (_,_,_) ⟨hfold _ ?_,ho9,hc100⟩⟩
        simp[pickB,h6]
    · rw[show j=F.length by omega,List.take_length] at hI
      refine⟨by omega,?_⟩
      rw[← hI]
end Go.Ab.Vg
/- The abstract machine, part Sf: variables that are never written again: boxes as immutable cells, slices of arrays in them; loops that are unrolled. -/
namespace Go.Ab
set_option linter.unusedSectionVars false
section
variable {P:Program} {N:Nat} {ρ:Env} {H:Heap} {n:Nat} {Ty:Types} {d:Option Tmp} {ty:TypeId} {pos:String} {af:Array Edge} {gu:Option (Nat × Bool)}
end
section
variable {P:Program} {f:FuncId} {N:Nat} {k:List Item} {Q:AVal→Heap→Nat→Prop} {Ty:Types} {l:List Oper} {ρ:Env} {H:Heap} {n:Nat} {d:Option Tmp} {ty:TypeId} {pos:String} {af:Array Edge}
theorem Runs.seqK (hT:TypesOk P Ty) {id:Nat} {ops:List Oper} {y:Code} (hN:ops.all (fun o=>dok N o.dst)=true) (h:∀ k':List Item,(∀ ρ H n,Runs P f N (.code y::k) ρ H n Q→Runs P f N k' ρ H n Q)→RunK P f N k' Q ops.toArray ops ρ H n) :
    Runs P f N (.code (.seq (.region id ops.toArray false) y)::k) ρ H n Q:=
  Runs.seq (Runs.region (h (.code y::k) fun _ _ _ h=>h))
end
end Go.Ab
/- The order of the canonical form: impl.canonicalOrder, by hand. -/
namespace Go.Ab.Vg
set_option linter.unusedSimpArgs false
set_option linter.unusedVariables false
open Go.Proofs
section
variable {P:Program} {f:FuncId} {N:Nat} {k:List Item} {Q:AVal→Heap→Nat→Prop} {Ty:Types} {l:List Oper} {ρ:Env} {H:Heap} {n:Nat}
theorem RunK.callS2 {ops:Array Oper} {d:Option Tmp} {g:Operand} {args:Array Operand} {ats:Array TypeId} {ty:TypeId} {pos:String} {af:Array Edge} {post:AVal→Heap→Nat→Prop} {f':FuncId} {as1:List AVal}
    (h:CallsA P f' as1 H n post) (hent:Ent P f') (hd:dok N d=true) (hg:ρ.ev g = .fn (.func f') [] []) (has:args.toList.map ρ.ev=as1)
    (hk:∀ v H1 n1,post v H1 n1→RunK P f N k Q ops l (ρ.put d v) H1 n1):RunK P f N k Q ops (⟨d,.call ⟨.value g,args,ats⟩,ty,pos,af,none⟩::l) ρ H n:=by
  refine RunO.op rfl hd ((OpSem.call (first:=[]) (captured:=[]) hg hent (by rw[has,List.nil_append,List.append_nil];exact h)).mono ?_)
  exact hk
end
theorem rowP_map {b:Big} {φ:AVal→AVal} (hφ:∀ a,Imm a→φ a=a) (p:AttV):(rowA b p).map φ=rowA b (p.1,φ p.2):=by
  rw[rowA,cdE_map hφ (immI _) (.inr trivial),hφ _ (immI _),Option.map_some,hφ _ (immI _)];rfl
theorem rowP_sub {b:Big} {a:Att} {v w:AVal} (h:Sub v w):SubL (rowA b (a,v)) (rowA b (a,w)):=
  SubL.append (.refl _) (SubL.append (.refl _) (.cons (.refl _) (.cons (.refl _) (.cons h .nil))))
def rowL (b:Big) (a:Att):List AVal:=rowA b (a,.list true (a.code.map intC))
def extTo (b:Big) (a:Att) (j:Nat):List Att:=(((List.range j).map fun i:Nat=>(i:Int)).filter (freeP b a.s.pl)).map fun k=>⟨a.order++[k],stepC b a.s k,a.code++(chunkC b a.s k).1⟩
theorem extTo_all (b:Big) (a:Att):extTo b a b.nodes.length=extC b a:=rfl
theorem extTo_yes {b:Big} {a:Att} {j:Nat} (h:freeP b a.s.pl (j:Int)=true):extTo b a (j+1)=extTo b a j++[⟨a.order++[(j:Int)],stepC b a.s j,a.code++(chunkC b a.s j).1⟩]:=by simp[extTo,List.range_succ,h]
theorem extTo_no {b:Big} {a:Att} {j:Nat} (h:freeP b a.s.pl (j:Int)=false):extTo b a (j+1)=extTo b a j:=by simp[extTo,List.range_succ,h]
structure CoS (b:Big) (C L M X:Id) (m i j len qlen:Nat) (rows qrows:List (List AVal)) (xrow:List AVal) (ρ:Env) (H:Heap):Prop where
  r1:ρ 1 = .ptr (0,1) 1 0 0
  r3:ρ 3 = .ptr C 1 0 0
  r5:ρ 5=int m
  r6:ρ 6 = .arr M qlen 0 qlen
  r8:ρ 8 = .ptr X 1 0 0
  r24:ρ 24=int b.nodes.length
  r25:ρ 25=int m
  r29:ρ 29 = .arr L len 0 len
  r30:ρ 30=int len
  r31:ρ 31=int i
  r36:ρ 36 = .list false (b.nodes.map (GNode.cells false))
  r37:ρ 37=int b.nodes.length
  r38:ρ 38=int j
  mB:H (0,1)=some ⟨6,[Big.cells false b]⟩
  mC:∃ cs,H C=some ⟨9,[cs]⟩∧cs.length=9
  mL:H L=some ⟨10,rows⟩
  mM:H M=some ⟨10,qrows⟩
  mX:H X=some ⟨10,[xrow]⟩
theorem CoS.keep {b:Big} {C L M X:Id} {m i j len qlen:Nat} {rows qrows:List (List AVal)} {xrow:List AVal} {ρ ρ':Env} {H H':Heap} (h:CoS b C L M X m i j len qlen rows qrows xrow ρ H)
    (hr:∀ t ∈ [1,3,5,6,8,24,25,29,30,31,36,37,38],ρ' t=ρ t) (hH:∀ k ∈ [X,M,L,C,(0,1)],H' k=H k):CoS b C L M X m i j len qlen rows qrows xrow ρ' H' where
  r1:=(hr 1 (by simp)).trans h.r1
  r3:=(hr 3 (by simp)).trans h.r3
  r5:=(hr 5 (by simp)).trans h.r5
  r6:=(hr 6 (by simp)).trans h.r6
  r8:=(hr 8 (by simp)).trans h.r8
  r24:=(hr 24 (by simp)).trans h.r24
  r25:=(hr 25 (by simp)).trans h.r25
  r29:=(hr 29 (by simp)).trans h.r29
  r30:=(hr 30 (by simp)).trans h.r30
  r31:=(hr 31 (by simp)).trans h.r31
  r36:=(hr 36 (by simp)).trans h.r36
  r37:=(hr 37 (by simp)).trans h.r37
  r38:=(hr 38 (by simp)).trans h.r38
  mB:=(hH _ (by simp)).trans h.mB
  mC:=by obtain⟨cs,h1,h2⟩:=h.mC;exact⟨cs,(hH _ (by simp)).trans h1,h2⟩
  mL:=(hH _ (by simp)).trans h.mL
  mM:=(hH _ (by simp)).trans h.mM
  mX:=(hH _ (by simp)).trans h.mX
theorem cEnt_set {qs:List AttV} {i:Nat} {p:AttV} (h:i<qs.length):cEnt (qs.set i p)=cEnt (qs.take i)++oI p.2 p.1.code::cEnt (qs.drop (i+1)):=by
  rw[List.set_eq_take_append_cons_drop,if_pos h];simp only[cEnt,List.map_append,List.map_cons]
theorem cEnt_split {qs:List AttV} {i:Nat} (h:i<qs.length):cEnt qs=cEnt (qs.take i)++oI qs[i].2 qs[i].1.code::cEnt (qs.drop (i+1)):=by
  have h1:=cEnt_set (p:=qs[i]) h
  rw[List.set_getElem_self] at h1
  exact h1
theorem CoS.fz {b:Big} {C L M X:Id} {m i j len qlen:Nat} {rows qrows:List (List AVal)} {xrow:List AVal} {ρ:Env} {H H':Heap} {φ:AVal→AVal} {ids:List Id} (h:CoS b C L M X m i j len qlen rows qrows xrow ρ H)
    (hin:∀ k ∈ [X,M,L,C,(0,1)],k ∈ ids) (hH:∀ k ∈ ids,H' k=(H k).map fun o=>⟨o.size,o.els.map fun e=>e.map φ⟩) (hφ:∀ a,Imm a→φ a=a) (hp:∀ i ∈ ids,∀ g x y,φ (.ptr i g x y) = .ptr i g x y∧φ (.arr i g x y) = .arr i g x y)
    (h1:rows.map (fun e=>e.map φ)=rows) (h2:qrows.map (fun e=>e.map φ)=qrows) (h3:xrow.map φ=xrow):CoS b C L M X m i j len qlen rows qrows xrow (fun t=>φ (ρ t)) H' where
  r1:=by show φ (ρ 1)=_;rw[h.r1];exact (hp _ (hin _ (by simp)) _ _ _).1
  r3:=by show φ (ρ 3)=_;rw[h.r3];exact (hp _ (hin _ (by simp)) _ _ _).1
  r5:=by show φ (ρ 5)=_;rw[h.r5];exact hφ _ (.v _)
  r6:=by show φ (ρ 6)=_;rw[h.r6];exact (hp _ (hin _ (by simp)) _ _ _).2
  r8:=by show φ (ρ 8)=_;rw[h.r8];exact (hp _ (hin _ (by simp)) _ _ _).1
  r24:=by show φ (ρ 24)=_;rw[h.r24];exact hφ _ (.v _)
  r25:=by show φ (ρ 25)=_;rw[h.r25];exact hφ _ (.v _)
  r29:=by show φ (ρ 29)=_;rw[h.r29];exact (hp _ (hin _ (by simp)) _ _ _).2
  r30:=by show φ (ρ 30)=_;rw[h.r30];exact hφ _ (.v _)
  r31:=by show φ (ρ 31)=_;rw[h.r31];exact hφ _ (.v _)
  r36:=by show φ (ρ 36)=_;rw[h.r36];exact hφ _ (imm_big false b _ (by simp[Big.cells,encN]))
  r37:=by show φ (ρ 37)=_;rw[h.r37];exact hφ _ (.v _)
  r38:=by show φ (ρ 38)=_;rw[h.r38];exact hφ _ (.v _)
  mB:=by
    have hBm:(Big.cells false b).map φ=Big.cells false b:=by
      conv=>rhs;rw[← List.map_id (Big.cells false b)]
      exact List.map_congr_left fun a ha=>hφ a (imm_big false b a ha)
    rw[hH _ (hin _ (by simp)),h.mB];simp[hBm]
  mC:=by obtain⟨cs,q1,q2⟩:=h.mC;exact⟨cs.map φ,by rw[hH _ (hin _ (by simp)),q1];simp,by simp[q2]⟩
  mL:=by rw[hH _ (hin _ (by simp)),h.mL];simp[h1]
  mM:=by rw[hH _ (hin _ (by simp)),h.mM];simp[h2]
  mX:=by rw[hH _ (hin _ (by simp)),h.mX];simp[h3]
section
theorem e100:Ent Tryz.prog 100:=Ent.of Tryz.func100 (by kernel_rfl) rfl
theorem ResOk.pts {H:Heap} {n:Nat} {as1 bs:List AVal} (hl:as1.length=bs.length) (h:∀ (i:Nat) (a c:AVal),as1[i]?=some a→bs[i]?=some c→ResOk H n a c):ResOk H n (.agg as1) (.agg bs)∧ResOk H n (.tup as1) (.tup bs):=by
  constructor
  · intro c x hH hn g r c' hw hm hB
    cases r with
    | agg _ vs hl' hr=>
    refine .agg _ vs (by omega) fun i a x ha hx=>?_
    obtain⟨a0,ha0⟩:=get_of_len (l:=as1) (i:=i) (by rw[hl];exact (List.getElem?_eq_some_iff.1 ha).1)
    exact h i a0 a ha0 ha c x hH hn g (hr i a0 x ha0 hx) c' hw hm hB
  · intro c x hH hn g r c' hw hm hB
    cases r with
    | tup _ vs hl' hr=>
    refine .tup _ vs (by omega) fun i a x ha hx=>?_
    obtain⟨a0,ha0⟩:=get_of_len (l:=as1) (i:=i) (by rw[hl];exact (List.getElem?_eq_some_iff.1 ha).1)
    exact h i a0 a ha0 ha c x hH hn g (hr i a0 x ha0 hx) c' hw hm hB
theorem ResOk.ints (H:Heap) (n:Nat) (l:List Int):ResOk H n (.list true (l.map intC)) (.list true (l.map intC)):=.of (Ret.fresh (by
  rw[fresh_list]
  intro e he a ha
  obtain⟨x,_,rfl⟩:=List.mem_map.1 he
  simp only[intC,List.mem_singleton] at ha
  subst ha
  exact .v _))
def lastA (b:Big):List Att:=leastA ((layN b b.nodes.length).map (restC b))
instance:Inhabited Att:=⟨⟨[],⟨[],[],0⟩,[]⟩⟩
def canonA (b:Big):Att:=firstA (lastA b) (at' (lastA b) 0)
def bestP (d:AttV) (l:List AttV):AttV:=l.foldl (fun best x=>if cmpL x.1.order best.1.order<0 then x else best) d
theorem bestP_fst (d:AttV) (l:List AttV):(bestP d l).1=firstA (l.map (·.1)) d.1:=by
  induction l generalizing d with
  | nil=>rfl
  | cons x l ih=>
    have h1:bestP d (x::l)=bestP (if cmpL x.1.order d.1.order<0 then x else d) l:=rfl
    have h2:firstA ((x::l).map (·.1)) d.1=firstA (l.map (·.1)) (if cmpL x.1.order d.1.order<0 then x.1 else d.1):=rfl
    rw[h1,h2,ih]
    congr 1
    split<;>rfl
theorem bestP_mem (d:AttV) (l:List AttV):bestP d l=d∨bestP d l ∈ l:=by
  induction l generalizing d with
  | nil=>exact .inl rfl
  | cons x l ih=>
    have h1:bestP d (x::l)=bestP (if cmpL x.1.order d.1.order<0 then x else d) l:=rfl
    rw[h1]
    rcases ih (if cmpL x.1.order d.1.order<0 then x else d) with h | h
    · rw[h]
      split
      · exact .inr (by simp)
      · exact .inl rfl
    · exact .inr (by simp[h])
set_option maxRecDepth 100000 in
theorem canonicalOrder_c0 {sig:Sig} {b:Big} (hv:ValidB sig b) (he:Even b) (hdn:Downs b):CallsA Tryz.prog 54 [.agg (Big.cells false b)] noHeap 0 (fun v _ _=>∃ q,Ab.one1 q=true∧v = .tup [.list true ((canonA b).order.map intC),.agg (cdE none b (.list true ((canonA b).s.es.map intC)) (.list true ((canonA b).s.pl.map intC)) q)]):=by
  have hn8:=hv.len
  refine CallsA.of Tryz.func54 rfl Tryz.ntmps54 (by simp) fun Q hQ=>?_
  have sp:Sep noHeap 0 [] []:=Sep.nil (by simp)
  refine Runs.seqE Ty_ok (by decide) fun k' hk'=>?_
  simp[Big.cells]
  apply hk'
  refine Runs.cut (fun ρ H n=>∃ C:Id,ρ 1 = .ptr (0,1) 1 0 0∧ρ 3 = .ptr C 1 0 0∧C ≠ (0,1)∧H (0,1)=some ⟨6,[Big.cells false b]⟩∧(∃ cs,H C=some ⟨9,[cs]⟩∧cs.length=9)∧Sep H n [] [C,(0,1)]) ⟨(1,3),by simp,by simp,by simp,by simp[Big.cells],⟨_,by simp;rfl,rfl⟩,Sep.var (Sep.var sp)⟩ ?_
  clear hk' sp
  rintro ρ H n ⟨C,r1,r3,hCB,mB,⟨cs,mC,hcs⟩,sp⟩
  refine Runs.seqK Ty_ok (by decide) fun k' hk'=>?_
  refine RunK.same1 (v:=.agg (Big.cells false b)) Ty_ok (by decide) rfl (by simp[r1,mB,Big.cells]) ?_
  refine RunK.callS2 (newCoder_c (b:=b) (by omega) sp) e92 (by decide) rfl (by simp) ?_
  rintro _ H1 n1 ⟨X,rfl,hX0,mX,sp2,fr2,hn1⟩
  refine RunK.same1 (v:=.ptr X 1 0 0) Ty_ok (by decide) rfl (by simp[mX]) ?_
  refine RunK.same1 (v:=.agg (cdE none b (.v (.slice none 0 0)) (.list true ((List.replicate b.nodes.length (-1:Int)).map intC)) (.v (.slice none 0 0)))) Ty_ok (by decide) rfl (by simp[mX,cdE,Big.cells]) ?_
  refine RunK.same1 (v:=.agg (cdE (some (.v (.slice none 0 0))) b (.v (.slice none 0 0)) (.list true ((List.replicate b.nodes.length (-1:Int)).map intC)) (.v (.slice none 0 0)))) Ty_ok (by decide) rfl (by simp[cdE,Big.cells]) ?_
  refine RunK.op Ty_ok (by decide) (by decide) rfl (ownF_ok (v:=.arr (n1,21) 1 0 1) (H':=H1.set (n1,21) ⟨10,[cdE (some (.v (.slice none 0 0))) b (.v (.slice none 0 0)) (.list true ((List.replicate b.nodes.length (-1:Int)).map intC)) (.v (.slice none 0 0))]⟩) (n':=n1+1) Ty_ok (by simp[ownF,cdE,Big.cells,List.range_succ])).1 ?_
  rintro _ _ _ ⟨rfl,rfl,rfl⟩
  simp
  apply hk'
  refine Runs.subX (X:=(n1,21)) (rows':=[rowA b (⟨[],s0C b,[]⟩,.v (.slice none 0 0))]) (Heap.get_set_self _ _ _) rfl (fun i e e' he he'=>?_) ?_
  · match i with
    | 0=>
      simp only[List.getElem?_cons_zero,Option.some.injEq] at he he'
      subst he he'
      exact .cons (Sub.nil true) (@SubL.append (Big.cells false b) (Big.cells false b) _ _ (.refl _) (.cons (Sub.nil true) (.cons (by simp only[s0C,List.map_replicate];exact Sub.refl _) (.refl _))))
    | i+1=>simp at he
  rw[Heap.set_set]
  have hNi:∀ i ∈ [C,(0,1)],i ≠ (n1,21):=fun i hi h=>by have:=sp2.1 i (List.mem_cons_of_mem _ hi);rw[h] at this;simp at this
  have mB1:(H1.set (n1,21) ⟨10,[rowA b (⟨[],s0C b,[]⟩,.v (.slice none 0 0))]⟩) (0,1)=some ⟨6,[Big.cells false b]⟩:=by rw[Heap.get_set_ne _ _ (hNi _ (by simp)),fr2 _ (by simp)];exact mB
  have mC1:(H1.set (n1,21) ⟨10,[rowA b (⟨[],s0C b,[]⟩,.v (.slice none 0 0))]⟩) C=some ⟨9,[cs]⟩:=by rw[Heap.get_set_ne _ _ (hNi _ (by simp)),fr2 _ (by simp)];exact mC
  have sp3:=Sep.addNil (l:=[.c]) (Sep.sub (ids':=[(n1,21),C,(0,1)]) (Sep.var (d:=21) (o:=⟨10,[rowA b (⟨[],s0C b,[]⟩,.v (.slice none 0 0))]⟩) sp2) (by simp +contextual))
  have mL1:=Heap.get_set_self H1 (n1,21) ⟨10,[rowA b (⟨[],s0C b,[]⟩,.v (.slice none 0 0))]⟩
  generalize H1.set (n1,21) ⟨10,[rowA b (⟨[],s0C b,[]⟩,.v (.slice none 0 0))]⟩=H2 at mB1 mC1 sp3 mL1
  refine Runs.seq ?_
  refine Runs.seqE Ty_ok (by decide) fun k' hk'=>?_
  have f1:=fun H=>len_list (H:=H) (fr:=false) (f:=GNode.cells false) (l:=b.nodes) kd_35 rfl
  simp[r1,mB1,Big.cells,encN,f1,-lenF]
  apply hk'
  refine Runs.block (Runs.loopUp b.nodes.length (fun m ρ H n=>∃ (L:Id) (ps:List AttV),ρ 1 = .ptr (0,1) 1 0 0∧ρ 3 = .ptr C 1 0 0∧ρ 4 = .arr L ps.length 0 ps.length∧ρ 24=int b.nodes.length∧ρ 25=int m∧H (0,1)=some ⟨6,[Big.cells false b]⟩∧(∃ cs,H C=some ⟨9,[cs]⟩∧cs.length=9) ∧
      H L=some ⟨10,ps.map (rowA b)⟩∧L ∉ [C,(0,1)]∧ps.map (·.1)=layN b m∧Sep H n (cEnt ps) [L,C,(0,1)])
    ⟨(n1,21),[(⟨[],s0C b,[]⟩,.v (.slice none 0 0))],by simp[r1],by simp[r3],by simp,by simp,by simp,mB1,⟨_,mC1,hcs⟩,mL1,fun h=>hNi _ h rfl,rfl,sp3⟩ ?_)
  clear hk' f1 mB1 mC1 sp3 mL1 hNi hn1 fr2 sp2 mX hX0 r1 r3 mB mC sp
  rintro m ρ H n hm ⟨L,ps,r1,r3,r4,r24,r25,mB,mC,mL,hLi,hps,sp⟩ IH
  refine Runs.seqE Ty_ok (by decide) fun k' hk'=>?_
  simp[r24,r25]
  apply hk'
  refine Runs.seq ?_
  refine Runs.ite rfl (fun hc1=>?_) (fun hc1=>?_)
  · have hc1:m<b.nodes.length:=by simpa using hc1
    have hok:=layN_ok hv m hm
    refine Runs.skip ?_
    refine Runs.seq ?_
    refine Runs.block ?_
    refine Runs.cut (fun ρ H n=>ρ 1 = .ptr (0,1) 1 0 0∧ρ 3 = .ptr C 1 0 0∧ρ 4 = .arr L ps.length 0 ps.length∧ρ 24=int b.nodes.length∧ρ 25=int m∧H (0,1)=some ⟨6,[Big.cells false b]⟩∧(∃ cs,H C=some ⟨9,[cs]⟩∧cs.length=9)∧H L=some ⟨10,ps.map (rowA b)⟩∧Sep H n (cEnt ps) [L,C,(0,1)]) ⟨by simp[r1],by simp[r3],by simp[r4],by simp[r24],by simp[r25],mB,mC,mL,sp⟩ ?_
    clear hk' r1 r3 r4 r24 r25 mB mC mL sp
    rintro ρ H n ⟨r1,r3,r4,r24,r25,mB,mC,mL,sp⟩
    have spE:Sep H n ((ps.map fun p=>(p.2,p.1.code)).map fun e=>oI e.1 e.2) [L,C,(0,1)]:=by simpa[cEnt,List.map_map,Function.comp_def] using sp
    refine Runs.fzAll _ spE fun H1 φ sp1 fr1 hφ hsub hptr=>?_
    have mB1:=fr1 (0,1) (by simp)
    have mL1:=fr1 L (by simp)
    obtain⟨cs,mC,hcs⟩:=mC
    have mC1:=fr1 C (by simp)
    have hBm:(Big.cells false b).map φ=Big.cells false b:=by
      conv=>rhs;rw[← List.map_id (Big.cells false b)]
      exact List.map_congr_left fun a ha=>hφ a (imm_big false b a ha)
    rw[mB] at mB1
    rw[mL] at mL1
    rw[mC] at mC1
    simp only[Option.map_some,List.map_cons,List.map_nil,hBm] at mB1 mC1
    simp only[Option.map_some,List.map_map,Function.comp_def,rowP_map hφ] at mL1
    refine Runs.subX (X:=L) (rows':=(ps.map (·.1)).map (rowL b)) mL1 (by simp) (fun i e e' he he'=>?_) ?_
    · rw[List.getElem?_map] at he
      rw[List.map_map,List.getElem?_map] at he'
      cases hpi:ps[i]? with
      | none=>rw[hpi] at he;cases he
      | some p=>
        rw[hpi] at he he'
        simp only[Option.map_some,Option.some.injEq,Function.comp] at he he'
        subst he he'
        exact rowP_sub (hsub (p.2,p.1.code) (List.mem_map.2 ⟨p,List.mem_of_getElem? hpi,rfl⟩))
    have hLn:∀ i ∈ [C,(0,1)],i ≠ L:=fun i hi h=>hLi (h ▸ hi)
    refine Runs.cut (fun ρ H n=>ρ 1 = .ptr (0,1) 1 0 0∧ρ 3 = .ptr C 1 0 0∧ρ 4 = .arr L ps.length 0 ps.length∧ρ 24=int b.nodes.length∧ρ 25=int m∧H (0,1)=some ⟨6,[Big.cells false b]⟩∧(∃ cs,H C=some ⟨9,[cs]⟩∧cs.length=9)∧H L=some ⟨10,(layN b m).map (rowL b)⟩∧Sep H n [] [L,C,(0,1)])
      ⟨by simp only[r1];exact (hptr _ (by simp) _ _ _).1,by simp only[r3];exact (hptr _ (by simp) _ _ _).1,by simp only[r4];exact (hptr _ (by simp) _ _ _).2,by simp only[r24];exact hφ _ (.v _),by simp only[r25];exact hφ _ (.v _),by rw[Heap.get_set_ne _ _ (hLn _ (by simp))];exact mB1,⟨cs.map φ,by rw[Heap.get_set_ne _ _ (hLn _ (by simp))];exact mC1,by simp[hcs]⟩,by rw[Heap.get_set_self,hps],Sep.setVar sp1 (by simp)⟩ ?_
    have hpl:ps.length=(layN b m).length:=by rw[← hps];simp
    rw[hpl]
    clear r1 r3 r4 r24 r25 mB mC mL sp mB1 mC1 mL1 sp1 fr1 hsub hptr hφ spE hps hpl hBm
    clear ps
    rintro ρ H n ⟨r1,r3,r4,r24,r25,mB,mC,mL,sp⟩
    refine Runs.seqE Ty_ok (by decide) fun k' hk'=>?_
    simp[r25]
    apply hk'
    refine Runs.seqE Ty_ok (by decide) fun k' hk'=>?_
    simp
    apply hk'
    have hnN:∀ i ∈ [L,C,(0,1)],i ≠ (n,28):=fun i hi h=>by have:=sp.1 i hi;rw[h] at this;simp at this
    obtain⟨cs,mC,hcs⟩:=mC
    have mN1:=Heap.get_set_self H (n,28) ⟨10,[]⟩
    have mB1:(H.set (n,28) ⟨10,[]⟩) (0,1)=some ⟨6,[Big.cells false b]⟩:=by rw[Heap.get_set_ne _ _ (hnN _ (by simp))];exact mB
    have mC1:(H.set (n,28) ⟨10,[]⟩) C=some ⟨9,[cs]⟩:=by rw[Heap.get_set_ne _ _ (hnN _ (by simp))];exact mC
    have mL1:(H.set (n,28) ⟨10,[]⟩) L=some ⟨10,(layN b m).map (rowL b)⟩:=by rw[Heap.get_set_ne _ _ (hnN _ (by simp))];exact mL
    have sp1:=Sep.var (d:=28) (o:=⟨10,[]⟩) sp
    generalize H.set (n,28) ⟨10,[]⟩=H1 at mN1 mB1 mC1 mL1 sp1
    refine Runs.seq ?_
    refine Runs.seqE Ty_ok (by decide) fun k' hk'=>?_
    simp[r4,mL1]
    apply hk'
    refine Runs.block (Runs.loopUp (layN b m).length (fun i ρ H n=>∃ (M:Id) (qs:List AttV),ρ 1 = .ptr (0,1) 1 0 0∧ρ 3 = .ptr C 1 0 0∧ρ 5=int m∧ρ 6 = .arr M qs.length 0 qs.length∧ρ 24=int b.nodes.length∧ρ 25=int m∧ρ 29 = .arr L (layN b m).length 0 (layN b m).length∧ρ 30=int (layN b m).length∧ρ 31=int i ∧
        H (0,1)=some ⟨6,[Big.cells false b]⟩∧(∃ cs,H C=some ⟨9,[cs]⟩∧cs.length=9)∧H L=some ⟨10,(layN b m).map (rowL b)⟩∧H M=some ⟨10,qs.map (rowA b)⟩∧M ∉ [L,C,(0,1)]∧qs.map (·.1)=((layN b m).take i).flatMap (extC b)∧Sep H n (cEnt qs) [M,L,C,(0,1)])
      ⟨(n,28),[],by simp[r1],by simp[r3],by simp,by simp,by simp[r24],by simp[r25],by simp,by simp,by simp,mB1,⟨cs,mC1,hcs⟩,mL1,mN1,fun h=>hnN _ h rfl,by simp,sp1⟩ ?_)
    clear hk' r1 r3 r4 r24 r25 mB mC mL sp mN1 mB1 mC1 mL1 sp1 hnN hcs
    clear cs
    rintro i ρ H n hi ⟨M,qs,r1,r3,r5,r6,r24,r25,r29,r30,r31,mB,mC,mL,mM,hMi,hqs,sp⟩ IH1
    refine Runs.seqE Ty_ok (by decide) fun k' hk'=>?_
    simp[r30,r31]
    apply hk'
    refine Runs.seq ?_
    refine Runs.ite rfl (fun hc2=>?_) (fun hc2=>?_)
    · have hc2:i<(layN b m).length:=by simpa using hc2
      refine Runs.skip ?_
      refine Runs.seq ?_
      refine Runs.block ?_
      have ha:=hok _ (List.getElem_mem hc2)
      have htk:((layN b m).take (i+1)).flatMap (extC b)=((layN b m).take i).flatMap (extC b)++extC b (layN b m)[i]:=by rw[← List.take_append_getElem hc2,List.flatMap_append];simp
      have hrow:((layN b m).map (rowL b))[i]?=some (rowL b (layN b m)[i]):=by rw[List.getElem?_map,List.getElem?_eq_getElem hc2];rfl
      generalize ham:(layN b m)[i]=a at ha htk hrow
      refine Runs.seqE Ty_ok (by decide) fun k' hk'=>?_
      simp[r29,r31,mL,hc2,hrow,ham,rowL,rowA,cdE,Big.cells,encN,encI,encS,encW]
      apply hk'
      have hnX:∀ i ∈ [M,L,C,(0,1)],i ≠ (n,8):=fun i hi h=>by have:=sp.1 i hi;rw[h] at this;simp at this
      obtain⟨cs,mC,hcs⟩:=mC
      refine Runs.cut (fun ρ H n'=>ρ 1 = .ptr (0,1) 1 0 0∧ρ 3 = .ptr C 1 0 0∧ρ 5=int m∧ρ 6 = .arr M qs.length 0 qs.length∧ρ 8 = .ptr (n,8) 1 0 0∧ρ 24=int b.nodes.length∧ρ 25=int m∧ρ 29 = .arr L (layN b m).length 0 (layN b m).length∧ρ 30=int (layN b m).length∧ρ 31=int i ∧
        H (0,1)=some ⟨6,[Big.cells false b]⟩∧(∃ cs,H C=some ⟨9,[cs]⟩∧cs.length=9)∧H L=some ⟨10,(layN b m).map (rowL b)⟩∧H M=some ⟨10,qs.map (rowA b)⟩∧H (n,8)=some ⟨10,[rowL b a]⟩∧n<n'∧Sep H n' (cEnt qs) [(n,8),M,L,C,(0,1)])
        ⟨by simp[r1],by simp[r3],by simp[r5],by simp[r6],by simp,by simp[r24],by simp[r25],by simp[r29],by simp[r30],by simp[r31],by rw[Heap.get_set_ne _ _ (hnX _ (by simp))];exact mB,⟨cs,by rw[Heap.get_set_ne _ _ (hnX _ (by simp))];exact mC,hcs⟩,by rw[Heap.get_set_ne _ _ (hnX _ (by simp))];exact mL,by rw[Heap.get_set_ne _ _ (hnX _ (by simp))];exact mM,by simp[rowL,rowA,cdE,Big.cells,encN,encI,encS,encW],by omega,Sep.var sp⟩ ?_
      clear hk' r1 r3 r5 r6 r24 r25 r29 r30 r31 mB mC mL mM sp hcs
      clear cs
      generalize hXe:(n,8)=X at hnX
      rintro ρ H n' ⟨r1,r3,r5,r6,r8,r24,r25,r29,r30,r31,mB,mC,mL,mM,mX,hnn,sp⟩
      refine Runs.seqE Ty_ok (by decide) fun k' hk'=>?_
      have f1:=fun H=>len_list (H:=H) (fr:=false) (f:=GNode.cells false) (l:=b.nodes) kd_35 rfl
      simp[r1,mB,Big.cells,encN,f1,-lenF]
      apply hk'
      refine Runs.block (Runs.loopUp b.nodes.length (fun j ρ H n=>∃ (M:Id) (qs:List AttV),ρ 1 = .ptr (0,1) 1 0 0∧ρ 3 = .ptr C 1 0 0∧ρ 5=int m∧ρ 6 = .arr M qs.length 0 qs.length∧ρ 8 = .ptr X 1 0 0∧ρ 24=int b.nodes.length∧ρ 25=int m∧ρ 29 = .arr L (layN b m).length 0 (layN b m).length∧ρ 30=int (layN b m).length∧ρ 31=int i ∧
        ρ 36 = .list false (b.nodes.map (GNode.cells false))∧ρ 37=int b.nodes.length∧ρ 38=int j ∧
        H (0,1)=some ⟨6,[Big.cells false b]⟩∧(∃ cs,H C=some ⟨9,[cs]⟩∧cs.length=9)∧H L=some ⟨10,(layN b m).map (rowL b)⟩∧H M=some ⟨10,qs.map (rowA b)⟩∧H X=some ⟨10,[rowL b a]⟩∧M ∉ [L,C,(0,1)]∧X ∉ [M,L,C,(0,1)]∧qs.map (·.1)=((layN b m).take i).flatMap (extC b)++extTo b a j∧Sep H n (cEnt qs) [X,M,L,C,(0,1)])
        ⟨M,qs,by simp[r1],by simp[r3],by simp[r5],by simp[r6],by simp[r8,hXe],by simp[r24],by simp[r25],by simp[r29],by simp[r30],by simp[r31],by simp,by simp,by simp,mB,mC,mL,mM,hXe ▸ mX,hMi,fun h=>hnX _ h rfl,by rw[hqs];simp[extTo],hXe ▸ sp⟩ ?_)
      clear hk' f1 r1 r3 r5 r6 r8 r24 r25 r29 r30 r31 mB mC mL mM mX sp hqs hMi hnX hXe hnn
      clear qs M
      rintro j ρ H n hj ⟨M,qs,r1,r3,r5,r6,r8,r24,r25,r29,r30,r31,r36,r37,r38,mB,mC,mL,mM,mX,hMi,hXi,hqs,sp⟩ IH2
      refine Runs.seqE Ty_ok (by decide) fun k' hk'=>?_
      simp[r37,r38]
      apply hk'
      refine Runs.seq ?_
      refine Runs.ite rfl (fun hc3=>?_) (fun hc3=>?_)
      · have hc3:j<b.nodes.length:=by simpa using hc3
        refine Runs.skip ?_
        refine Runs.seq ?_
        refine Runs.block ?_
        have hjr:0≤(j:Int)∧(j:Int)<b.nodes.length:=⟨by omega,by omega⟩
        refine Runs.seqE Ty_ok (by decide) fun k' hk'=>?_
        have f1:=fun H=>ix_list (H:=H) (fr:=false) (f:=GNode.cells false) (k:=.i64) (l:=b.nodes) (i:=(j:Int)) kd_35 (fun _=>rfl) hjr rfl
        simp[r36,r38,f1,GNode.cells,encI,-indexAddrF]
        apply hk'
        have hS:CoS b C L M X m i j (layN b m).length qs.length ((layN b m).map (rowL b)) (qs.map (rowA b)) (rowL b a) ρ H:=⟨r1,r3,r5,r6,r8,r24,r25,r29,r30,r31,r36,r37,r38,mB,mC,mL,mM,mX⟩
        have hnY:∀ i ∈ [X,M,L,C,(0,1)],i ≠ (n,10):=fun i hi h=>by have:=sp.1 i hi;rw[h] at this;simp at this
        generalize hx:at' b.nodes (j:Int)=x
        refine Runs.cut (fun ρ H n'=>CoS b C L M X m i j (layN b m).length qs.length ((layN b m).map (rowL b)) (qs.map (rowA b)) (rowL b a) ρ H∧ρ 9=int j∧ρ 10 = .ptr (n,10) 1 0 0∧H (n,10)=some ⟨3,[GNode.cells false x]⟩∧Sep H n' (cEnt qs) [(n,10),X,M,L,C,(0,1)])
          ⟨hS.keep (by simp) (fun k hk=>Heap.get_set_ne _ _ (hnY k hk)),by simp,by simp,by simp[GNode.cells,encI,← hx],Sep.var sp⟩ ?_
        clear hk' f1 hS r1 r3 r5 r6 r8 r24 r25 r29 r30 r31 r36 r37 r38 mB mC mL mM mX sp
        generalize hYe:(n,10)=Y at hnY
        clear hYe
        rintro ρ H n ⟨hS,r9,r10,mY,sp⟩
        refine Runs.seq_cut (fun ρ' H' n'=>CoS b C L M X m i j (layN b m).length qs.length ((layN b m).map (rowL b)) (qs.map (rowA b)) (rowL b a) ρ' H'∧ρ' 9=int j∧freeP b a.s.pl (j:Int)=true∧Sep H' n' (cEnt qs) [X,M,L,C,(0,1)]) (fun fin=>?_) ?_
        rotate_left
        · rintro ρ H n ⟨hS,r9,hfr,sp⟩
          have hnZ:∀ i ∈ [X,M,L,C,(0,1)],i ≠ (n,11):=fun i hi h=>by have:=sp.1 i hi;rw[h] at this;simp at this
          have hol:a.order.length+1≤1073741824:=by have:=ha.ord;omega
          refine Runs.seqC (fun H n=>H X=some ⟨10,[rowL b a]⟩) [9,10] (.free 0 (.free 1 (.free 2 (.free 3 (.free 4 (.free 5 (.free 6 (.free 7 (.free 8 (.hard 9 (.hard 10 .fin .stop) .stop))))))))))
            (fun ρ' H' n'=>CoS b C L M X m i j (layN b m).length qs.length ((layN b m).map (rowL b)) (qs.map (rowA b)) (rowL b a) ρ' H'∧ρ' 9=int j∧ρ' 11 = .ptr (n,11) 1 0 0∧H' (n,11)=some ⟨10,[cdE (some (.list true ((a.order++[(j:Int)]).map intC))) b (.list true (a.s.es.map intC)) (.list true (a.s.pl.map intC)) (.list true (a.code.map intC))]⟩∧Sep H' n' (cEnt qs) [(n,11),X,M,L,C,(0,1)]) draws (by decide) (by kernel_rfl) ?_ ?_
          · refine RunT.free (.ptr X 1 0 0) rfl rfl hS.mX (fun H n hX=>stepF_ok Ty_ok (by rw[stepF_loc];simp[hS.r8,hX])) ?_
            refine RunT.free (.list true (a.order.map intC)) rfl rfl hS.mX (fun H n hX=>stepF_ok Ty_ok (by rw[stepF_loc];simp[hX,rowL,rowA,cdE])) ?_
            refine RunT.free (.clip true (a.order.map intV)) rfl rfl hS.mX (fun H n hX=>OpSem.stillD (clipZ_ok true a.order H n) e99 (by simp) (by simp)) ?_
            refine RunT.free (int j) rfl rfl hS.mX (fun H n hX=>stepF_ok Ty_ok (by rw[stepF_loc];simp[r9])) ?_
            refine RunT.free (.list true [[int j]]) rfl rfl hS.mX (fun H n hX=>stepF_ok Ty_ok (by rw[stepF_loc];simp[List.range_succ])) ?_
            refine RunT.free (.list true ((a.order++[(j:Int)]).map intC)) rfl rfl hS.mX (fun H n hX=>OpSem.appendD (t':=true) (fr:=true) (l:=a.order) (m:=[(j:Int)]) Ty_ok kd_24 ⟨rfl,rfl,by decide⟩ (by simp) (by simp[intC]) (by simp) (by simpa using hol)) ?_
            refine RunT.free (.ptr X 1 0 1) rfl rfl hS.mX (fun H n hX=>stepF_ok Ty_ok (by rw[stepF_loc];simp[hS.r8,hX])) ?_
            refine RunT.free (.agg (cdE none b (.list true (a.s.es.map intC)) (.list true (a.s.pl.map intC)) (.list true (a.code.map intC)))) rfl rfl hS.mX (fun H n hX=>stepF_ok Ty_ok (by rw[stepF_loc];simp[hX,rowL,rowA,cdE,Big.cells])) ?_
            refine RunT.free (.agg (cdE (some (.list true ((a.order++[(j:Int)]).map intC))) b (.list true (a.s.es.map intC)) (.list true (a.s.pl.map intC)) (.list true (a.code.map intC)))) rfl rfl hS.mX (fun H n hX=>stepF_ok Ty_ok (by rw[stepF_loc];simp[cdE,Big.cells,encN,encI,encS,encW])) ?_
            refine⟨?_,trivial⟩
            refine RunT.step (v:=.ptr (n,11) 1 0 0) (H':=H.set (n,11) ⟨10,[[.v (.slice none 0 0),int 0,.v (.slice none 0 0),.v (.slice none 0 0),int 0,.v (.slice none 0 0),.v (.slice none 0 0),.v (.slice none 0 0),.v (.slice none 0 0),.v (.slice none 0 0)]]⟩) (n':=n+1) Ty_ok rfl rfl (by simp) (fun _=>by rw[Heap.get_set_ne _ _ (hnZ X (by simp))];exact hS.mX) ?_
            refine⟨?_,trivial⟩
            refine RunT.step (v:=.undef) (H':=H.set (n,11) ⟨10,[cdE (some (.list true ((a.order++[(j:Int)]).map intC))) b (.list true (a.s.es.map intC)) (.list true (a.s.pl.map intC)) (.list true (a.code.map intC))]⟩) (n':=n+1) Ty_ok rfl rfl ?_ (fun hl=>absurd (hl.symm.trans (show lateC _ _ _=true by kernel_rfl)) (by decide)) ?_
            · simp[cdE,Big.cells,encN,encI,encS,encW]
            exact RunT.fin ⟨hS.keep (by simp) (fun k hk=>Heap.get_set_ne _ _ (hnZ k hk)),by simp[r9],by simp,Heap.get_set_self _ _ _,Sep.var sp⟩
          · generalize hZe:(n,11)=Z at hnZ
            clear hZe hS sp
            rintro ρ H n ⟨hS,r9,r11,mZ,sp⟩
            refine Runs.seqE Ty_ok (by decide) fun k' hk'=>?_
            simp[hS.r5,r9,r11,mZ]
            have hE:=ha.s.es
            have hcl:=ha.code
            have h3:=hv.links3 hjr
            have hZi:Z ∉ [X,M,L,C,(0,1)]:=fun h=>hnZ _ h rfl
            refine RunK.callS Ty_ok (node_c (o:=some (.list true ((a.order++[(j:Int)]).map intC))) (g:=1) (idx:=0) (k:=(j:Int)) (num:=(m:Int)) (code:=a.code) mZ rfl rfl (Sub.refl _) hjr (by rw[ha.s.pl];omega) (by rw[ha.s.pl];have:=(hv.parAt hjr).2;omega) (hv.i64par hjr) (fun h0=>ha.s.at ⟨h0,by rw[ha.s.pl];have:=(hv.parAt hjr).2;omega⟩) (hv.i64lnk hjr) (by omega) (by omega) (by rw[ha.s.pl];omega) hZi sp) e93 (by decide) (by decide) rfl (by simp[cdO]) ?_
            rintro v1 H1 n1 ⟨vp,vc1,mZ1,sp1,fr1,hn1⟩
            simp
            apply hk'
            have hpe:a.s.pl.set (j:Int).toNat (m:Int)=(stepC b a.s j).pl:=by simp[stepC,ha.s.num]
            rw[hpe] at sp1
            generalize hat:(⟨a.order++[(j:Int)],stepC b a.s j,a.code++(chunkC b a.s j).1⟩:Att)=at2
            have mZ2:H1 Z=some ⟨10,[cdE (some (.list true (at2.order.map intC))) b (.list true (at2.s.es.map intC)) vp vc1]⟩:=by rw[← hat];exact mZ1
            have sp2:Sep H1 n1 (oI vp at2.s.pl::oI vc1 at2.code::cEnt qs) [Z,X,M,L,C,(0,1)]:=by rw[← hat];exact sp1
            refine Runs.cut (fun ρ' H' n'=>CoS b C L M X m i j (layN b m).length qs.length ((layN b m).map (rowL b)) (qs.map (rowA b)) (rowL b a) ρ' H'∧ρ' 11 = .ptr Z 1 0 0∧H' Z=some ⟨10,[cdE (some (.list true (at2.order.map intC))) b (.list true (at2.s.es.map intC)) vp vc1]⟩∧Sep H' n' (oI vp at2.s.pl::oI vc1 at2.code::cEnt qs) [Z,X,M,L,C,(0,1)])
              ⟨hS.keep (by simp) fr1,by simp[r11],mZ2,sp2⟩ ?_
            clear hk' hS r9 r11 mZ sp mZ1 mZ2 sp1 sp2 fr1 hn1
            rintro ρ H n ⟨hS,r11,mZ,sp⟩
            have hAI:AllI (oI vc1 at2.code::cEnt qs):=by
              intro e he
              rcases List.mem_cons.1 he with rfl | he
              · exact⟨_,_,rfl⟩
              · obtain⟨q,_,rfl⟩:=List.mem_map.1 he;exact⟨_,_,rfl⟩
            refine Runs.fzS sp hAI fun H1 φ sp1 fr1 hφ hkv hptr hsub=>?_
            have hvc:φ vc1=vc1:=hkv (oI vc1 at2.code) (by simp)
            have hvq:∀ q ∈ qs,φ q.2=q.2:=fun q hq=>hkv (oI q.2 q.1.code) (List.mem_cons_of_mem _ (List.mem_map.2 ⟨q,hq,rfl⟩))
            have hrl:∀ a:Att,(rowL b a).map φ=rowL b a:=fun a=>by rw[rowL,rowP_map hφ,hφ _ (immI _)]
            have hS1:=hS.fz (by simp) fr1 hφ hptr (by rw[List.map_map];exact List.map_congr_left fun a _=>hrl a) (by rw[List.map_map];exact List.map_congr_left fun q hq=>by rw[Function.comp,rowP_map hφ,hvq q hq]) (hrl a)
            have mZ1:=fr1 Z (by simp)
            rw[mZ] at mZ1
            simp only[Option.map_some,List.map_cons,List.map_nil,cdE_map hφ (immI _) (.inr trivial),hφ _ (immI _),hvc] at mZ1
            refine Runs.subX (X:=Z) (rows':=[rowA b (at2,vc1)]) mZ1 rfl (fun i e e' he he'=>?_) ?_
            · match i with
              | 0=>
                simp only[List.getElem?_cons_zero,Option.some.injEq] at he he'
                subst he he'
                exact SubL.append (.refl _) (SubL.append (.refl _) (.cons (.refl _) (.cons hsub (.refl _))))
              | i+1=>simp at he
            refine Runs.cut (fun ρ' H' n'=>CoS b C L M X m i j (layN b m).length qs.length ((layN b m).map (rowL b)) (qs.map (rowA b)) (rowL b a) ρ' H'∧ρ' 11 = .ptr Z 1 0 0∧H' Z=some ⟨10,[rowA b (at2,vc1)]⟩∧Sep H' n' (oI vc1 at2.code::cEnt qs) [Z,X,M,L,C,(0,1)])
              ⟨hS1.keep (fun _ _=>rfl) (fun k hk=>Heap.get_set_ne _ _ (show k ≠ Z from fun h=>hZi (h ▸ hk))),by simp only[r11];exact (hptr _ (by simp) _ _ _).1,Heap.get_set_self _ _ _,Sep.setVar sp1 (by simp)⟩ ?_
            clear hS r11 mZ sp hS1 mZ1 sp1 fr1 hkv hsub hvc hvq hrl hptr hφ hAI
            rintro ρ H n ⟨hS,r11,mZ,sp⟩
            have hoc:=Sep.oc sp
            have hbig:qs.length+1≤1073741824:=by
              have e1:qs.length=(((layN b m).take i).flatMap (extC b)++extTo b a j).length:=by rw[← hqs];simp
              have e2:=flat_len hn8 ((layN b m).take i)
              have e3:=layN_len hn8 m
              have e4:(extTo b a j).length≤j:=by
                have:=List.length_filter_le (freeP b a.s.pl) ((List.range j).map fun i:Nat=>(i:Int))
                simpa[extTo] using this
              have e5:8 ^ m≤8 ^ 8:=Nat.pow_le_pow_right (by omega) (by omega)
              have e6:(8:Nat) ^ 8=16777216:=by decide
              have e7:((layN b m).take i).length≤(layN b m).length:=by simp;omega
              rw[List.length_append] at e1
              omega
            refine Runs.evalE Ty_ok (by decide) fun k' hk'=>?_
            simp[hS.r6,r11,mZ,hS.mM,rowA,cdE,Big.cells,encN,encI,encS,encW,hoc,List.range_succ,hbig,-cellsA,-one1,cAx,o1x]
            apply hk'
            refine Runs.inBlock ?_
            refine Runs.evalE Ty_ok (by decide) fun k' hk'=>?_
            have f2:=ib_add (show I64 ((j:Int)+1) by simp only[I64];omega) (show ((j+1:Nat):Int)=(j:Int)+1 by omega)
            simp[hS.r38,f2,-intBin]
            apply hk'
            have hMn:∀ k ∈ [L,C,(0,1)],k ≠ M:=fun k hk h=>hMi (h ▸ hk)
            have hXM:X ≠ M:=fun h=>hXi (by simp[h])
            obtain⟨cs,mC,hcs⟩:=hS.mC
            refine IH2 hc3 _ _ _ ⟨M,qs++[(at2,vc1)],by simp[hS.r1],by simp[hS.r3],by simp[hS.r5],by simp,by simp[hS.r8],by simp[hS.r24],by simp[hS.r25],by simp[hS.r29],by simp[hS.r30],by simp[hS.r31],by simp[hS.r36],by simp[hS.r37],by simp,by rw[Heap.get_set_ne _ _ (hMn _ (by simp))];exact hS.mB,⟨cs,by rw[Heap.get_set_ne _ _ (hMn _ (by simp))];exact mC,hcs⟩,by rw[Heap.get_set_ne _ _ (hMn _ (by simp))];exact hS.mL,by simp[rowA,cdE,Big.cells,encN,encI,encS,encW],by rw[Heap.get_set_ne _ _ hXM];exact hS.mX,hMi,hXi,by rw[List.map_append,hqs,extTo_yes hfr,hat];simp,?_⟩
            have:=Sep.sub (ids':=[X,M,L,C,(0,1)]) (Sep.setVar (w:=M) (o:=⟨10,qs.map (rowA b)++[rowA b (at2,vc1)]⟩) (Sep.rot sp) (by simp)) (by simp +contextual)
            simpa[cEnt,rowA,cdE,Big.cells,encN,encI,encS,encW] using this
        refine Runs.seqE Ty_ok (by decide) fun k' hk'=>?_
        have hol:a.order.length≤1048576:=by have:=ha.ord;omega
        have hcon:∀ y:Int,PureC Tryz.prog 98 [.list false (a.order.map intC),int y] (fun r=>r=bool (decide (y ∈ a.order))):=fun y=>by
          have:=contains_ok a.order y hol
          have e:(a.order.any fun z=>y == z)=decide (y ∈ a.order):=by
            rw[Bool.eq_iff_iff];simp
          rw[e] at this
          exact this
        have hfree:freeP b a.s.pl (j:Int)=(decide ((j:Int) ∉ a.order) && (decide (x.parent<0) || decide (x.parent ∈ a.order))):=by
          have h1:=ha.mem j hjr
          rw[freeP,hx]
          have e1:decide (at' a.s.pl (j:Int)<0)=decide ((j:Int) ∉ a.order):=by
            rw[Bool.eq_iff_iff];simp only[decide_eq_true_eq];rw[h1];omega
          rw[e1]
          by_cases h2:x.parent<0
          · simp[h2]
          · have h3:=hv.parAt hjr
            rw[hx] at h3
            have h4:=ha.mem x.parent ⟨by omega,by omega⟩
            have e2:decide (0≤at' a.s.pl x.parent)=decide (x.parent ∈ a.order):=by
              rw[Bool.eq_iff_iff];simp only[decide_eq_true_eq];exact h4.symm
            rw[e2]
        simp[hS.r8,hS.mX,rowL,rowA,cdE,Big.cells,r9]
        refine RunK.callA Ty_ok (hcon j) e98 (.cons (ArgOk.listF (fr:=true) (els:=a.order.map intC) (by simp[intC])) (.cons (.v _ _ _) .nil)) (by decide) (by decide) rfl (by simp) ?_
        rintro _ rfl
        by_cases h1:(j:Int) ∈ a.order
        · have hf:freeP b a.s.pl (j:Int)=false:=by rw[hfree];simp[h1]
          simp[h1]
          apply hk'
          refine Runs.ite rfl (fun _=>?_) (fun h=>by cases h)
          refine Runs.exit rfl ?_
          refine Runs.evalE Ty_ok (by decide) fun k' hk'=>?_
          have f2:=ib_add (show I64 ((j:Int)+1) by simp only[I64];omega) (show ((j+1:Nat):Int)=(j:Int)+1 by omega)
          simp[hS.r38,f2,-intBin]
          apply hk'
          exact IH2 hc3 _ _ _ ⟨M,qs,by simp[hS.r1],by simp[hS.r3],by simp[hS.r5],by simp[hS.r6],by simp[hS.r8],by simp[hS.r24],by simp[hS.r25],by simp[hS.r29],by simp[hS.r30],by simp[hS.r31],by simp[hS.r36],by simp[hS.r37],by simp,hS.mB,hS.mC,hS.mL,hS.mM,hS.mX,hMi,hXi,by rw[hqs,extTo_no hf],Sep.sub sp (by simp +contextual)⟩
        by_cases h2:0≤x.parent
        · simp[h1,h2,hS.r8,hS.mX,r9,r10,mY,GNode.cells,rowL,rowA,cdE,Big.cells]
          refine RunK.callA Ty_ok (hcon x.parent) e98 (.cons (ArgOk.listF (fr:=true) (els:=a.order.map intC) (by simp[intC])) (.cons (.v _ _ _) .nil)) (by decide) (by decide) rfl (by simp) ?_
          rintro _ rfl
          by_cases h3:x.parent ∈ a.order
          · simp[h3]
            apply hk'
            refine Runs.ite rfl (fun h=>by cases h) (fun _=>?_)
            refine Runs.skip ?_
            exact fin _ _ _ ⟨hS.keep (by simp) (fun _ _=>rfl),by simp[r9],by rw[hfree];simp[h1,h3],Sep.sub sp (by simp +contextual)⟩
          · have hf:freeP b a.s.pl (j:Int)=false:=by rw[hfree];simp[h1,h3];omega
            simp[h3]
            apply hk'
            refine Runs.ite rfl (fun _=>?_) (fun h=>by cases h)
            refine Runs.exit rfl ?_
            refine Runs.evalE Ty_ok (by decide) fun k' hk'=>?_
            have f2:=ib_add (show I64 ((j:Int)+1) by simp only[I64];omega) (show ((j+1:Nat):Int)=(j:Int)+1 by omega)
            simp[hS.r38,f2,-intBin]
            apply hk'
            exact IH2 hc3 _ _ _ ⟨M,qs,by simp[hS.r1],by simp[hS.r3],by simp[hS.r5],by simp[hS.r6],by simp[hS.r8],by simp[hS.r24],by simp[hS.r25],by simp[hS.r29],by simp[hS.r30],by simp[hS.r31],by simp[hS.r36],by simp[hS.r37],by simp,hS.mB,hS.mC,hS.mL,hS.mM,hS.mX,hMi,hXi,by rw[hqs,extTo_no hf],Sep.sub sp (by simp +contextual)⟩
        · simp[h1,h2,hS.r8,hS.mX,r9,r10,mY,GNode.cells,rowL,rowA,cdE,Big.cells]
          apply hk'
          refine Runs.ite rfl (fun h=>by cases h) (fun _=>?_)
          refine Runs.skip ?_
          exact fin _ _ _ ⟨hS.keep (by simp) (fun _ _=>rfl),by simp[r9],by rw[hfree];simp[h1];omega,Sep.sub sp (by simp +contextual)⟩
      · have hc4:¬ j<b.nodes.length:=by simpa using hc3
        have hc5:j=b.nodes.length:=by omega
        subst hc5
        refine Runs.exit rfl ?_
        refine Runs.inBlock ?_
        refine Runs.evalE Ty_ok (by decide) fun k' hk'=>?_
        have hb8:(layN b m).length≤16777216:=by
          have e3:=layN_len hn8 m
          have e5:8 ^ m≤8 ^ 8:=Nat.pow_le_pow_right (by omega) (by omega)
          have e6:(8:Nat) ^ 8=16777216:=by decide
          omega
        have f2:=ib_add (show I64 ((i:Int)+1) by simp only[I64];omega) (show ((i+1:Nat):Int)=(i:Int)+1 by omega)
        simp[r31,f2,-intBin]
        apply hk'
        exact IH1 hc2 _ _ _ ⟨M,qs,by simp[r1],by simp[r3],by simp[r5],by simp[r6],by simp[r24],by simp[r25],by simp[r29],by simp[r30],by simp,mB,mC,mL,mM,hMi,by rw[hqs,htk,extTo_all],Sep.sub sp (by simp +contextual)⟩
    · have hc4:¬ i<(layN b m).length:=by simpa using hc2
      have hc5:i=(layN b m).length:=by omega
      subst hc5
      refine Runs.exit rfl ?_
      rw[List.take_length] at hqs
      refine Runs.evalE Ty_ok (by decide) fun k' hk'=>?_
      simp[r6]
      have hb8:qs.length≤134217728:=by
        have e1:qs.length=((layN b m).flatMap (extC b)).length:=by rw[← hqs];simp
        have e2:=flat_len hn8 (layN b m)
        have e3:=layN_len hn8 m
        have e5:8 ^ m≤8 ^ 8:=Nat.pow_le_pow_right (by omega) (by omega)
        have e6:(8:Nat) ^ 8=16777216:=by decide
        omega
      have hqo:∀ q ∈ qs,AttOk b (m+1) q.1:=fun q hq=>by
        have h1:q.1 ∈ (layN b m).flatMap (extC b):=by rw[← hqs];exact List.mem_map.2 ⟨q,hq,rfl⟩
        obtain⟨a,ha,h2⟩:=List.mem_flatMap.1 h1
        exact attOk_ext hv (by omega) (hok a ha) h2
      have hqn:qs ≠ []:=by
        intro h
        have h1:(layN b m).flatMap (extC b)=[]:=by rw[← hqs,h];rfl
        exact flat_ne he hdn hc1 h1
      refine RunK.callS Ty_ok (leastOf_c (K:=[]) hqn mM (fun q hq=>by have:=(hqo q hq).code;omega) (by omega) (by simpa using sp) hMi) e100 (by decide) (by decide) rfl (by simp) ?_
      rintro _ H1 n1 ⟨O,rfl,mO,hO,sp1,fr1,hn1⟩
      simp
      apply hk'
      refine Runs.inBlock ?_
      refine Runs.evalE Ty_ok (by decide) fun k' hk'=>?_
      have f2:=ib_add (show I64 ((m:Int)+1) by simp only[I64];omega) (show ((m+1:Nat):Int)=(m:Int)+1 by omega)
      simp[r25,f2,-intBin]
      apply hk'
      obtain⟨cs,mC,hcs⟩:=mC
      refine IH hc1 _ _ _ ⟨O,leastP qs,by simp[r1],by simp[r3],by simp,by simp[r24],by simp,(fr1 _ (by simp)).trans mB,⟨cs,(fr1 _ (by simp)).trans mC,hcs⟩,mO,fun h=>hO (by simp at h ⊢;rcases h with h | h<;>simp[h]),by rw[leastP_fst,hqs];rfl,?_⟩
      have h1:=Sep.sublist (List.Sublist.map (fun p:AttV=>oI p.2 p.1.code) (leastP_subl qs)) [] (by simpa[cEnt] using sp1)
      exact Sep.sub h1 (by simp +contextual)
  · have hc4:¬ m<b.nodes.length:=by simpa using hc1
    have hc5:m=b.nodes.length:=by omega
    subst hc5
    have hok:=layN_ok hv b.nodes.length (Nat.le_refl _)
    refine Runs.exit rfl ?_
    refine Runs.seq ?_
    refine Runs.seqE Ty_ok (by decide) fun k' hk'=>?_
    simp[r4,mL]
    apply hk'
    have hlen:ps.length=(layN b b.nodes.length).length:=by rw[← hps];simp
    have hb8:ps.length≤16777216:=by
      have e3:=layN_len hn8 b.nodes.length
      have e5:8 ^ b.nodes.length≤8 ^ 8:=Nat.pow_le_pow_right (by omega) (by omega)
      have e6:(8:Nat) ^ 8=16777216:=by decide
      omega
    refine Runs.block (Runs.loopUp ps.length (fun i ρ H n=>∃ qs:List AttV,ρ 1 = .ptr (0,1) 1 0 0∧ρ 3 = .ptr C 1 0 0∧ρ 4 = .arr L ps.length 0 ps.length∧ρ 83=int ps.length∧ρ 84=int i∧H (0,1)=some ⟨6,[Big.cells false b]⟩∧(∃ cs,H C=some ⟨9,[cs]⟩∧cs.length=9) ∧
        H L=some ⟨10,qs.map (rowA b)⟩∧qs.length=ps.length∧qs.map (·.1)=((layN b b.nodes.length).take i).map (restC b)++(layN b b.nodes.length).drop i∧Sep H n (cEnt qs) [L,C,(0,1)])
      ⟨ps,by simp[r1],by simp[r3],by simp[r4],by simp,by simp,mB,mC,mL,rfl,by simpa using hps,sp⟩ ?_)
    clear hk' r1 r3 r4 r24 r25 mB mC mL sp IH
    rintro i ρ H n hi ⟨qs,r1,r3,r4,r83,r84,mB,mC,mL,hql,hqs,sp⟩ IH
    refine Runs.seqE Ty_ok (by decide) fun k' hk'=>?_
    simp[r83,r84]
    apply hk'
    refine Runs.seq ?_
    refine Runs.ite rfl (fun hc2=>?_) (fun hc2=>?_)
    · have hc2:i<ps.length:=by simpa using hc2
      refine Runs.skip ?_
      refine Runs.seq ?_
      refine Runs.block ?_
      refine Runs.seqE Ty_ok (by decide) fun k' hk'=>?_
      simp[r84]
      apply hk'
      refine Runs.evalE Ty_ok (by decide) fun k' hk'=>?_
      have hiq:i<qs.length:=by omega
      have hrow:(qs.map (rowA b))[i]?=some (rowA b qs[i]):=by rw[List.getElem?_map,List.getElem?_eq_getElem hiq];rfl
      have hil:i<(layN b b.nodes.length).length:=by omega
      have hat:qs[i].1=(layN b b.nodes.length)[i]:=by
        have h1:(qs.map (·.1))[i]?=some qs[i].1:=by rw[List.getElem?_map,List.getElem?_eq_getElem hiq];rfl
        rw[hqs,List.getElem?_append_right (by simp;omega)] at h1
        have h2:i - (((layN b b.nodes.length).take i).map (restC b)).length=0:=by simp;omega
        rw[h2,List.getElem?_drop,Nat.add_zero,List.getElem?_eq_getElem hil] at h1
        injection h1 with h1
        exact h1.symm
      have ha:=hok _ (List.getElem_mem hil)
      rw[← hat] at ha
      have hsplit:=cEnt_split hiq
      rw[hsplit] at sp
      simp[r4,mL,hql,hc2,hiq]
      have hE:=ha.s.es
      have hcl:=ha.code
      have hs4:=hv.slen
      have hi16:=hv.inner
      refine RunK.callS Ty_ok (rest_c (o:=some (.list true (qs[i].1.order.map intC))) (g:=ps.length) (idx:=i) (code:=qs[i].1.code) mL (by simp[hql]) hrow (fun p hp=>by
        have h1:=hv.sites p hp
        have h2:=hv.roots
        exact⟨by rw[ha.s.pl];omega,⟨by omega,by omega⟩,fun h0=>ha.s.at ⟨h0,by rw[ha.s.pl];omega⟩⟩) (fun w hw=>by
        have h1:=hv.wires w hw
        have h2:=hv.edges
        have h3:=hv.outer
        exact⟨by omega,by omega⟩) (by omega) (by omega) hLi (Sep.front sp)) e94 (by decide) (by decide) rfl (by simp[cdO]) ?_
      rintro v1 H1 n1 ⟨vc1,mL1,sp1,fr1,hn1⟩
      simp
      apply hk'
      refine Runs.inBlock ?_
      refine Runs.evalE Ty_ok (by decide) fun k' hk'=>?_
      have f2:=ib_add (show I64 ((i:Int)+1) by simp only[I64];omega) (show ((i+1:Nat):Int)=(i:Int)+1 by omega)
      simp[r84,f2,-intBin]
      apply hk'
      obtain⟨cs,mC,hcs⟩:=mC
      refine IH hc2 _ _ _ ⟨qs.set i (restC b qs[i].1,vc1),by simp[r1],by simp[r3],by simp[r4],by simp[r83],by simp,(fr1 _ (by simp)).trans mB,⟨cs,(fr1 _ (by simp)).trans mC,hcs⟩,?_,by simp[hql],?_,?_⟩
      · rw[List.map_set];exact mL1
      · rw[List.map_set,hqs,List.set_append_right _ _ (by simp;omega)]
        have h2:i - (((layN b b.nodes.length).take i).map (restC b)).length=0:=by simp;omega
        rw[h2,hat,List.drop_eq_getElem_cons hil,List.set_cons_zero,← List.take_append_getElem hil,List.map_append]
        simp
      · rw[cEnt_set hiq]
        exact Sep.unfront sp1
    · have hc3:¬ i<ps.length:=by simpa using hc2
      have hc5:i=ps.length:=by omega
      subst hc5
      refine Runs.exit rfl ?_
      have hqs2:qs.map (·.1)=(layN b b.nodes.length).map (restC b):=by rw[hqs,hlen,List.take_length,List.drop_length,List.append_nil]
      have hqn:qs ≠ []:=by
        intro h
        have h1:(layN b b.nodes.length).map (restC b)=[]:=by rw[← hqs2,h];rfl
        exact (layN_lay he hdn b.nodes.length (Nat.le_refl _)).2 (List.map_eq_nil_iff.1 h1)
      have hqo:∀ q ∈ qs,q.1.code.length≤1048576∧q.1.order.length≤1048576:=fun q hq=>by
        have h1:q.1 ∈ (layN b b.nodes.length).map (restC b):=by rw[← hqs2];exact List.mem_map.2 ⟨q,hq,rfl⟩
        obtain⟨a,ha,h2⟩:=List.mem_map.1 h1
        have h3:=hok a ha
        have h4:=h3.code
        have h5:=h3.ord
        have h6:=hv.slen
        have h7:=hv.inner
        have h8:(linksC b a.s.es (b.inner.map fun w=>w.link)).1.length=(b.inner.map fun w=>w.link).length:=linksC_len _ _
        simp only[List.length_map] at h8
        rw[← h2]
        simp only[restC,tailC,List.length_append,List.length_map]
        omega
      refine Runs.seqE Ty_ok (by decide) fun k' hk'=>?_
      rw[← hql] at r4
      simp[r4]
      refine RunK.callS Ty_ok (leastOf_c (K:=[]) hqn mL (fun q hq=>(hqo q hq).1) (by omega) (by simpa using sp) hLi) e100 (by decide) (by decide) rfl (by simp) ?_
      rintro _ H1 n1 ⟨O,rfl,mO,hO,sp1,fr1,hn1⟩
      simp
      apply hk'
      have hL2:(leastP qs).map (·.1)=leastA ((layN b b.nodes.length).map (restC b)):=by rw[leastP_fst,hqs2]
      have hmem:∀ q ∈ leastP qs,q ∈ qs:=fun q hq=>(leastP_subl qs).subset hq
      have hne2:0<(leastP qs).length:=by
        have h1:=leastA_ne (l:=(layN b b.nodes.length).map (restC b)) (fun h=>hqn (List.map_eq_nil_iff.1 (hqs2.trans h)))
        rw[← hL2] at h1
        exact List.length_pos_iff.2 (fun h=>h1 (by rw[h];rfl))
      have sp2:=Sep.sublist (List.Sublist.map (fun p:AttV=>oI p.2 p.1.code) (leastP_subl qs)) [] (by simpa[cEnt] using sp1)
      have hle:(leastP qs).length≤16777216:=by have:=(leastP_subl qs).length_le;omega
      obtain⟨cs,mC,hcs⟩:=mC
      refine Runs.cut (fun ρ H n=>ρ 3 = .ptr C 1 0 0∧ρ 4 = .arr O (leastP qs).length 0 (leastP qs).length∧(∃ cs,H C=some ⟨9,[cs]⟩∧cs.length=9)∧H O=some ⟨10,(leastP qs).map (rowA b)⟩∧O ≠ C∧Sep H n (cEnt (leastP qs)) [O,C])
        ⟨by simp[r3],by simp,⟨cs,(fr1 _ (by simp)).trans mC,hcs⟩,mO,fun h=>hO (by simp[h]),Sep.sub sp2 (by simp +contextual)⟩ ?_
      clear hk' r1 r3 r4 r83 r84 mB mC mL sp sp1 sp2 fr1 mO hO
      rintro ρ H n ⟨r3,r4,mC,mO,hOC,sp⟩
      have hL3:(leastP qs).map (·.1)=lastA b:=hL2
      have hco:∀ q ∈ leastP qs,q.1.code.length≤1048576∧q.1.order.length≤1048576:=fun q hq=>hqo q (hmem q hq)
      clear hqn hqo hqs2 hqs hql hL2 hmem
      generalize leastP qs=ws at r4 mO sp hne2 hle hL3 hco
      have hrow0:(ws.map (rowA b))[0]?=some (rowA b ws[0]):=by rw[List.getElem?_map,List.getElem?_eq_getElem hne2];rfl
      have hoc:∀ q ∈ ws,Ab.one1 q.2=true∧cellsA q.2=some [q.2]:=fun q hq=>by
        have:=Sep.memOc sp (v:=q.2) (l:=q.1.code) (List.mem_map.2 ⟨_,hq,rfl⟩)
        exact⟨this.1,this.2.1⟩
      have hoc0:=hoc _ (List.getElem_mem hne2)
      refine Runs.seqE Ty_ok (by decide) fun k' hk'=>?_
      simp[r4,mO,hne2,rowA,cdE,Big.cells,encN,encI,encS,encW,hoc0,-cellsA,-one1,cAx,o1x]
      apply hk'
      have hnW:∀ k ∈ [O,C],k ≠ (n,13):=fun k hk h=>by have:=sp.1 k hk;rw[h] at this;simp at this
      obtain⟨cs,mC,hcs⟩:=mC
      refine Runs.seq ?_
      refine Runs.cut (fun ρ' H' n'=>ρ' 3 = .ptr C 1 0 0∧ρ' 4 = .arr O ws.length 0 ws.length∧ρ' 13 = .ptr (n,13) 1 0 0∧(∃ cs,H' C=some ⟨9,[cs]⟩∧cs.length=9)∧H' O=some ⟨10,ws.map (rowA b)⟩∧H' (n,13)=some ⟨10,[rowA b ws[0]]⟩∧Sep H' n' (cEnt ws) [(n,13),O,C])
        ⟨by simp[r3],by simp[r4],by simp,⟨cs,by rw[Heap.get_set_ne _ _ (hnW _ (by simp))];exact mC,hcs⟩,by rw[Heap.get_set_ne _ _ (hnW _ (by simp))];exact mO,by simp[rowA,cdE,Big.cells,encN,encI,encS,encW],Sep.var sp⟩ ?_
      clear hk' r3 r4 mC mO sp hcs
      clear cs
      generalize hWe:(n,13)=W at hnW
      clear hWe
      rintro ρ H n ⟨r3,r4,r13,mC,mO,mW,sp⟩
      refine Runs.seqE Ty_ok (by decide) fun k' hk'=>?_
      simp[r4,mO]
      apply hk'
      refine Runs.block (Runs.loopUp ws.length (fun i ρ H n=>ρ 3 = .ptr C 1 0 0∧ρ 13 = .ptr W 1 0 0∧ρ 98 = .arr O ws.length 0 ws.length∧ρ 99=int ws.length∧ρ 100=int i∧(∃ cs,H C=some ⟨9,[cs]⟩∧cs.length=9)∧H O=some ⟨10,ws.map (rowA b)⟩∧H W=some ⟨10,[rowA b (bestP ws[0] (ws.take i))]⟩∧Sep H n (cEnt ws) [W,O,C])
        ⟨by simp[r3],by simp[r13],by simp,by simp,by simp,mC,mO,by simpa[bestP] using mW,sp⟩ ?_)
      clear hk' r3 r4 r13 mC mO mW sp
      rintro i ρ H n hi ⟨r3,r13,r98,r99,r100,mC,mO,mW,sp⟩ IH
      have hbm:bestP ws[0] (ws.take i) ∈ ws:=by
        rcases bestP_mem ws[0] (ws.take i) with h | h
        · rw[h];exact List.getElem_mem hne2
        · exact List.mem_of_mem_take h
      refine Runs.seqE Ty_ok (by decide) fun k' hk'=>?_
      simp[r99,r100]
      apply hk'
      refine Runs.seq ?_
      refine Runs.ite rfl (fun hc2=>?_) (fun hc2=>?_)
      · have hc2:i<ws.length:=by simpa using hc2
        refine Runs.skip ?_
        refine Runs.seq ?_
        refine Runs.block ?_
        have htk:bestP ws[0] (ws.take (i+1))=if cmpL ws[i].1.order (bestP ws[0] (ws.take i)).1.order<0 then ws[i] else bestP ws[0] (ws.take i):=by
          rw[← List.take_append_getElem hc2,bestP,List.foldl_append];rfl
        have hrow:(ws.map (rowA b))[i]?=some (rowA b ws[i]):=by rw[List.getElem?_map,List.getElem?_eq_getElem hc2];rfl
        have hci:=hco _ (List.getElem_mem hc2)
        have hcb:=hco _ hbm
        have hoi:=hoc _ (List.getElem_mem hc2)
        generalize hwi:ws[i]=w at htk hrow hci hoi
        generalize bestP ws[0] (ws.take i)=q at htk hcb mW hbm
        have hnV:∀ k ∈ [W,O,C],k ≠ (n,15):=fun k hk h=>by have:=sp.1 k hk;rw[h] at this;simp at this
        refine Runs.seqE Ty_ok (by decide) fun k' hk'=>?_
        simp[r98,r100,mO,hc2,hwi,rowA,cdE,Big.cells,encN,encI,encS,encW,hoi,-cellsA,-one1,cAx,o1x]
        apply hk'
        obtain⟨cs,mC,hcs⟩:=mC
        refine Runs.cut (fun ρ' H' n'=>ρ' 3 = .ptr C 1 0 0∧ρ' 13 = .ptr W 1 0 0∧ρ' 15 = .ptr (n,15) 1 0 0∧ρ' 98 = .arr O ws.length 0 ws.length∧ρ' 99=int ws.length∧ρ' 100=int i∧(∃ cs,H' C=some ⟨9,[cs]⟩∧cs.length=9)∧H' O=some ⟨10,ws.map (rowA b)⟩∧H' W=some ⟨10,[rowA b q]⟩∧H' (n,15)=some ⟨10,[rowA b w]⟩∧Sep H' n' (cEnt ws) [(n,15),W,O,C])
          ⟨by simp[r3],by simp[r13],by simp,by simp[r98],by simp[r99],by simp[r100],⟨cs,by rw[Heap.get_set_ne _ _ (hnV _ (by simp))];exact mC,hcs⟩,by rw[Heap.get_set_ne _ _ (hnV _ (by simp))];exact mO,by rw[Heap.get_set_ne _ _ (hnV _ (by simp))];exact mW,by simp[rowA,cdE,Big.cells,encN,encI,encS,encW],Sep.var sp⟩ ?_
        clear hk' r3 r13 r98 r99 r100 mC mO mW sp hcs
        clear cs
        generalize hVe:(n,15)=V at hnV
        clear hVe
        rintro ρ H n ⟨r3,r13,r15,r98,r99,r100,mC,mO,mW,mV,sp⟩
        refine Runs.seqE Ty_ok (by decide) fun k' hk'=>?_
        simp[r13,r15,mV,mW,rowA,cdE,Big.cells]
        refine RunK.callA Ty_ok (cmpZ_ok w.1.order q.1.order ⟨hci.2,hcb.2⟩) e101 (.cons (ArgOk.listF (fr:=true) (els:=w.1.order.map intC) (by simp[intC])) (.cons (ArgOk.listF (fr:=true) (els:=q.1.order.map intC) (by simp[intC])) .nil)) (by decide) (by decide) rfl (by simp) ?_
        rintro _ rfl
        simp
        apply hk'
        have hVW:W ≠ V:=hnV W (by simp)
        have hCW:C ≠ W:=fun h=>hnW C (by simp) h
        have hOW:O ≠ W:=fun h=>hnW O (by simp) h
        refine Runs.ite rfl (fun hc4=>?_) (fun hc4=>?_)
        · have hc4:cmpL w.1.order q.1.order<0:=by simpa using hc4
          rw[if_pos hc4] at htk
          refine Runs.evalE Ty_ok (by decide) fun k' hk'=>?_
          simp[r13,r15,mV,mW,rowA,cdE,Big.cells,encN,encI,encS,encW,hoi,-cellsA,-one1,cAx,o1x]
          apply hk'
          refine Runs.inBlock ?_
          refine Runs.evalE Ty_ok (by decide) fun k' hk'=>?_
          have f2:=ib_add (show I64 ((i:Int)+1) by simp only[I64];omega) (show ((i+1:Nat):Int)=(i:Int)+1 by omega)
          simp[r100,f2,-intBin]
          apply hk'
          obtain⟨cs,mC,hcs⟩:=mC
          refine IH hc2 _ _ _ ⟨by simp[r3],by simp[r13],by simp[r98],by simp[r99],by simp,⟨cs,by rw[Heap.get_set_ne _ _ hCW];exact mC,hcs⟩,by rw[Heap.get_set_ne _ _ hOW];exact mO,by rw[htk];simp[rowA,cdE,Big.cells,encN,encI,encS,encW],?_⟩
          exact Sep.sub (Sep.setVar sp (by simp)) (by simp +contextual)
        · have hc4:¬ cmpL w.1.order q.1.order<0:=by simpa using hc4
          rw[if_neg hc4] at htk
          refine Runs.skip ?_
          refine Runs.inBlock ?_
          refine Runs.evalE Ty_ok (by decide) fun k' hk'=>?_
          have f2:=ib_add (show I64 ((i:Int)+1) by simp only[I64];omega) (show ((i+1:Nat):Int)=(i:Int)+1 by omega)
          simp[r100,f2,-intBin]
          apply hk'
          exact IH hc2 _ _ _ ⟨by simp[r3],by simp[r13],by simp[r98],by simp[r99],by simp,mC,mO,by rw[htk];exact mW,Sep.sub sp (by simp +contextual)⟩
      · have hc3:¬ i<ws.length:=by simpa using hc2
        have hc5:i=ws.length:=by omega
        subst hc5
        refine Runs.exit rfl ?_
        rw[List.take_length] at mW hbm
        have hbest:(bestP ws[0] ws).1=canonA b:=by
          rw[bestP_fst,hL3,canonA]
          congr 1
          have h1:0<(lastA b).length:=by rw[← hL3];simpa using hne2
          rw[show ((0:Int))=((0:Nat):Int) from rfl,at_lt h1]
          simp only[← hL3,List.getElem_map]
        generalize bestP ws[0] ws=q at mW hbm hbest
        refine Runs.seqD Ty_ok kindOp_ok draws (by decide) (by kernel_rfl) fun k' hk'=>?_
        have hoq:=hoc _ hbm
        obtain⟨cs,mC,hcs⟩:=mC
        have hCW:C ≠ W:=fun h=>hnW C (by simp) h
        simp[r3,r13,mW,mC,hcs,rowA,cdE,Big.cells,encN,encI,encS,encW,hoq,hCW,-cellsA,-one1,cAx,o1x]
        apply hk'
        have hdr:List.drop 9 cs=[]:=List.drop_of_length_le (by omega)
        refine Runs.res2 Ty_ok (v:=.list true (q.1.order.map intC)) (w:=.agg (cdE none b (.list true (q.1.s.es.map intC)) (.list true (q.1.s.pl.map intC)) q.2)) Tryz.func54 Tryz.results54 (by simp[resA]) (by simp[resA,r3,hdr,cdE,Big.cells,encN,encI,encS,encW]) (hQ _ _ _ ⟨q.2,hoq.1,by rw[← hbest]⟩)
theorem canonicalOrder_c {sig:Sig} {b:Big} (hv:ValidB sig b) (he:Even b) (hdn:Downs b):PureC Tryz.prog 54 [.agg (Big.cells false b)] (fun r=>∃ y0 y1 y2 y3 y4 y5 y6:Value,(one y0=true∧one y1=true∧one y2=true∧one y3=true∧one y4=true∧one y5=true∧one y6=true) ∧
    r = .tup [.list true ((canonA b).order.map intC),.agg [.v y0,.v y1,.v y2,.v y3,.v y4,.v y5,.list true ((canonA b).s.es.map intC),.list true ((canonA b).s.pl.map intC),.v y6]]):=by
  intro c xs hH hn g r
  refine (canonicalOrder_c0 hv he hdn c xs hH hn g r).mono ?_
  rintro e w' ⟨x,v,c',he,hw,⟨q,hq,rfl⟩,hrep,hg,hk⟩
  cases hrep with
  | tup _ vs hl h=>
    obtain⟨v0,v1,rfl⟩:∃ v0 v1,vs=[v0,v1]:=by
      match vs,hl with
      | [v0,v1],_=>exact⟨v0,v1,rfl⟩
    have h0:=h 0 _ v0 rfl rfl
    have h1:=h 1 _ v1 rfl rfl
    cases h1 with
    | agg _ us hl1 h1=>
      obtain⟨u0,u1,u2,u3,u4,u5,u6,u7,u8,rfl⟩:∃ u0 u1 u2 u3 u4 u5 u6 u7 u8,us=[u0,u1,u2,u3,u4,u5,u6,u7,u8]:=by
        match us,hl1 with
        | [u0,u1,u2,u3,u4,u5,u6,u7,u8],_=>exact⟨u0,u1,u2,u3,u4,u5,u6,u7,u8,rfl⟩
      have o:∀ (i:Nat) (a:AVal) (u:Value),(cdE none b (.list true ((canonA b).s.es.map intC)) (.list true ((canonA b).s.pl.map intC)) q)[i]?=some a→[u0,u1,u2,u3,u4,u5,u6,u7,u8][i]?=some u→Ab.one1 a=true→one u=true:=fun i a u ha hu h=>one_of (h1 i a u ha hu) h
      have o8:=one_of (h1 8 q u8 rfl rfl) hq
      have o0:=o 0 _ u0 rfl rfl rfl
      have o1:=o 1 _ u1 rfl rfl rfl
      have o2:=o 2 _ u2 rfl rfl rfl
      have o3:=o 3 _ u3 rfl rfl rfl
      have o4:=o 4 _ u4 rfl rfl rfl
      have o5:=o 5 _ u5 rfl rfl rfl
      have h6:=h1 6 _ u6 rfl rfl
      have h7:=h1 7 _ u7 rfl rfl
      refine⟨_,.tup [.list true ((canonA b).order.map intC),.agg [.v u0,.v u1,.v u2,.v u3,.v u4,.v u5,.list true ((canonA b).s.es.map intC),.list true ((canonA b).s.pl.map intC),.v u8]],c',he,hw,⟨_,?_,u0,u1,u2,u3,u4,u5,u8,⟨o0,o1,o2,o3,o4,o5,o8⟩,rfl⟩,?_,hg,hk⟩
      · refine (ResOk.pts (by simp) fun i a c ha hc=>?_).2
        match i with
        | 0=>simp only[List.getElem?_cons_zero,Option.some.injEq] at ha hc;subst ha hc;exact ResOk.ints _ _ _
        | 1=>
          simp only[List.getElem?_cons_succ,List.getElem?_cons_zero,Option.some.injEq] at ha hc
          subst ha hc
          refine (ResOk.pts (by simp) fun i a c ha hc=>?_).1
          match i with
          | 0 | 1 | 2 | 3 | 4 | 5 | 8=>simp at ha hc;subst ha hc;exact ResOk.v _ _ _
          | 6=>simp only[List.getElem?_cons_succ,List.getElem?_cons_zero,Option.some.injEq] at ha hc;subst ha hc;exact ResOk.ints _ _ _
          | 7=>simp only[List.getElem?_cons_succ,List.getElem?_cons_zero,Option.some.injEq] at ha hc;subst ha hc;exact ResOk.ints _ _ _
          | i+9=>simp at hc
        | i+2=>simp at hc
      · refine .tup _ _ (by simp) fun i a x ha hx=>?_
        match i with
        | 0=>simp only[List.getElem?_cons_zero,Option.some.injEq] at ha hx;subst ha hx;exact h0
        | 1=>
          simp only[List.getElem?_cons_succ,List.getElem?_cons_zero,Option.some.injEq] at ha hx
          subst ha hx
          refine .agg _ _ (by simp) fun i a x ha hx=>?_
          match i with
          | 0 | 1 | 2 | 3 | 4 | 5 | 8=>simp at ha hx;subst ha hx;exact .v _
          | 6=>simp only[List.getElem?_cons_succ,List.getElem?_cons_zero,Option.some.injEq] at ha hx;subst ha hx;exact h6
          | 7=>simp only[List.getElem?_cons_succ,List.getElem?_cons_zero,Option.some.injEq] at ha hx;subst ha hx;exact h7
          | i+9=>simp at hx
        | i+2=>simp at hx
end
end Go.Ab.Vg
/- Links' points, redexes: pure conditions of the functions of program and reference. -/
namespace Go.Ab.Vg
set_option linter.unusedSimpArgs false
set_option linter.unusedVariables false
def rowP (b:Big) (l:Int) (i k:Nat):List (Int × Int):=(idxs (at' b.nodes (i:Int)).links (fun x=>decide (x=l)) k).map fun z=>((i:Int),z)
def portsTo (b:Big) (l:Int) (i:Nat):List (Int × Int):=((List.range i).map fun j=>rowP b l j (at' b.nodes (j:Int)).links.length).flatten
def portsB (b:Big) (l:Int):List (Int × Int):=portsTo b l b.nodes.length
end Go.Ab.Vg
