/- Merged texts (8 of 17) of the proof that ends in Icy: Kd Kf Kh Kk Kkw Kl Ko L2k Kq Sf. -/
import Derived.Test.YtkocdlgoncmdbaaGreatDoorAbQic7
/- The coder of the canonical form: its methods, by hand. -/
namespace Go.Ab.Vg
set_option linter.unusedSimpArgs false
set_option linter.unusedVariables false
open Go.Proofs
def cdE (o:Option AVal) (b:Big) (es pl c:AVal):List AVal:=o.toList++(Big.cells false b++[es,pl,c])
def cdO (o:Option AVal):Nat:=o.toList.length
theorem cdE_get {o:Option AVal} {b:Big} {es pl c:AVal} (k:Nat):(cdE o b es pl c)[cdO o+k]?=(Big.cells false b++[es,pl,c])[k]?:=by rw[cdE,cdO,List.getElem?_append_right (Nat.le_add_right _ _),Nat.add_sub_cancel_left]
theorem cdE_take {o:Option AVal} {b:Big} {es pl c:AVal} (k:Nat):(cdE o b es pl c).take (cdO o+k)=o.toList++(Big.cells false b++[es,pl,c]).take k:=by rw[cdE,cdO,List.take_length_add_append]
theorem cdE_drop {o:Option AVal} {b:Big} {es pl c:AVal} (k:Nat):(cdE o b es pl c).drop (cdO o+k)=(Big.cells false b++[es,pl,c]).drop k:=by rw[cdE,cdO,List.drop_length_add_append]
theorem cdE_dropS {o:Option AVal} {b:Big} {es pl c:AVal} (k:Nat):(cdE o b es pl c).drop (cdO o+k+1)=(Big.cells false b++[es,pl,c]).drop (k+1):=cdE_drop (k+1)
theorem cdO_8 (o:Option AVal):(cdO o+8+1≤9+cdO o)=True:=by simp;omega
theorem cdO_7 (o:Option AVal):(cdO o+7+1≤9+cdO o)=True:=by simp;omega
theorem set_same {H:Heap} {X:Id} {sz idx:Nat} {els:List (List AVal)} {e:List AVal} (hX:H X=some ⟨sz,els⟩) (he:els[idx]?=some e):H.set X ⟨sz,els.set idx e⟩=H:=by
  funext i
  rw[Heap.get_set]
  split
  · rename_i h
    subst h
    obtain⟨hi,he⟩:=List.getElem?_eq_some_iff.1 he
    rw[hX,← he,List.set_getElem_self]
  · rfl
section
variable {H:Heap} {n:Nat} {X:Id} {g idx:Nat} {els:List (List AVal)} {o:Option AVal} {b:Big}
theorem place_c {es c:AVal} {t:Bool} {pl:List Int} (hX:H X=some ⟨9+cdO o,els⟩) (hg:els.length=g) (he:els[idx]?=some (cdE o b es (.list t (pl.map intC)) c)) {p:Int} (hp:p<pl.length) (h1:I64 (-1 - p)) (h2:0≤p→I64 (4+at' pl p)) :
    StillC Tryz.prog 159 [.ptr X g idx (cdO o),int p] H n (fun r=>r=int (placeC pl p)):=by
  refine CallsA.of Tryz.func159 rfl Tryz.ntmps159 (by simp) fun Q hQ=>?_
  subst hg
  obtain⟨hi,he⟩:=List.getElem?_eq_some_iff.1 he
  cases o
  all_goals
    refine Runs.seqE Ty_ok (by decide) fun k' hk'=>?_
    simp[cdO]
    apply hk'
    refine Runs.seq ?_
    refine Runs.seqE Ty_ok (by decide) fun k' hk'=>?_
    simp
    apply hk'
    refine Runs.ite rfl (fun hc1=>?_) (fun hc1=>?_)
    · have hp0:0≤p:=by simpa using hc1
      have hb:0≤p∧p<pl.length:=⟨hp0,hp⟩
      have hI:=h2 hp0
      refine Runs.seqE Ty_ok (by decide) fun k' hk'=>?_
      have f1:=fun H=>ix_list (H:=H) (fr:=t) (f:=intC) (k:=.i64) kd_24 (fun _=>rfl) hb rfl
      have f2:=ib_add hI rfl
      simp[hX,he,hi,cdE,cdO,Big.cells,f1,f2,intC,-indexAddrF,-intBin]
      apply hk'
      exact Runs.ret1 (v:=int (4+at' pl p)) Tryz.func159 Tryz.results159 (by simp) (hQ _ _ _ ⟨by rw[placeC,if_neg (by omega)],rfl,rfl⟩)
    · have hp0:p<0:=by simpa using hc1
      refine Runs.skip ?_
      refine Runs.seqE Ty_ok (by decide) fun k' hk'=>?_
      have f2:=ib_sub h1 rfl
      simp[f2,-intBin]
      apply hk'
      exact Runs.ret1 (v:=int (-1 - p)) Tryz.func159 Tryz.results159 (by simp) (hQ _ _ _ ⟨by rw[placeC,if_pos hp0],rfl,rfl⟩)
end
theorem RunDK.appendN {P:Program} {N:Nat} {f:FuncId} {k:List Item} {Q:AVal→Heap→Nat→Prop} {Ty:Types} {κ:Op→Nat} {ops:Array Oper} {L:List Oper} {ρ:Env} {H:Heap} {n dd:Nat} {ty:TypeId} {pos:String} {af:Array Edge} {t:TypeId} {s x:Operand} {j:TI} {fr t':Bool} {l m:List Int}
    (hT:TypesOk P Ty) (hκ:KOk κ) (h2:κ (.call ⟨.builtin .append,#[s,x],#[t,t]⟩)=2) (hk:kd Ty t = .slice j) (hz:j.size=1∧j.zero.length=1∧j.bytes≤131072) (hs:ρ.ev s = .clip fr (l.map intV)) (hx:ρ.ev x = .list t' (m.map intC)) (hne:m ≠ []) (hm:l.length+m.length≤1073741824)
    (h:evalD P f N k Q Ty κ ops L (ρ.put (some dd) (.arr (n,dd) (l.length+m.length) 0 (l.length+m.length))) (H.set (n,dd) ⟨1,(l++m).map intC⟩) (n+1)):RunDK P f N k Q κ ops (⟨some dd,.call ⟨.builtin .append,#[s,x],#[t,t]⟩,ty,pos,af,none⟩::L) ρ H n:=by
  refine RunDK.op hT hκ (v:=.arr (n,dd) (l.length+m.length) 0 (l.length+m.length)) (H':=H.set (n,dd) ⟨1,(l++m).map intC⟩) (n':=n+1) rfl (by simp only[h2];decide) (fun h=>by simp only[h2] at h;cases h) ?_ h
  have e1:(loc (.call ⟨.builtin .append,#[s,x],#[t,t]⟩) ρ).ev s=ρ.ev s:=loc_ev (by simp[Op.operands,Call.operands])
  have e2:(loc (.call ⟨.builtin .append,#[s,x],#[t,t]⟩) ρ).ev x=ρ.ev x:=loc_ev (by simp[Op.operands,Call.operands])
  have:=OpSem.appendC (P:=P) (N:=N) (ρ:=loc (.call ⟨.builtin .append,#[s,x],#[t,t]⟩) ρ) (H:=H) (n:=n) (dd:=dd) (ty:=ty) (pos:=pos) (af:=af) (gu:=none) hT hk (s:=s) (x:=x) (vs:=l.map intV) (els:=m.map intC) (e1.trans hs) (by rw[e2,hx];rfl) (by simp[hz.1,intV]) (by simp[hz.1,intC]) (by simpa using hne) ⟨by omega,hz.2.2⟩ (by simpa using hm)
  rw[intV_map,← List.map_append] at this
  show OpSem P N _ _ H n (fun v1 H1 n1=>v1 = .arr (n,dd) (l.length+m.length) 0 (l.length+m.length)∧H1=H.set (n,dd) ⟨1,(l++m).map intC⟩∧n1=n+1)
  simpa[hz.1] using this
theorem Sep.addI {H:Heap} {n:Nat} {K:List OwnE} {ids:List Id} {d:Nat} (l:List Int) (h:Sep H n K ids):Sep (H.set (n,d) ⟨1,l.map intC⟩) (n+1) (oI (.arr (n,d) l.length 0 l.length) l::K) ids:=by
  have:=Sep.addNew (l:=[.c]) (d:=d) (els:=l.map intC) (es:=l.map intC) h (rowsP.fresh (by intro e he;obtain⟨a,_,rfl⟩:=List.mem_map.1 he;simp[intC]) (by simp))
  simpa using this
section
variable {H:Heap} {n:Nat} {X:Id} {g idx:Nat} {els:List (List AVal)} {o:Option AVal} {b:Big}
def linkC (b:Big) (es:List Int) (l:Int):Int × List Int:=if l ≥ b.edges then (l - b.edges,es) else if l ∈ es then (16+((es.idxOf l:Nat):Int),es) else (16+((es.length:Nat):Int),es++[l])
theorem e159:Ent Tryz.prog 159:=Ent.of Tryz.func159 (by kernel_rfl) rfl
theorem link_c {pl c:AVal} {es:List Int} (hX:H X=some ⟨9+cdO o,els⟩) (hg:els.length=g) (he:els[idx]?=some (cdE o b (.list true (es.map intC)) pl c)) {l:Int} (hl:I64 (l - b.edges)) (hE:es.length≤1048576) :
    CallsA Tryz.prog 160 [.ptr X g idx (cdO o),int l] H n (fun r H1 n1=>r=int (linkC b es l).1∧H1=H.set X ⟨9+cdO o,els.set idx (cdE o b (.list true ((linkC b es l).2.map intC)) pl c)⟩∧n1=n):=by
  refine CallsA.of Tryz.func160 rfl Tryz.ntmps160 (by simp) fun Q hQ=>?_
  subst hg
  have hsame:=set_same hX he
  obtain⟨hi,he⟩:=List.getElem?_eq_some_iff.1 he
  cases o
  all_goals
    refine Runs.seqE Ty_ok (by decide) fun k' hk'=>?_
    simp[cdO]
    apply hk'
    refine Runs.seq ?_
    refine Runs.seqE Ty_ok (by decide) fun k' hk'=>?_
    simp[hX,he,hi,cdE,cdO,Big.cells]
    apply hk'
    refine Runs.ite rfl (fun hc1=>?_) (fun hc1=>?_)
    · have hp0:b.edges≤l:=by simpa using hc1
      refine Runs.seqE Ty_ok (by decide) fun k' hk'=>?_
      have f2:=ib_sub hl rfl
      simp[hX,he,hi,cdE,cdO,Big.cells,f2,-intBin]
      apply hk'
      exact Runs.ret1 (v:=int (l - b.edges)) Tryz.func160 Tryz.results160 (by simp) (hQ _ _ _ ⟨by rw[linkC,if_pos hp0],by rw[linkC,if_pos hp0];exact hsame.symm,rfl⟩)
    · have hp0:¬ b.edges≤l:=by simpa using hc1
      refine Runs.skip ?_
      refine Runs.seqE Ty_ok (by decide) fun k' hk'=>?_
      simp[hX,he,hi,cdE,cdO,Big.cells]
      refine RunK.callA Ty_ok (indexZ_ok es l hE) e109 (.cons (ArgOk.listF (fr:=true) (els:=es.map intC) (by simp[intC])) (.cons (.v _ _ _) .nil)) (by decide) (by decide) rfl (by simp) ?_
      rintro _ rfl
      simp
      apply hk'
      refine Runs.seq ?_
      refine Runs.seqE Ty_ok (by decide) fun k' hk'=>?_
      simp
      apply hk'
      have hidx:=indexZ_lt es l
      refine Runs.ite rfl (fun hc2=>?_) (fun hc2=>?_)
      · have hp1:indexZ es l<0:=by simpa using hc2
        have hm:l ∉ es:=fun h=>by have:=hidx.2.2.2 h;omega
        have hk:linkC b es l=(16+((es.length:Nat):Int),es++[l]):=by rw[linkC,if_neg hp0,if_neg hm]
        refine Runs.seqE Ty_ok (by decide) fun k' hk'=>?_
        have f1:=fun H=>len_list (H:=H) (fr:=true) (f:=intC) (l:=es) kd_24 rfl
        simp[hX,he,hi,cdE,cdO,Big.cells,f1,-lenF]
        apply hk'
        refine Runs.evalE Ty_ok (by decide) fun k' hk'=>?_
        simp[hX,he,hi,cdE,cdO,Big.cells]
        refine RunK.callT Ty_ok (clipZ_ok true es _ _) e142 (by decide) (by decide) rfl (by simp) ?_
        rintro _ rfl
        simp
        refine RunK.appendI (fr:=true) (t':=true) (l:=es) (m:=[l]) Ty_ok (by decide) (by decide) kd_24 ⟨rfl,rfl,by decide⟩ (by simp) (by simp[intC]) (by simp) (by simp;omega) ?_
        simp[hX,he,hi,cdE,cdO,Big.cells]
        apply hk'
        refine Runs.seqE Ty_ok (by decide) fun k' hk'=>?_
        have f3:=ib_add (show I64 (16+(es.length:Int)) by simp only[I64];omega) rfl
        simp[f3,-intBin]
        apply hk'
        refine Runs.ret1 (v:=int (16+((es.length:Nat):Int))) Tryz.func160 Tryz.results160 (by simp) (hQ _ _ _ ⟨by rw[hk],?_,rfl⟩)
        rw[hk]
        simp[cdE,cdO,Big.cells]
      · have hp1:¬ indexZ es l<0:=by simpa using hc2
        have hm:l ∈ es:=hidx.2.2.1 (by omega)
        have hk:linkC b es l=(16+((es.idxOf l:Nat):Int),es):=by rw[linkC,if_neg hp0,if_pos hm]
        have hz:indexZ es l=((es.idxOf l:Nat):Int):=by rw[indexZ,if_pos hm]
        refine Runs.skip ?_
        refine Runs.seqE Ty_ok (by decide) fun k' hk'=>?_
        have f3:=ib_add (show I64 (16+indexZ es l) by simp only[I64];omega) rfl
        simp[f3,-intBin]
        apply hk'
        exact Runs.ret1 (v:=int (16+indexZ es l)) Tryz.func160 Tryz.results160 (by simp) (hQ _ _ _ ⟨by rw[hk,hz],by rw[hk];exact hsame.symm,rfl⟩)
theorem e160:Ent Tryz.prog 160:=Ent.of Tryz.func160 (by kernel_rfl) rfl
theorem linksC_snoc (b:Big):∀ (l es:List Int) (a:Int),linksC b es (l++[a])=((linksC b es l).1++[(linkC b (linksC b es l).2 a).1],(linkC b (linksC b es l).2 a).2)
  | [],es,a=>by
    by_cases h1:a ≥ b.edges
    · simp[linksC,linkC,h1]
    · by_cases h2:a ∈ es<;>simp[linksC,linkC,h1,h2]
  | x::l,es,a=>by
    simp only[List.cons_append,linksC]
    split
    · rw[linksC_snoc b l];rfl
    · split
      · rw[linksC_snoc b l];rfl
      · rw[linksC_snoc b l];rfl
theorem linksC_len2 (b:Big):∀ (l es:List Int),(linksC b es l).2.length≤es.length+l.length
  | [],es=>by simp[linksC]
  | x::l,es=>by
    simp only[linksC]
    split
    · have:=linksC_len2 b l es;simp;omega
    · split
      · have:=linksC_len2 b l es;simp;omega
      · have:=linksC_len2 b l (es++[x]);simp at this ⊢;omega
set_option maxRecDepth 100000 in
theorem node_c {es pl code:List Int} {cv:AVal} {K:List OwnE} {ids:List Id} (hX:H X=some ⟨9+cdO o,els⟩) (hg:els.length=g) (he:els[idx]?=some (cdE o b (.list true (es.map intC)) (.list true (pl.map intC)) cv)) (hcv:Sub cv (.list true (code.map intC)))
    {k num:Int} (hk:0≤k∧k<b.nodes.length) (hkp:k<pl.length) (hpp:(at' b.nodes k).parent<pl.length) (hp1:I64 (-1 - (at' b.nodes k).parent)) (hp2:0≤(at' b.nodes k).parent→I64 (4+at' pl (at' b.nodes k).parent))
    (hlk:∀ l ∈ (at' b.nodes k).links,I64 (l - b.edges)) (hsz:es.length+(at' b.nodes k).links.length≤1048576) (hcz:code.length+(at' b.nodes k).links.length≤1048576) (hpz:pl.length≤1048576) (hxi:X ∉ ids) (sp:Sep H n K (X::ids)) :
    CallsA Tryz.prog 143 [.ptr X g idx (cdO o),int k,int num] H n (fun r H1 n1=>∃ vp vc,H1 X=some ⟨9+cdO o,els.set idx (cdE o b (.list true ((linksC b es (at' b.nodes k).links).2.map intC)) vp vc)⟩ ∧
      Sep H1 n1 (oI vp (pl.set k.toNat num)::oI vc (code++(at' b.nodes k).control::placeC pl (at' b.nodes k).parent::(linksC b es (at' b.nodes k).links).1)::K) (X::ids)∧(∀ i ∈ ids,H1 i=H i)∧n≤n1):=by
  refine CallsA.of Tryz.func143 rfl Tryz.ntmps143 (by simp) fun Q hQ=>?_
  subst hg
  have he0:=he
  obtain⟨hi,he⟩:=List.getElem?_eq_some_iff.1 he
  have h00:=sp.1
  have lX:X.1<n:=h00 X (by simp)
  have neX:∀ m d,n≤m→(X=(m,d))=False:=fun m d hm=>by simp only[eq_iff_iff,iff_false];rintro rfl;simp at lX;omega
  have neI:∀ i ∈ ids,i ≠ (n,6):=fun i hi h=>by have:=h00 i (by simp[hi]);rw[h] at this;simp at this
  have nX0:=neX n 6 (Nat.le_refl _)
  have nX1:=neX (n+1) 30 (by omega)
  have nX2:∀ d,(X=(n+1,d))=False:=fun d=>neX (n+1) d (by omega)
  generalize hx:at' b.nodes k=x at *
  refine Runs.seqE Ty_ok (by decide) fun k' hk'=>?_
  have f1:=fun H=>ix_list (H:=H) (fr:=false) (f:=GNode.cells false) (k:=.i64) kd_34 (fun _=>rfl) hk hx.symm
  simp[hX,he,hi,cdE_get,cdE_take,cdE_drop,Big.cells,encN,f1,GNode.cells,encI,-indexAddrF]
  apply hk'
  refine Runs.cut (fun ρ H1 n1=>ρ 0 = .ptr X els.length idx (cdO o)∧ρ 1=int k∧ρ 2=int num∧ρ 6 = .ptr (n,6) 1 0 0∧H1 (n,6)=some ⟨3,[GNode.cells false x]⟩∧H1 X=some ⟨9+cdO o,els⟩∧n1=n+1∧Sep H1 (n+1) K ((n,6)::X::ids)∧∀ i ∈ ids,H1 i=H i)
    ⟨by simp,by simp,by simp,by simp,by simp[GNode.cells,encI],by simp[nX0,hX],rfl,Sep.var sp,fun i hi=>by rw[Heap.get_set_ne _ _ (neI i hi)]⟩ ?_
  clear hk' f1
  rintro ρ H1 _ ⟨r0,r1,r2,r6,m6,mX,rfl,sp1,fr1⟩
  refine Runs.seqD Ty_ok kindOp_ok draws (by decide) (by kernel_rfl) fun k' hk'=>?_
  simp[r0,r6,mX,he,hi,cdE_get,cdE_take,cdE_drop,Big.cells]
  refine RunDK.callT Ty_ok kindOp_ok (CallsA.sub (.cons hcv .nil) (clipZ_ok true code _ _)) e142 (by decide) rfl (by simp) ?_
  simp[r0,r6,m6,GNode.cells]
  refine RunDK.callT Ty_ok kindOp_ok (place_c mX rfl he0 hpp hp1 hp2) e159 (by decide) rfl (by simp[r0]) ?_
  simp[List.range_succ]
  have nR:∀ i ∈ (n,6)::X::ids,i ≠ (n+1,30):=fun i hi h=>by have:=sp1.1 i hi;rw[h] at this;simp at this
  have sp2:=Sep.addI (d:=30) (code++[x.control,placeC pl x.parent]) sp1
  refine RunDK.appendN (fr:=true) (t':=true) (l:=code) (m:=[x.control,placeC pl x.parent]) Ty_ok kindOp_ok (by decide) kd_24 ⟨rfl,rfl,by decide⟩ (by simp) (by simp[intC]) (by simp) (by simp;omega) ?_
  simp[r0,mX,he,hi,cdE_get,cdE_take,cdE_drop,cdE_dropS,cdO_8,Big.cells,nX2]
  apply hk'
  have mX1:((H1.set (n+1,30) ⟨1,(code++[x.control,placeC pl x.parent]).map intC⟩).set X ⟨9+cdO o,els.set idx (cdE o b (.list true (es.map intC)) (.list true (pl.map intC)) (.arr (n+1,30) (code.length+2) 0 (code.length+2)))⟩) X=some ⟨9+cdO o,els.set idx (cdE o b (.list true (es.map intC)) (.list true (pl.map intC)) (.arr (n+1,30) (code.length+2) 0 (code.length+2)))⟩:=Heap.get_set_self _ _ _
  refine Runs.cut (fun ρ H2 n2=>∃ vc,ρ 0 = .ptr X els.length idx (cdO o)∧ρ 1=int k∧ρ 2=int num∧ρ 6 = .ptr (n,6) 1 0 0∧H2 (n,6)=some ⟨3,[GNode.cells false x]⟩∧H2 X=some ⟨9+cdO o,els.set idx (cdE o b (.list true (es.map intC)) (.list true (pl.map intC)) vc)⟩∧n≤n2∧Sep H2 n2 (oI vc (code++[x.control,placeC pl x.parent])::K) (X::ids)∧∀ i ∈ ids,H2 i=H i)
    ⟨.arr (n+1,30) (code.length+2) 0 (code.length+2),by simp[r0],by simp[r1],by simp[r2],by simp[r6],?_,by simp[cdE,Big.cells],by omega,?_,fun i hi=>?_⟩ ?_
  · rw[Heap.get_set_ne _ _ (fun h=>by simp[h] at nX0),Heap.get_set_ne _ _ (by simp)];exact m6
  · have:=Sep.sub (ids':=X::ids) (Sep.setVar (w:=X) (o:=⟨9+cdO o,els.set idx (cdE o b (.list true (es.map intC)) (.list true (pl.map intC)) (.arr (n+1,30) (code.length+2) 0 (code.length+2)))⟩) sp2 (by simp)) (by simp +contextual)
    simpa[cdE,Big.cells] using this
  · rw[Heap.get_set_ne _ _ (show i ≠ X from fun h=>hxi (h ▸ hi)),Heap.get_set_ne _ _ (nR i (by simp[hi]))];exact fr1 i hi
  clear hk' mX1 sp2 nR r0 r1 r2 r6 m6 mX sp1 fr1
  rintro ρ H2 n2 ⟨vc,r0,r1,r2,r6,m6,mX,hn2,sp2,fr2⟩
  refine Runs.seq ?_
  refine Runs.seqE Ty_ok (by decide) fun k' hk'=>?_
  have f1:=fun H=>len_list (H:=H) (fr:=false) (f:=intC) (l:=x.links) kd_24 rfl
  simp[r6,m6,GNode.cells,encI,f1,-lenF]
  apply hk'
  refine Runs.block (Runs.loopUp x.links.length (fun i ρ H3 n3=>∃ vc,ρ 0 = .ptr X els.length idx (cdO o)∧ρ 1=int k∧ρ 2=int num∧ρ 34 = .list false (x.links.map intC)∧ρ 35=int x.links.length∧ρ 36=int i ∧
    H3 X=some ⟨9+cdO o,els.set idx (cdE o b (.list true ((linksC b es (x.links.take i)).2.map intC)) (.list true (pl.map intC)) vc)⟩∧n≤n3∧Sep H3 n3 (oI vc (code++x.control::placeC pl x.parent::(linksC b es (x.links.take i)).1)::K) (X::ids)∧∀ i ∈ ids,H3 i=H i)
    ⟨vc,by simp[r0],by simp[r1],by simp[r2],by simp,by simp,by simp,by simpa[linksC] using mX,hn2,by simpa[linksC] using sp2,fr2⟩ ?_)
  clear hk' f1 r0 r1 r2 r6 m6 mX hn2 sp2 fr2
  rintro i ρ H3 n3 hi3 ⟨vc,r0,r1,r2,r34,r35,r36,mX,hn3,sp3,fr3⟩ IH
  refine Runs.seqE Ty_ok (by decide) fun k' hk'=>?_
  simp[r35,r36]
  apply hk'
  refine Runs.seq ?_
  refine Runs.ite rfl (fun hc1=>?_) (fun hc1=>?_)
  · have hc1:i<x.links.length:=by simpa using hc1
    refine Runs.skip ?_
    refine Runs.seq ?_
    refine Runs.block ?_
    refine Runs.seqE Ty_ok (by decide) fun k' hk'=>?_
    have f1:=fun H=>ix_list (H:=H) (fr:=false) (f:=intC) (l:=x.links) (k:=.i64) (i:=(i:Int)) kd_24 (fun _=>rfl) ⟨by omega,by omega⟩ rfl
    simp[r34,r36,f1,intC,-indexAddrF]
    apply hk'
    have hl8:at' x.links (i:Int) ∈ x.links:=by rw[at_lt hc1];exact List.getElem_mem hc1
    generalize ha:at' x.links (i:Int)=a at hl8
    have htk:x.links.take (i+1)=x.links.take i++[a]:=by rw[← List.take_append_getElem hc1,← ha,at_lt hc1]
    have hsn:=linksC_snoc b (x.links.take i) es a
    have hE1:=linksC_len2 b (x.links.take i) es
    have hE2:(linksC b es (x.links.take i)).1.length=(x.links.take i).length:=linksC_len _ _
    rw[← htk] at hsn
    generalize linksC b es (x.links.take i)=L at hsn hE1 hE2 mX sp3
    have hti:(x.links.take i).length=i:=by simp;omega
    rw[hti] at hE1 hE2
    refine Runs.drawC (fun H n=>∃ es':List Int,H X=some ⟨9+cdO o,els.set idx (cdE o b (.list true (es'.map intC)) (.list true (pl.map intC)) vc)⟩) [7,9,12] (.free 0 (.free 1 (.free 2 (.free 3 (.free 4 (.free 5 (.free 6 (.hard 7 (.free 8 (.hard 9 (.free 10 (.free 11 (.hard 12 .fin .stop))) .stop)) .stop))))))))
      (fun ρ H3 n3=>∃ vc,ρ 0 = .ptr X els.length idx (cdO o)∧ρ 1=int k∧ρ 2=int num∧ρ 34 = .list false (x.links.map intC)∧ρ 35=int x.links.length∧ρ 36=int i ∧
        H3 X=some ⟨9+cdO o,els.set idx (cdE o b (.list true ((linksC b es (x.links.take (i+1))).2.map intC)) (.list true (pl.map intC)) vc)⟩∧n≤n3∧Sep H3 n3 (oI vc (code++x.control::placeC pl x.parent::(linksC b es (x.links.take (i+1))).1)::K) (X::ids)∧∀ i ∈ ids,H3 i=H i) draws (by decide) (by kernel_rfl) ?_ ?_
    · have hgX:∀ es':List Int,(els.set idx (cdE o b (.list true (es'.map intC)) (.list true (pl.map intC)) vc))[idx]?=some (cdE o b (.list true (es'.map intC)) (.list true (pl.map intC)) vc):=fun es'=>by rw[List.getElem?_set_self hi]
      refine RunT.free (.ptr X els.length idx (cdO o)) rfl rfl ⟨_,mX⟩ (fun H n ⟨es',hS⟩=>stepF_ok Ty_ok (by rw[stepF_loc];simp[r0])) ?_
      refine RunT.free (.ptr X els.length idx (cdO o)) rfl rfl ⟨_,mX⟩ (fun H n ⟨es',hS⟩=>stepF_ok Ty_ok (by rw[stepF_loc];simp[r0])) ?_
      refine RunT.free (.ptr X els.length idx (cdO o)) rfl rfl ⟨_,mX⟩ (fun H n ⟨es',hS⟩=>stepF_ok Ty_ok (by rw[stepF_loc];simp[hS,hi])) ?_
      refine RunT.free (.ptr X els.length idx (cdO o+8)) rfl rfl ⟨_,mX⟩ (fun H n ⟨es',hS⟩=>stepF_ok Ty_ok (by rw[stepF_loc];simp[hS,hi])) ?_
      refine RunT.free vc rfl rfl ⟨_,mX⟩ (fun H n ⟨es',hS⟩=>stepF_ok Ty_ok (by rw[stepF_loc];simp[hS,hi,cdE_get,Big.cells])) ?_
      refine RunT.free (.ptr X els.length idx (cdO o)) rfl rfl ⟨_,mX⟩ (fun H n ⟨es',hS⟩=>stepF_ok Ty_ok (by rw[stepF_loc];simp[r0])) ?_
      refine RunT.free (int a) rfl rfl ⟨_,mX⟩ (fun H n ⟨es',hS⟩=>stepF_ok Ty_ok (by rw[stepF_loc];simp)) ?_
      refine⟨?_,trivial⟩
      refine RunT.heavy (fun r H1 n1=>r=int (linkC b L.2 a).1∧H1=H3.set X ⟨9+cdO o,(els.set idx (cdE o b (.list true (L.2.map intC)) (.list true (pl.map intC)) vc)).set idx (cdE o b (.list true ((linkC b L.2 a).2.map intC)) (.list true (pl.map intC)) vc)⟩∧n1=n3) rfl rfl
        (OpSem.call (first:=[]) (captured:=[]) (by rw[loc_argsC.2];rfl) e160 (by rw[loc_argsC.1];simp[r0];simpa using link_c (n:=n3) mX (by simp) (hgX _) (hlk a hl8) (by omega))) ?_
      rintro _ _ _ ⟨rfl,rfl,rfl⟩
      rw[List.set_set]
      have mX2:=Heap.get_set_self H3 X ⟨9+cdO o,els.set idx (cdE o b (.list true ((linkC b L.2 a).2.map intC)) (.list true (pl.map intC)) vc)⟩
      have sp4:=Sep.setVar (w:=X) (o:=⟨9+cdO o,els.set idx (cdE o b (.list true ((linkC b L.2 a).2.map intC)) (.list true (pl.map intC)) vc)⟩) sp3 (by simp)
      have fr4:∀ i ∈ ids,(H3.set X ⟨9+cdO o,els.set idx (cdE o b (.list true ((linkC b L.2 a).2.map intC)) (.list true (pl.map intC)) vc)⟩) i=H i:=fun i hi=>by rw[Heap.get_set_ne _ _ (show i ≠ X from fun h=>hxi (h ▸ hi))];exact fr3 i hi
      generalize H3.set X ⟨9+cdO o,els.set idx (cdE o b (.list true ((linkC b L.2 a).2.map intC)) (.list true (pl.map intC)) vc)⟩=H4 at mX2 sp4 fr4
      refine⟨fun _=>⟨_,mX2⟩,?_⟩
      refine RunT.free (.list true [[int (linkC b L.2 a).1]]) rfl rfl ⟨_,mX2⟩ (fun H n ⟨es',hS⟩=>stepF_ok Ty_ok (by rw[stepF_loc];simp[List.range_succ])) ?_
      refine⟨?_,trivial⟩
      refine RunT.append (v:=vc) (xv:=.list true [[int (linkC b L.2 a).1]]) Ty_ok [] K [[int (linkC b L.2 a).1]] [intC (linkC b L.2 a).1] rfl rfl (by simp) (by simp) sp4 kd_24 (by simp) (by simp) (by simp[srcOf]) (by simp) (rows_one (Fill.v _ Fill.nil)) (by simp) (by simp;omega) ?_
      rintro vn H5 n5 sp5 fr5 hn5
      have mX5:H5 X=some ⟨9+cdO o,els.set idx (cdE o b (.list true ((linkC b L.2 a).2.map intC)) (.list true (pl.map intC)) vc)⟩:=(fr5 X (by simp)).trans mX2
      refine⟨fun _=>⟨_,mX5⟩,?_⟩
      refine RunT.free (.ptr X els.length idx (cdO o)) rfl rfl ⟨_,mX5⟩ (fun H n ⟨es',hS⟩=>stepF_ok Ty_ok (by rw[stepF_loc];simp[hS,hi])) ?_
      refine RunT.free (.ptr X els.length idx (cdO o+8)) rfl rfl ⟨_,mX5⟩ (fun H n ⟨es',hS⟩=>stepF_ok Ty_ok (by rw[stepF_loc];simp[hS,hi])) ?_
      refine⟨?_,trivial⟩
      have ho:=Sep.oc sp5
      refine RunT.step (v:=.undef) (H':=H5.set X ⟨9+cdO o,els.set idx (cdE o b (.list true ((linkC b L.2 a).2.map intC)) (.list true (pl.map intC)) vn)⟩) (n':=n5) Ty_ok rfl rfl ?_ (fun hl=>absurd (hl.symm.trans (show lateC _ _ _=true by kernel_rfl)) (by decide)) ?_
      · simp[mX5,hi,cdE_get,cdE_take,cdE_drop,cdE_dropS,cdO_8,Big.cells,ho,-cellsA,-one1,cAx,o1x]
        simp[cdE,Big.cells]
      refine RunT.fin ⟨vn,by simp[r0],by simp[r1],by simp[r2],by simp[r34],by simp[r35],by simp[r36],by rw[hsn];exact Heap.get_set_self _ _ _,by omega,?_,fun i hi=>?_⟩
      · rw[hsn]
        have:=Sep.setVar (w:=X) (o:=⟨9+cdO o,els.set idx (cdE o b (.list true ((linkC b L.2 a).2.map intC)) (.list true (pl.map intC)) vn)⟩) sp5 (by simp)
        simpa[oI,oE] using this
      · rw[Heap.get_set_ne _ _ (show i ≠ X from fun h=>hxi (h ▸ hi)),fr5 i (by simp[hi])];exact fr4 i hi
    · rintro ρ H4 n4 ⟨vc,r0,r1,r2,r34,r35,r36,mX,hn3,sp3,fr3⟩
      refine Runs.inBlock ?_
      refine Runs.evalE Ty_ok (by decide) fun k' hk'=>?_
      have f2:=ib_add (show I64 ((i:Int)+1) by simp only[I64];omega) (show ((i+1:Nat):Int)=(i:Int)+1 by omega)
      simp[r36,f2,-intBin]
      apply hk'
      exact IH hc1 _ _ _ ⟨vc,by simp[r0],by simp[r1],by simp[r2],by simp[r34],by simp[r35],by simp,mX,hn3,sp3,fr3⟩
  · have hc2:¬ i<x.links.length:=by simpa using hc1
    have hc1:i=x.links.length:=by omega
    subst hc1
    refine Runs.exit rfl ?_
    rw[List.take_length] at mX sp3
    refine Runs.seqE Ty_ok (by decide) fun k' hk'=>?_
    generalize linksC b es x.links=L at mX sp3 hQ
    have hgX:∀ e,(els.set idx e)[idx]?=some e:=fun e=>by rw[List.getElem?_set_self hi]
    simp[r0,mX,hi,cdE_get,Big.cells]
    refine RunK.callW Ty_ok (cloneZ_ok pl hpz) e106 (.cons (ArgOk.listF (fr:=true) (els:=pl.map intC) (by simp[intC])) .nil) sp3 (by decide) (by decide) rfl (by simp) ?_
    rintro vp H4 n4 _ sp4 rfl hn4 fr4
    have mX4:=(fr4 X (by simp)).trans mX
    have ho:=Sep.oc sp4
    simp[r0,mX4,hi,cdE_get,cdE_take,cdE_drop,cdE_dropS,cdO_7,Big.cells,ho,-cellsA,-one1,cAx,o1x]
    apply hk'
    refine Runs.cut (fun ρ H5 n5=>ρ 0 = .ptr X els.length idx (cdO o)∧ρ 1=int k∧ρ 2=int num∧H5 X=some ⟨9+cdO o,els.set idx (cdE o b (.list true (L.2.map intC)) vp vc)⟩∧n≤n5∧Sep H5 n5 (oI vp pl::oI vc (code++x.control::placeC pl x.parent::L.1)::K) (X::ids)∧∀ i ∈ ids,H5 i=H i)
      ⟨by simp[r0],by simp[r1],by simp[r2],by simp[cdE,Big.cells],by omega,Sep.setVar sp4 (by simp),fun i hi=>by rw[Heap.get_set_ne _ _ (show i ≠ X from fun h=>hxi (h ▸ hi)),fr4 i (by simp[hi])];exact fr3 i hi⟩ ?_
    clear hk' mX4 ho sp4 fr4 r0 r1 r2 mX sp3 fr3 hn4 hn3 r34 r35 r36
    rintro ρ H5 n5 ⟨r0,r1,r2,mX,hn5,sp5,fr5⟩
    have hkb:0≤k∧k<pl.length:=⟨hk.1,hkp⟩
    obtain⟨id,rfl,mo,ln,ni⟩:=Sep.openF sp5 (by simp) hkb
    refine Runs.evalE Ty_ok (by decide) fun k' hk'=>?_
    have f1:=fun H (hm:H id=some ⟨1,pl.map intC⟩)=>ix_arr (H:=H) (k:=.i64) (off:=0) (len:=pl.length) (g:=pl.length) kd_24 hm (by simp) rfl hkb
    simp[r0,r1,r2,mX,hi,cdE_get,cdE_take,cdE_drop,cdE_dropS,cdO_7,Big.cells,f1 _ mo,-indexAddrF,-storeF]
    refine bind_store (q:=k.toNat) (news:=intC num) [] (oI vc (code++x.control::placeC pl x.parent::L.1)::K) sp5 (by simp) (by simp;omega) (by simp) (by simp[-one1,o1x]) (Fill.v _ Fill.nil) ?_
    rintro H6 sp6 fr6
    simp
    apply hk'
    refine Runs.fin Tryz.func143 (RetOk.zero Tryz.results143) (hQ _ _ _ ⟨_,vc,(fr6 X (by simp)).trans mX,?_,fun i hi=>(fr6 i (by simp[hi])).trans (fr5 i hi),hn5⟩)
    have:=sp6
    rw[← List.map_set] at this
    exact this
theorem e143:Ent Tryz.prog 143:=Ent.of Tryz.func143 (by kernel_rfl) rfl
set_option maxRecDepth 100000 in
theorem rest_c {es pl code:List Int} {cv:AVal} {K:List OwnE} {ids:List Id} (hX:H X=some ⟨9+cdO o,els⟩) (hg:els.length=g) (he:els[idx]?=some (cdE o b (.list true (es.map intC)) (.list true (pl.map intC)) cv))
    (hp:∀ p ∈ b.sites,p<pl.length∧I64 (-1 - p)∧(0≤p→I64 (4+at' pl p))) (hlk:∀ w ∈ b.inner,I64 (w.link - b.edges)) (hsz:es.length+b.inner.length≤1048576) (hcz:code.length+b.sites.length+b.inner.length≤1048576) (hxi:X ∉ ids) (sp:Sep H n (oI cv code::K) (X::ids)) :
    CallsA Tryz.prog 145 [.ptr X g idx (cdO o)] H n (fun r H1 n1=>∃ vc,H1 X=some ⟨9+cdO o,els.set idx (cdE o b (.list true ((linksC b es (b.inner.map fun w=>w.link)).2.map intC)) (.list true (pl.map intC)) vc)⟩ ∧
      Sep H1 n1 (oI vc (code++(b.sites.map (placeC pl)++(linksC b es (b.inner.map fun w=>w.link)).1))::K) (X::ids)∧(∀ i ∈ ids,H1 i=H i)∧n≤n1):=by
  refine CallsA.of Tryz.func145 rfl Tryz.ntmps145 (by simp) fun Q hQ=>?_
  subst hg
  have he0:=he
  obtain⟨hi,he⟩:=List.getElem?_eq_some_iff.1 he
  have hgX:∀ e,(els.set idx e)[idx]?=some e:=fun e=>by rw[List.getElem?_set_self hi]
  have neX0:∀ (H3:Heap) (n3:Nat),(∀ i ∈ X::ids,i.1<n3)→X ≠ (n3,5):=fun _ n3 h e=>by have:=h X (by simp);rw[e] at this;simp at this
  refine Runs.seq ?_
  refine Runs.seqE Ty_ok (by decide) fun k' hk'=>?_
  have f1:=fun H=>len_list (H:=H) (fr:=false) (f:=intC) (l:=b.sites) kd_24 rfl
  simp[hX,he,hi,cdE_get,Big.cells,encI,f1,-lenF]
  apply hk'
  refine Runs.block (Runs.loopUp b.sites.length (fun i ρ H3 n3=>∃ vc,ρ 0 = .ptr X els.length idx (cdO o)∧ρ 10 = .list false (b.sites.map intC)∧ρ 11=int b.sites.length∧ρ 12=int i ∧
    H3 X=some ⟨9+cdO o,els.set idx (cdE o b (.list true (es.map intC)) (.list true (pl.map intC)) vc)⟩∧n≤n3∧Sep H3 n3 (oI vc (code++(b.sites.take i).map (placeC pl))::K) (X::ids)∧∀ i ∈ ids,H3 i=H i)
    ⟨cv,by simp,by simp,by simp,by simp,by rw[← he,List.set_getElem_self];exact hX,Nat.le_refl _,by simpa using sp,fun _ _=>rfl⟩ ?_)
  clear hk' f1 he0 hX sp
  rintro i ρ H3 n3 hi3 ⟨vc,r0,r10,r11,r12,mX,hn3,sp3,fr3⟩ IH
  refine Runs.seqE Ty_ok (by decide) fun k' hk'=>?_
  simp[r11,r12]
  apply hk'
  refine Runs.seq ?_
  refine Runs.ite rfl (fun hc1=>?_) (fun hc1=>?_)
  · have hc1:i<b.sites.length:=by simpa using hc1
    refine Runs.skip ?_
    refine Runs.seq ?_
    refine Runs.block ?_
    refine Runs.seqE Ty_ok (by decide) fun k' hk'=>?_
    have f1:=fun H=>ix_list (H:=H) (fr:=false) (f:=intC) (l:=b.sites) (k:=.i64) (i:=(i:Int)) kd_24 (fun _=>rfl) ⟨by omega,by omega⟩ rfl
    simp[r10,r12,f1,intC,-indexAddrF]
    apply hk'
    have hl8:at' b.sites (i:Int) ∈ b.sites:=by rw[at_lt hc1];exact List.getElem_mem hc1
    generalize ha:at' b.sites (i:Int)=a at hl8
    have htk:b.sites.take (i+1)=b.sites.take i++[a]:=by rw[← List.take_append_getElem hc1,← ha,at_lt hc1]
    obtain⟨hp1,hp2,hp3⟩:=hp a hl8
    refine Runs.evalDE Ty_ok kindOp_ok draws (by decide) (by kernel_rfl) fun k' hk'=>?_
    simp[r0,mX,hi,cdE_get,Big.cells]
    refine RunDK.callT Ty_ok kindOp_ok (place_c (g:=els.length) mX (by simp) (hgX _) hp1 hp2 hp3) e159 (by decide) rfl (by simp[r0]) ?_
    simp[List.range_succ,-appendF]
    refine bindD_append [] K [[int (placeC pl a)]] [intC (placeC pl a)] sp3 kd_24 (by simp) (by simp) (by simp[srcOf]) (by simp) (rows_one (Fill.v _ Fill.nil)) (by simp) (by simp;omega) ?_
    rintro vn H4 n4 sp4 fr4 hn4
    have mX4:=(fr4 X (by simp)).trans mX
    have ho:=Sep.oc sp4
    simp[r0,mX4,hi,cdE_get,cdE_take,cdE_drop,cdE_dropS,cdO_8,Big.cells,ho,-cellsA,-one1,cAx,o1x]
    apply hk'
    refine Runs.inBlock ?_
    refine Runs.evalE Ty_ok (by decide) fun k' hk'=>?_
    have f2:=ib_add (show I64 ((i:Int)+1) by simp only[I64];omega) (show ((i+1:Nat):Int)=(i:Int)+1 by omega)
    simp[r12,f2,-intBin]
    apply hk'
    refine IH hc1 _ _ _ ⟨vn,by simp[r0],by simp[r10],by simp[r11],by simp,by simp[cdE,Big.cells],by omega,?_,fun i hi=>by rw[Heap.get_set_ne _ _ (show i ≠ X from fun h=>hxi (h ▸ hi)),fr4 i (by simp[hi])];exact fr3 i hi⟩
    rw[htk]
    have:=Sep.setVar (w:=X) (o:=⟨9+cdO o,els.set idx (cdE o b (.list true (es.map intC)) (.list true (pl.map intC)) vn)⟩) sp4 (by simp)
    simpa[oI,oE,cdE,Big.cells] using this
  · have hc2:¬ i<b.sites.length:=by simpa using hc1
    have hc1:i=b.sites.length:=by omega
    subst hc1
    refine Runs.exit rfl ?_
    rw[List.take_length] at sp3
    clear IH hi3 r10 r11 r12
    refine Runs.seqE Ty_ok (by decide) fun k' hk'=>?_
    have f1:=fun H=>len_list (H:=H) (fr:=false) (f:=Wire.cells) (l:=b.inner) kd_35 rfl
    simp[r0,mX,hi,cdE_get,Big.cells,encW,f1,-lenF]
    apply hk'
    refine Runs.block (Runs.loopUp b.inner.length (fun i ρ H3 n3=>∃ vc,ρ 0 = .ptr X els.length idx (cdO o)∧ρ 33 = .list false (b.inner.map Wire.cells)∧ρ 34=int b.inner.length∧ρ 35=int i ∧
      H3 X=some ⟨9+cdO o,els.set idx (cdE o b (.list true ((linksC b es ((b.inner.map fun w=>w.link).take i)).2.map intC)) (.list true (pl.map intC)) vc)⟩∧n≤n3∧Sep H3 n3 (oI vc (code++(b.sites.map (placeC pl)++(linksC b es ((b.inner.map fun w=>w.link).take i)).1))::K) (X::ids)∧∀ i ∈ ids,H3 i=H i)
      ⟨vc,by simp[r0],by simp,by simp,by simp,by simpa[linksC] using mX,hn3,by simpa[linksC] using sp3,fr3⟩ ?_)
    clear hk' f1 r0 mX hn3 sp3 fr3
    rintro i ρ H3 n3 hi3 ⟨vc,r0,r33,r34,r35,mX,hn3,sp3,fr3⟩ IH
    refine Runs.seqE Ty_ok (by decide) fun k' hk'=>?_
    simp[r34,r35]
    apply hk'
    refine Runs.seq ?_
    refine Runs.ite rfl (fun hc1=>?_) (fun hc1=>?_)
    · have hc1:i<b.inner.length:=by simpa using hc1
      refine Runs.skip ?_
      refine Runs.seq ?_
      refine Runs.block ?_
      refine Runs.seqE Ty_ok (by decide) fun k' hk'=>?_
      have f1:=fun H=>ix_list (H:=H) (fr:=false) (f:=Wire.cells) (l:=b.inner) (k:=.i64) (i:=(i:Int)) kd_35 (fun _=>rfl) ⟨by omega,by omega⟩ rfl
      simp[r33,r35,f1,Wire.cells,-indexAddrF]
      apply hk'
      have hl8:at' b.inner (i:Int) ∈ b.inner:=by rw[at_lt hc1];exact List.getElem_mem hc1
      have hlw:=hlk _ hl8
      generalize ha:at' b.inner (i:Int)=w at hl8 hlw
      have htk:(b.inner.map fun w=>w.link).take (i+1)=(b.inner.map fun w=>w.link).take i++[w.link]:=by
        have hcm:i<(b.inner.map fun w=>w.link).length:=by simpa using hc1
        rw[← List.take_append_getElem hcm,← ha,at_lt hc1];simp
      have hsn:=linksC_snoc b ((b.inner.map fun w=>w.link).take i) es w.link
      have hE1:=linksC_len2 b ((b.inner.map fun w=>w.link).take i) es
      have hE2:(linksC b es ((b.inner.map fun w=>w.link).take i)).1.length=((b.inner.map fun w=>w.link).take i).length:=linksC_len _ _
      rw[← htk] at hsn
      generalize linksC b es ((b.inner.map fun w=>w.link).take i)=L at hsn hE1 hE2 mX sp3
      have hti:((b.inner.map fun w=>w.link).take i).length=i:=by simp;omega
      rw[hti] at hE1 hE2
      have nX:=neX0 H3 n3 sp3.1
      have spv:=Sep.var (d:=5) (o:=⟨2,[[str w.name,int w.link]]⟩) sp3
      have mXv:(H3.set (n3,5) ⟨2,[[str w.name,int w.link]]⟩) X=some ⟨9+cdO o,els.set idx (cdE o b (.list true (L.2.map intC)) (.list true (pl.map intC)) vc)⟩:=by rw[Heap.get_set_ne _ _ nX];exact mX
      have mWv:(H3.set (n3,5) ⟨2,[[str w.name,int w.link]]⟩) (n3,5)=some ⟨2,[[str w.name,int w.link]]⟩:=Heap.get_set_self _ _ _
      have frv:∀ i ∈ ids,(H3.set (n3,5) ⟨2,[[str w.name,int w.link]]⟩) i=H i:=fun i hi=>by rw[Heap.get_set_ne _ _ (fun h=>by have:=sp3.1 i (by simp[hi]);rw[h] at this;simp at this)];exact fr3 i hi
      generalize H3.set (n3,5) ⟨2,[[str w.name,int w.link]]⟩=H3v at spv mXv mWv frv
      refine Runs.drawC (fun H n=>(∃ es':List Int,H X=some ⟨9+cdO o,els.set idx (cdE o b (.list true (es'.map intC)) (.list true (pl.map intC)) vc)⟩)∧H (n3,5)=some ⟨2,[[str w.name,int w.link]]⟩) [8,10,13] (.free 0 (.free 1 (.free 2 (.free 3 (.free 4 (.free 5 (.free 6 (.free 7 (.hard 8 (.free 9 (.hard 10 (.free 11 (.free 12 (.hard 13 .fin .stop))) .stop)) .stop)))))))))
        (fun ρ H3 n3=>∃ vc,ρ 0 = .ptr X els.length idx (cdO o)∧ρ 33 = .list false (b.inner.map Wire.cells)∧ρ 34=int b.inner.length∧ρ 35=int i ∧
          H3 X=some ⟨9+cdO o,els.set idx (cdE o b (.list true ((linksC b es ((b.inner.map fun w=>w.link).take (i+1))).2.map intC)) (.list true (pl.map intC)) vc)⟩∧n≤n3∧Sep H3 n3 (oI vc (code++(b.sites.map (placeC pl)++(linksC b es ((b.inner.map fun w=>w.link).take (i+1))).1))::K) (X::ids)∧∀ i ∈ ids,H3 i=H i) draws (by decide) (by kernel_rfl) ?_ ?_
      · refine RunT.free (.ptr X els.length idx (cdO o)) rfl rfl ⟨⟨_,mXv⟩,mWv⟩ (fun H n ⟨⟨es',hS⟩,hW⟩=>stepF_ok Ty_ok (by rw[stepF_loc];simp[r0])) ?_
        refine RunT.free (.ptr X els.length idx (cdO o)) rfl rfl ⟨⟨_,mXv⟩,mWv⟩ (fun H n ⟨⟨es',hS⟩,hW⟩=>stepF_ok Ty_ok (by rw[stepF_loc];simp[r0])) ?_
        refine RunT.free (.ptr X els.length idx (cdO o)) rfl rfl ⟨⟨_,mXv⟩,mWv⟩ (fun H n ⟨⟨es',hS⟩,hW⟩=>stepF_ok Ty_ok (by rw[stepF_loc];simp[hS,hi])) ?_
        refine RunT.free (.ptr X els.length idx (cdO o+8)) rfl rfl ⟨⟨_,mXv⟩,mWv⟩ (fun H n ⟨⟨es',hS⟩,hW⟩=>stepF_ok Ty_ok (by rw[stepF_loc];simp[hS,hi])) ?_
        refine RunT.free vc rfl rfl ⟨⟨_,mXv⟩,mWv⟩ (fun H n ⟨⟨es',hS⟩,hW⟩=>stepF_ok Ty_ok (by rw[stepF_loc];simp[hS,hi,cdE_get,Big.cells])) ?_
        refine RunT.free (.ptr X els.length idx (cdO o)) rfl rfl ⟨⟨_,mXv⟩,mWv⟩ (fun H n ⟨⟨es',hS⟩,hW⟩=>stepF_ok Ty_ok (by rw[stepF_loc];simp[r0])) ?_
        refine RunT.free (.ptr (n3,5) 1 0 1) rfl rfl ⟨⟨_,mXv⟩,mWv⟩ (fun H n ⟨⟨es',hS⟩,hW⟩=>stepF_ok Ty_ok (by rw[stepF_loc];simp[hW])) ?_
        refine RunT.free (int w.link) rfl rfl ⟨⟨_,mXv⟩,mWv⟩ (fun H n ⟨⟨es',hS⟩,hW⟩=>stepF_ok Ty_ok (by rw[stepF_loc];simp[hW])) ?_
        refine⟨?_,trivial⟩
        refine RunT.heavy (fun r H1 n1=>r=int (linkC b L.2 w.link).1∧H1=H3v.set X ⟨9+cdO o,(els.set idx (cdE o b (.list true (L.2.map intC)) (.list true (pl.map intC)) vc)).set idx (cdE o b (.list true ((linkC b L.2 w.link).2.map intC)) (.list true (pl.map intC)) vc)⟩∧n1=n3+1) rfl rfl
          (OpSem.call (first:=[]) (captured:=[]) (by rw[loc_argsC.2];rfl) e160 (by rw[loc_argsC.1];simp[r0];simpa using link_c (n:=n3+1) mXv (by simp) (hgX _) hlw (by omega))) ?_
        rintro _ _ _ ⟨rfl,rfl,rfl⟩
        rw[List.set_set]
        have mX2:=Heap.get_set_self H3v X ⟨9+cdO o,els.set idx (cdE o b (.list true ((linkC b L.2 w.link).2.map intC)) (.list true (pl.map intC)) vc)⟩
        have mW2:(H3v.set X ⟨9+cdO o,els.set idx (cdE o b (.list true ((linkC b L.2 w.link).2.map intC)) (.list true (pl.map intC)) vc)⟩) (n3,5)=some ⟨2,[[str w.name,int w.link]]⟩:=by rw[Heap.get_set_ne _ _ (fun h=>nX h.symm)];exact mWv
        have sp4:=Sep.setVar (w:=X) (o:=⟨9+cdO o,els.set idx (cdE o b (.list true ((linkC b L.2 w.link).2.map intC)) (.list true (pl.map intC)) vc)⟩) spv (by simp)
        have fr4:∀ i ∈ ids,(H3v.set X ⟨9+cdO o,els.set idx (cdE o b (.list true ((linkC b L.2 w.link).2.map intC)) (.list true (pl.map intC)) vc)⟩) i=H i:=fun i hi=>by rw[Heap.get_set_ne _ _ (show i ≠ X from fun h=>hxi (h ▸ hi))];exact frv i hi
        generalize H3v.set X ⟨9+cdO o,els.set idx (cdE o b (.list true ((linkC b L.2 w.link).2.map intC)) (.list true (pl.map intC)) vc)⟩=H4 at mX2 sp4 fr4 mW2
        refine⟨fun _=>⟨⟨_,mX2⟩,mW2⟩,?_⟩
        refine RunT.free (.list true [[int (linkC b L.2 w.link).1]]) rfl rfl ⟨⟨_,mX2⟩,mW2⟩ (fun H n ⟨⟨es',hS⟩,hW⟩=>stepF_ok Ty_ok (by rw[stepF_loc];simp[List.range_succ])) ?_
        refine⟨?_,trivial⟩
        refine RunT.append (v:=vc) (xv:=.list true [[int (linkC b L.2 w.link).1]]) Ty_ok [] K [[int (linkC b L.2 w.link).1]] [intC (linkC b L.2 w.link).1] rfl rfl (by simp) (by simp) sp4 kd_24 (by simp) (by simp) (by simp[srcOf]) (by simp) (rows_one (Fill.v _ Fill.nil)) (by simp) (by simp;omega) ?_
        rintro vn H5 n5 sp5 fr5 hn5
        have mX5:H5 X=some ⟨9+cdO o,els.set idx (cdE o b (.list true ((linkC b L.2 w.link).2.map intC)) (.list true (pl.map intC)) vc)⟩:=(fr5 X (by simp)).trans mX2
        have mW5:=(fr5 (n3,5) (by simp)).trans mW2
        refine⟨fun _=>⟨⟨_,mX5⟩,mW5⟩,?_⟩
        refine RunT.free (.ptr X els.length idx (cdO o)) rfl rfl ⟨⟨_,mX5⟩,mW5⟩ (fun H n ⟨⟨es',hS⟩,hW⟩=>stepF_ok Ty_ok (by rw[stepF_loc];simp[hS,hi])) ?_
        refine RunT.free (.ptr X els.length idx (cdO o+8)) rfl rfl ⟨⟨_,mX5⟩,mW5⟩ (fun H n ⟨⟨es',hS⟩,hW⟩=>stepF_ok Ty_ok (by rw[stepF_loc];simp[hS,hi])) ?_
        refine⟨?_,trivial⟩
        have ho:=Sep.oc sp5
        refine RunT.step (v:=.undef) (H':=H5.set X ⟨9+cdO o,els.set idx (cdE o b (.list true ((linkC b L.2 w.link).2.map intC)) (.list true (pl.map intC)) vn)⟩) (n':=n5) Ty_ok rfl rfl ?_ (fun hl=>absurd (hl.symm.trans (show lateC _ _ _=true by kernel_rfl)) (by decide)) ?_
        · simp[mX5,hi,cdE_get,cdE_take,cdE_drop,cdE_dropS,cdO_8,Big.cells,ho,-cellsA,-one1,cAx,o1x]
          simp[cdE,Big.cells]
        refine RunT.fin ⟨vn,by simp[r0],by simp[r33],by simp[r34],by simp[r35],by rw[hsn];exact Heap.get_set_self _ _ _,by omega,?_,fun i hi=>?_⟩
        · rw[hsn]
          have:=Sep.sub (ids':=X::ids) (Sep.setVar (w:=X) (o:=⟨9+cdO o,els.set idx (cdE o b (.list true ((linkC b L.2 w.link).2.map intC)) (.list true (pl.map intC)) vn)⟩) sp5 (by simp)) (by simp +contextual)
          simpa[oI,oE] using this
        · rw[Heap.get_set_ne _ _ (show i ≠ X from fun h=>hxi (h ▸ hi)),fr5 i (by simp[hi])];exact fr4 i hi
      · rintro ρ H4 n4 ⟨vc,r0,r33,r34,r35,mX,hn3,sp3,fr3⟩
        refine Runs.inBlock ?_
        refine Runs.evalE Ty_ok (by decide) fun k' hk'=>?_
        have f2:=ib_add (show I64 ((i:Int)+1) by simp only[I64];omega) (show ((i+1:Nat):Int)=(i:Int)+1 by omega)
        simp[r35,f2,-intBin]
        apply hk'
        exact IH hc1 _ _ _ ⟨vc,by simp[r0],by simp[r33],by simp[r34],by simp,mX,hn3,sp3,fr3⟩
    · have hc2:¬ i<b.inner.length:=by simpa using hc1
      have hc1:i=b.inner.length:=by omega
      subst hc1
      refine Runs.exit rfl ?_
      have htl:(b.inner.map fun w=>w.link).take b.inner.length=b.inner.map fun w=>w.link:=List.take_of_length_le (by simp)
      rw[htl] at sp3 mX
      exact Runs.fin Tryz.func145 (RetOk.zero Tryz.results145) (hQ _ _ _ ⟨vc,mX,sp3,fr3,hn3⟩)
end
end Go.Ab.Vg
/- The code of a bigraph: newCoder and codeOf, by hand. -/
namespace Go.Ab.Vg
set_option linter.unusedSimpArgs false
set_option linter.unusedVariables false
open Go.Proofs
section
variable {H:Heap} {n:Nat}
theorem e141:Ent Tryz.prog 141:=Ent.of Tryz.func141 (by kernel_rfl) rfl
theorem e145:Ent Tryz.prog 145:=Ent.of Tryz.func145 (by kernel_rfl) rfl
theorem newCoder_c {b:Big} {K:List OwnE} {ids:List Id} (hb:b.nodes.length≤1048576) (sp:Sep H n K ids) :
    CallsA Tryz.prog 141 [.agg (Big.cells false b)] H n (fun r H1 n1=>∃ X,r = .ptr X 1 0 0∧X ∉ ids∧H1 X=some ⟨9,[cdE none b (.v (.slice none 0 0)) (.list true ((List.replicate b.nodes.length (-1:Int)).map intC)) (.v (.slice none 0 0))]⟩ ∧
      Sep H1 n1 K (X::ids)∧(∀ i ∈ ids,H1 i=H i)∧n≤n1):=by
  refine CallsA.of Tryz.func141 rfl Tryz.ntmps141 (by simp) fun Q hQ=>?_
  refine Runs.seqE Ty_ok (by decide) fun k' hk'=>?_
  simp[Big.cells]
  apply hk'
  refine Runs.seqD Ty_ok kindOp_ok draws (by decide) (by kernel_rfl) fun k' hk'=>?_
  have f1:=fun H=>len_list (H:=H) (fr:=false) (f:=GNode.cells false) (l:=b.nodes) kd_34 rfl
  simp[encN,f1,List.range_succ,-lenF]
  refine RunDK.callA Ty_ok kindOp_ok ((repeat_ok (-1) b.nodes.length ⟨by omega,by omega⟩).pure) e158 (.cons (ArgOk.listF (fr:=true) (els:=[intC (-1)]) (by simp[intC])) (.cons (.v _ _ _) .nil)) (by decide) rfl (by simp[intC]) ?_
  simp
  apply hk'
  refine Runs.ret1 (v:=.ptr (n+1,10) 1 0 0) Tryz.func141 Tryz.results141 (by simp) (hQ _ _ _ ⟨(n+1,10),rfl,fun h=>by have:=sp.1 _ h;simp at this;omega,by simp[cdE,Big.cells,encN],?_,fun i hi=>?_,by omega⟩)
  · exact Sep.sub (Sep.var (Sep.var sp)) (by simp +contextual)
  · have h1:=sp.1 i hi
    rw[Heap.get_set_ne _ _ (by rintro rfl;simp at h1;omega),Heap.get_set_ne _ _ (by rintro rfl;simp at h1)]
theorem cdE_map {o:Option AVal} {b:Big} {E P c:AVal} {φ:AVal→AVal} (hφ:∀ a,Imm a→φ a=a) (hE:Imm E) (hP:φ P=P∨True):(cdE o b E P c).map φ=cdE (o.map φ) b E (φ P) (φ c):=by
  have h1:(Big.cells false b).map φ=Big.cells false b:=by
    conv=>rhs;rw[← List.map_id (Big.cells false b)]
    exact List.map_congr_left fun a ha=>hφ a (imm_big false b a ha)
  simp only[cdE,List.map_append,h1,List.map_cons,List.map_nil,hφ E hE]
  cases o<;>rfl
theorem immI (l:List Int):Imm (.list true (l.map intC)):=.list _ _ fun e he a ha=>by
  obtain⟨x,_,rfl⟩:=List.mem_map.1 he
  simp only[intC,List.mem_singleton] at ha
  subst ha
  exact .v _
structure CzOk (b:Big) (m:Nat) (s:Cz):Prop where
  pl:s.pl.length=b.nodes.length
  es:s.es.length≤3 * m
  lo:∀ v ∈ s.pl,-1≤v∧v≤8
  num:s.num=m
theorem czOk0 (b:Big):CzOk b 0 (s0C b):=⟨by simp[s0C],by simp[s0C],fun v hv=>by have:=(List.mem_replicate.1 hv).2;omega,rfl⟩
theorem CzOk.step {sig:Sig} {b:Big} {m:Nat} {s:Cz} {k:Int} (hv:ValidB sig b) (h:CzOk b m s) (hk:0≤k∧k<b.nodes.length) (hm:m≤8):CzOk b (m+1) (stepC b s k):=by
  have h3:=hv.links3 hk
  have h4:=linksC_len2 b (at' b.nodes k).links s.es
  refine⟨by simp[stepC,h.pl],?_,fun v hx=>?_,by simp[stepC,h.num]⟩
  · have:=h.es
    simp only[stepC,chunkC]
    omega
  · have hn:=h.num
    simp only[stepC] at hx
    rcases List.mem_or_eq_of_mem_set hx with hx | rfl
    · exact h.lo v hx
    · omega
theorem CzOk.at {b:Big} {m:Nat} {s:Cz} (h:CzOk b m s) {p:Int} (hp:0≤p∧p<s.pl.length):I64 (4+at' s.pl p):=by
  have:=h.lo _ (at_mem hp)
  exact⟨by omega,by omega⟩
theorem ValidB.i64par {sig:Sig} {b:Big} (h:ValidB sig b) {i:Int} (hi:0≤i∧i<b.nodes.length):I64 (-1 - (at' b.nodes i).parent):=by
  have h1:=h.parAt hi
  have h2:=h.roots
  have h3:=h.len
  exact⟨by omega,by omega⟩
theorem ValidB.i64lnk {sig:Sig} {b:Big} (h:ValidB sig b) {i:Int} (hi:0≤i∧i<b.nodes.length):∀ l ∈ (at' b.nodes i).links,I64 (l - b.edges):=fun l hl=>by
  have h1:=h.linksAt hi l hl
  have h2:=h.edges
  have h3:=h.outer
  exact⟨by omega,by omega⟩
set_option maxRecDepth 100000 in
end
end Go.Ab.Vg
/- The reference's codes are the program's. -/
namespace Go.Ab.Vg
set_option linter.unusedSimpArgs false
set_option linter.unusedVariables false
def numsE (b:Big) (es:List Int):List Int:=(List.range b.edges.toNat).map fun l:Nat=>if (l:Int) ∈ es then ((es.idxOf (l:Int):Nat):Int) else -1
structure EsOk (b:Big) (es:List Int):Prop where
  ed:0≤b.edges∧b.edges≤8
  nd:es.Nodup
  rng:∀ x ∈ es,0≤x∧x<b.edges
theorem numsE_at {b:Big} {es:List Int} {l:Int} (h:0≤l∧l<b.edges):at' (numsE b es) l=if l ∈ es then ((es.idxOf l:Nat):Int) else -1:=by
  obtain⟨k,rfl⟩:∃ k:Nat,l=k:=⟨l.toNat,by omega⟩
  rw[at_lt (show k<(numsE b es).length by simp[numsE];omega)]
  simp[numsE]
theorem cnt_nums {b:Big} {es:List Int} (h:EsOk b es):cntZ (numsE b es)=(es.length:Int):=by
  have h1:(numsE b es).filter (fun x=>decide (0≤x))=((List.range b.edges.toNat).filter fun l:Nat=>decide ((l:Int) ∈ es)).map fun l:Nat=>((es.idxOf (l:Int):Nat):Int):=by
    rw[numsE,List.filter_map]
    generalize List.range b.edges.toNat=r
    induction r with
    | nil=>rfl
    | cons x r ih=>
      simp only[List.filter_cons,Function.comp]
      by_cases hx:(x:Int) ∈ es
      · have hx2:(0:Int)≤((es.idxOf (x:Int):Nat):Int):=by omega
        simp only[if_pos hx,hx,hx2,decide_true,if_true,List.map_cons]
        rw[ih]
      · have hx2:¬ (0:Int) ≤ -1:=by omega
        simp only[if_neg hx,hx,hx2,decide_false,Bool.false_eq_true,if_false]
        exact ih
  have h2:(((List.range b.edges.toNat).filter fun l:Nat=>decide ((l:Int) ∈ es)).map fun l:Nat=>(l:Int)).Perm es:=by
    refine (List.perm_ext_iff_of_nodup ?_ h.nd).2 fun a=>?_
    · exact List.Pairwise.map _ (fun a c hac=>by intro h;exact hac (by omega)) (List.Pairwise.filter _ List.nodup_range)
    · simp only[List.mem_map,List.mem_filter,List.mem_range,decide_eq_true_eq]
      refine⟨fun ⟨l,⟨_,h3⟩,h4⟩=>h4 ▸ h3,fun h3=>⟨a.toNat,⟨?_,?_⟩,?_⟩⟩
      · have:=h.rng a h3;omega
      · have:=h.rng a h3;rw[show ((a.toNat:Nat):Int)=a by omega];exact h3
      · have:=h.rng a h3;omega
  have h3:=h2.length_eq
  rw[cntZ,h1]
  simp only[List.length_map] at h3 ⊢
  omega
theorem nums_put {b:Big} {es:List Int} (h:EsOk b es) {l:Int} (hl:0≤l∧l<b.edges) (hm:l ∉ es):(numsE b es).set l.toNat (es.length:Int)=numsE b (es++[l]):=by
  refine List.ext_getElem (by simp[numsE]) fun i h1 h2=>?_
  simp only[numsE,List.getElem_set,List.getElem_map,List.getElem_range,List.length_set,List.length_map,List.length_range] at h1 ⊢
  by_cases he:l.toNat=i
  · have hil:(i:Int)=l:=by omega
    rw[if_pos he,hil,if_pos (by simp),List.idxOf_append,if_neg hm]
    simp
  · rw[if_neg he]
    have hil:(i:Int) ≠ l:=by omega
    by_cases hi:(i:Int) ∈ es
    · rw[if_pos hi,if_pos (by simp[hi]),List.idxOf_append,if_pos hi]
    · rw[if_neg hi,if_neg (by simp[hi,hil])]
theorem EsOk.add {b:Big} {es:List Int} (h:EsOk b es) {l:Int} (hl:0≤l∧l<b.edges) (hm:l ∉ es):EsOk b (es++[l]):=by
  refine⟨h.ed,?_,fun x hx=>?_⟩
  · rw[List.nodup_append]
    exact⟨h.nd,by simp,fun a ha c hc=>by simp only[List.mem_singleton] at hc;subst hc;exact fun e=>hm (e ▸ ha)⟩
  · rcases List.mem_append.1 hx with hx | hx
    · exact h.rng x hx
    · simp only[List.mem_singleton] at hx;subst hx;exact hl
theorem told_links {b:Big}:∀ (links es:List Int),EsOk b es→(∀ l ∈ links,0≤l)→toldZ b (numsE b es) links=((linksC b es links).1,numsE b (linksC b es links).2)∧EsOk b (linksC b es links).2
  | [],es,h,_=>⟨rfl,h⟩
  | l::t,es,h,hl=>by
    have hl0:=hl l (by simp)
    have ht:∀ x ∈ t,0≤x:=fun x hx=>hl x (by simp[hx])
    simp only[toldZ,linksC]
    by_cases h1:l ≥ b.edges
    · rw[if_pos h1,if_pos h1]
      obtain⟨e1,e2⟩:=told_links t es h ht
      exact⟨by rw[e1],e2⟩
    · have hr:0≤l∧l<b.edges:=⟨hl0,by omega⟩
      rw[if_neg h1,if_neg h1,numsE_at hr]
      by_cases h2:l ∈ es
      · rw[if_pos h2,if_pos h2,if_neg (by omega)]
        obtain⟨e1,e2⟩:=told_links t es h ht
        exact⟨by rw[e1,numsE_at hr,if_pos h2],e2⟩
      · rw[if_neg h2,if_neg h2,if_pos (by omega),cnt_nums h,nums_put h hr h2]
        obtain⟨e1,e2⟩:=told_links t (es++[l]) (h.add hr h2) ht
        refine⟨?_,e2⟩
        rw[e1,numsE_at hr,if_pos (by simp),List.idxOf_append,if_neg h2]
        simp
def cdL (b:Big) (order:List Int):Nat→List Int × Cz
  | 0=>([],s0C b)
  | i+1=>((cdL b order i).1++(chunkC b (cdL b order i).2 (at' order (i:Int))).1,stepC b (cdL b order i).2 (at' order (i:Int)))
theorem rz_cz {sig:Sig} {b:Big} {order:List Int} (hv:ValidB sig b) (ho:∀ k ∈ order,0≤k∧k<b.nodes.length):∀ i≤order.length,rzAt b order i=⟨(cdL b order i).1,numsE b (cdL b order i).2.es,(cdL b order i).2.pl⟩∧EsOk b (cdL b order i).2.es∧(cdL b order i).2.num=i
  | 0,_=>by
    refine⟨?_,⟨hv.edges,by simp[cdL,s0C],by simp[cdL,s0C]⟩,rfl⟩
    simp only[rzAt,cdL,s0C,noneZ,numsE,Rz.mk.injEq,true_and]
    refine⟨?_,by simp⟩
    simp only[List.not_mem_nil,if_false]
    rw[List.map_const',List.length_range]
  | i+1,h=>by
    obtain⟨e1,e2,e3⟩:=rz_cz hv ho i (by omega)
    have hm:=ho (at' order (i:Int)) (by rw[at_lt (show i<order.length by omega)];exact List.getElem_mem _)
    have hl:=hv.linksAt hm
    obtain⟨t1,t2⟩:=told_links (at' b.nodes (at' order (i:Int))).links _ e2 fun l hl2=>(hl l hl2).1
    refine⟨?_,t2,by simp[cdL,stepC,e3]⟩
    simp only[rzAt,cdL,rzStep,e1,chunkZ,t1,chunkC,stepC,e3]
theorem l5Code_eq {sig:Sig} {b:Big} {order:List Int} (hv:ValidB sig b) (ho:∀ k ∈ order,0≤k∧k<b.nodes.length) :
    l5Code b order=((cdL b order order.length).1++(tailC b (cdL b order order.length).2).1,numsE b (tailC b (cdL b order order.length).2).2):=by
  obtain⟨e1,e2,e3⟩:=rz_cz hv ho order.length (Nat.le_refl _)
  obtain⟨t1,t2⟩:=told_links (b.inner.map fun w=>w.link) _ e2 fun l hl=>by
    obtain⟨w,hw,rfl⟩:=List.mem_map.1 hl
    exact (hv.wires w hw).1
  simp only[l5Code,e1,tailZ,t1,tailC]
end Go.Ab.Vg
/- Attempts: the slice of none of them, and what compares codes. -/
namespace Go.Ab.Vg
set_option linter.unusedSimpArgs false
set_option linter.unusedVariables false
section
variable {P:Program} {N:Nat} {Ty:Types} {ρ:Env} {H:Heap} {n:Nat}
variable {d:Option Tmp} {ty:TypeId} {pos:String} {af:Array Edge} {gu:Option (Nat × Bool)}
theorem OpSem.slice00 (hT:TypesOk P Ty) {t:TypeId} {x hi mx:Operand} {j:TI} {L:Id} {gn sz:Nat} {els:List (List AVal)} (hk:kd Ty t = .slice j) (hx:ρ.ev x = .arr L gn 0 gn) (hL:H L=some ⟨sz,els⟩) (hg:els.length=gn)
    (hh:ρ.ev hi=int 0) (hm:ρ.ev mx=int 0) :
    OpSem P N ⟨d,.slice t x none (some hi) (some mx),ty,pos,af,gu⟩ ρ H n fun v1 H1 n1=>v1 = .list true []∧H1=H∧n1=n:=
  OpSem.pure fun c a hH g r=>by
    obtain⟨i,e,hi',hd,hj⟩:=kd_slice hk
    have hde:=(hT t i hi').run_desc c.w
    have hsz:=(hT e j hj).run_size c.w
    have rx:=r.ev x
    rw[hx] at rx
    have e1:=ev_bound r hh
    have e2:=ev_bound r hm
    have hb:∀ len cap:Nat,len≤cap→(Instr.sliceBounds true len cap none (some (a.eval hi)) (some (a.eval mx))).run P c.w = .ok (0,0,0) c.w:=fun len cap hcap=>by
      have b1:∀ cap code,(Instr.sliceBound (.int .i64 0) cap code).run P c.w = .ok 0 c.w:=fun cap code=>run_bound (by omega) (by omega)
      simp[Instr.sliceBounds,e1,e2,b1]
    generalize hvx:a.eval x=vx at rx
    cases rx with
    | arr _ _ _ _ _ hone hn hgl hp=>
      obtain⟨p1,ad,cap,rfl,hab,hsp,hlc,hoff,hcl⟩:=hp _ (by rw[hH];exact hL) hg
      have h1:=hb gn cap hlc
      refine⟨.slice (some ad) 0 0,?_,?_⟩
      · simp[execOp,Instr.sliceAt,Instr.slice,hde,hd,hvx,h1,hsz]
      · exact .list true [] ad 0 0 (fun _ _=>Go.undef) (fun h=>absurd rfl h) (Nat.le_refl _) (fun h=>absurd rfl h) (fun i e he=>by simp at he) (fun i e j x he=>by simp at he) (fun i e j x he=>by simp at he)
end
abbrev isNaNZ (_:Int):Bool:=false
def isNaNZ_wp (x:Int) (Z:Bool→Prop):Prop:=
  ∀ c2:Bool,c2=decide (x ≠ x)→Z c2
theorem isNaNZ_vc (x:Int):isNaNZ_wp x (fun y=>y=isNaNZ x):=by
  unfold isNaNZ_wp
  simp
def cmpIZ (a b:Int):Int:=if a<b then -1 else if b<a then 1 else 0
def cmpIZ_wp (x:Int) (y:Int) (Z:Int→Prop):Prop:=
  ∀ r2:Bool,r2=isNaNZ x→∀ r3:Bool,r3=isNaNZ y→((r2=true→((r3=true→Z 0)∧(r3=false→Z (-1))))∧(r2=false→((r3=true→Z 1)∧(r3=false→∀ c4:Bool,c4=decide (x<y)→((c4=true→Z (-1))∧(c4=false→∀ c6:Bool,c6=decide (y<x)→((c6=true→Z 1)∧(c6=false→Z 0))))))))
theorem cmpIZ_vc (x y:Int):cmpIZ_wp x y (fun z=>z=cmpIZ x y):=by
  unfold cmpIZ_wp
  simp only[forall_eq,decide_eq_true_eq,decide_eq_false_iff_not,isNaNZ]
  refine⟨fun h=>(by cases h),fun _=>⟨fun h=>(by cases h),fun _=>⟨fun h=>by rw[cmpIZ,if_pos h],fun h=>⟨fun h2=>by rw[cmpIZ,if_neg h,if_pos h2],fun h2=>by rw[cmpIZ,if_neg h,if_neg h2]⟩⟩⟩⟩
abbrev cmpZ_pre (a b:List Int):Prop:=a.length≤1048576∧b.length≤1048576
abbrev cmpZ (a b:List Int):Int:=cmpL a b
def cmpZ_wp (s1:List Int) (s2:List Int) (Z:Int→Prop):Prop:=
  ∀ len2:Int,len2=(s1.length:Int)→loopW (σ:=Int) (fun v6 K9=>∀ c10:Bool,c10=decide (v6<len2)→((c10=true→(0≤v6∧v6<s1.length)∧∀ x13:Int,x13=at' s1 v6→∀ len15:Int,len15=(s2.length:Int)→∀ c17:Bool,c17=decide (len15≤v6)→((c17=true→Z 1)∧(c17=false→(0≤v6∧v6<s2.length)∧∀ x20:Int,x20=at' s2 v6→∀ r23:Int,r23=cmpIZ x13 x20→∀ c24:Bool,c24=decide (r23 ≠ 0)→((c24=true→Z r23)∧(c24=false→(I64 (v6+1))∧∀ v27:Int,v27=v6+1→K9 (v27))))))∧(c10=false→∀ len29:Int,len29=(s1.length:Int)→∀ len31:Int,len31=(s2.length:Int)→∀ c33:Bool,c33=decide (len29<len31)→((c33=true→Z (-1))∧(c33=false→Z 0))))) (0)
theorem cmpZ_vc (a b:List Int) (h:cmpZ_pre a b):cmpZ_wp a b (fun z=>z=cmpZ a b):=by
  unfold cmpZ_wp
  obtain⟨h1,h2⟩:=h
  simp only[forall_eq,decide_eq_true_eq,decide_eq_false_iff_not]
  refine loopW.up1 a.length (fun i=>i≤b.length∧cmpL (a.drop i) (b.drop i)=cmpL a b) ⟨by omega,rfl⟩ ?_
  rintro i K hi ⟨hib,hI⟩ IH
  refine⟨fun h3=>⟨⟨by omega,by omega⟩,fun h4=>?_,fun h4=>⟨⟨by omega,by omega⟩,fun h5=>?_,fun h5=>⟨by simp only[I64];omega,IH (by omega) ⟨by omega,?_⟩⟩⟩⟩,fun h3=>⟨fun h4=>?_,fun h4=>?_⟩⟩
  · rw[cmpZ,← hI,List.drop_of_length_le (l:=b) (by omega),List.drop_eq_getElem_cons (show i<a.length by omega)];rfl
  · rw[cmpZ,← hI,List.drop_eq_getElem_cons (show i<a.length by omega),List.drop_eq_getElem_cons (show i<b.length by omega)]
    rw[at_lt (show i<a.length by omega),at_lt (show i<b.length by omega)] at h5 ⊢
    simp only[cmpL,cmpIZ] at h5 ⊢
    repeat' split
    all_goals first | rfl | omega | (exfalso;simp_all)
  · rw[← hI,List.drop_eq_getElem_cons (show i<a.length by omega),List.drop_eq_getElem_cons (show i<b.length by omega)]
    rw[at_lt (show i<a.length by omega),at_lt (show i<b.length by omega)] at h5
    have h6:=Classical.not_not.1 h5
    simp only[cmpIZ] at h6
    simp only[cmpL]
    split
    · rename_i h7;rw[if_pos h7] at h6;omega
    · rename_i h7
      rw[if_neg h7] at h6
      split
      · rename_i h8;rw[if_pos h8] at h6;omega
      · rfl
  · rw[cmpZ,← hI,List.drop_of_length_le (l:=a) (by omega),List.drop_eq_getElem_cons (show i<b.length by omega)];rfl
  · rw[cmpZ,← hI,List.drop_of_length_le (l:=a) (by omega),List.drop_of_length_le (l:=b) (by omega)];rfl
end Go.Ab.Vg
/- Walks by program for YtkocdlgoncmdbaaGreatDoorAbKk. -/
namespace Go.Ab.Vg
open Go.Proofs
set_option maxRecDepth 100000
set_option linter.unusedSimpArgs false
set_option linter.unusedVariables false
attribute [local simp] intC
theorem e175:Ent Tryz.prog 175:=Ent.of Tryz.func175 (by kernel_rfl) rfl
theorem isNaNZ_walk (x:Int) (Z:Bool→Prop) (h:isNaNZ_wp x Z):PureC Tryz.prog 175 [int x] (fun r=>∃ y:Bool,Z y∧r=bool y):=by
  unfold isNaNZ_wp at h
  refine PureC.of Tryz.func175 rfl Tryz.ntmps175 (by simp) fun Q hQ=>?_
  refine Runs.cut (fun ρ H n=>ρ 0=int x) (by simp[]) ?_
  rintro ρ H n1 hh
  refine zE fun k' hk'=>?_
  simp[hh]
  apply hk'
  refine zE fun k' hk'=>?_
  obtain⟨c2,ec2,h⟩:=atm h
  have f3:=ib_neq (k:=.i64) ec2
  simp[hh,f3,-intBin]
  apply hk'
  exact Runs.ret1 (v:=bool c2) Tryz.func175 Tryz.results175 (by simp[hh]) (hQ _ _ _ _ (.of (.v _)) ⟨c2,h,rfl⟩)
theorem isNaNZ_ok (x:Int)  : PureC Tryz.prog 175 [int x] (fun r=>r=bool (isNaNZ x)):=(isNaNZ_walk x _ (isNaNZ_vc x )).mono (by rintro _ ⟨_,rfl,rfl⟩;rfl)
theorem e161:Ent Tryz.prog 161:=Ent.of Tryz.func161 (by kernel_rfl) rfl
theorem cmpIZ_walk (x:Int) (y:Int) (Z:Int→Prop) (h:cmpIZ_wp x y Z):PureC Tryz.prog 161 [int x,int y] (fun r=>∃ y:Int,Z y∧r=int y):=by
  unfold cmpIZ_wp at h
  refine PureC.of Tryz.func161 rfl Tryz.ntmps161 (by simp) fun Q hQ=>?_
  refine Runs.cut (fun ρ H n=>(ρ 0=int x∧ρ 1=int y)) (by simp[]) ?_
  rintro ρ H n1 hh
  refine zE fun k' hk'=>?_
  simp[hh]
  apply hk'
  refine zE fun k' hk'=>?_
  obtain⟨r2,er2,h⟩:=atm h
  simp[hh]
  refine RunK.callA Ty_ok (isNaNZ_ok x ) e175 (.cons (.v _ _ _) .nil) (by decide) (by decide) rfl (by simp[hh]) ?_
  rintro _ rfl
  rw[← er2]
  simp[hh]
  apply hk'
  refine zE fun k' hk'=>?_
  obtain⟨r3,er3,h⟩:=atm h
  simp[hh]
  refine RunK.callA Ty_ok (isNaNZ_ok y ) e175 (.cons (.v _ _ _) .nil) (by decide) (by decide) rfl (by simp[hh]) ?_
  rintro _ rfl
  rw[← er3]
  simp[hh]
  apply hk'
  refine Runs.seq ?_
  refine zE fun k' hk'=>?_
  simp[hh]
  apply hk'
  refine Runs.ite (b:=r2) (by simp[hh]) (fun dr2=>?_) (fun dr2=>?_)
  · replace h:=h.1 dr2
    refine Runs.seq ?_
    refine zE fun k' hk'=>?_
    simp[hh,dr2]
    apply hk'
    refine Runs.ite (b:=r3) (by simp[hh,dr2]) (fun dr3=>?_) (fun dr3=>?_)
    · replace h:=h.1 dr3
      refine zE fun k' hk'=>?_
      simp[hh,dr2,dr3]
      apply hk'
      exact Runs.ret1 (v:=int 0) Tryz.func161 Tryz.results161 (by simp[hh,dr2,dr3]) (hQ _ _ _ _ (.of (.v _)) ⟨0,h,rfl⟩)
    replace h:=h.2 dr3
    refine Runs.skip ?_
    refine zE fun k' hk'=>?_
    simp[hh,dr2,dr3]
    apply hk'
    exact Runs.ret1 (v:=int (-1)) Tryz.func161 Tryz.results161 (by simp[hh,dr2,dr3]) (hQ _ _ _ _ (.of (.v _)) ⟨(-1),h,rfl⟩)
  replace h:=h.2 dr2
  refine Runs.skip ?_
  refine Runs.seq ?_
  refine zE fun k' hk'=>?_
  simp[hh,dr2]
  apply hk'
  refine Runs.ite (b:=r3) (by simp[hh,dr2]) (fun dr3=>?_) (fun dr3=>?_)
  · replace h:=h.1 dr3
    refine zE fun k' hk'=>?_
    simp[hh,dr2,dr3]
    apply hk'
    exact Runs.ret1 (v:=int 1) Tryz.func161 Tryz.results161 (by simp[hh,dr2,dr3]) (hQ _ _ _ _ (.of (.v _)) ⟨1,h,rfl⟩)
  replace h:=h.2 dr3
  refine Runs.skip ?_
  refine Runs.seq ?_
  refine zE fun k' hk'=>?_
  obtain⟨c4,ec4,h⟩:=atm h
  have f5:=ib_lss (k:=.i64) ec4
  simp[hh,f5,dr2,dr3,-intBin]
  apply hk'
  refine Runs.ite (b:=c4) (by simp[hh,dr2,dr3]) (fun dc4=>?_) (fun dc4=>?_)
  · replace h:=h.1 dc4
    refine zE fun k' hk'=>?_
    simp[hh,dr2,dr3,dc4]
    apply hk'
    exact Runs.ret1 (v:=int (-1)) Tryz.func161 Tryz.results161 (by simp[hh,dr2,dr3,dc4]) (hQ _ _ _ _ (.of (.v _)) ⟨(-1),h,rfl⟩)
  replace h:=h.2 dc4
  refine Runs.skip ?_
  refine Runs.seq ?_
  refine zE fun k' hk'=>?_
  obtain⟨c6,ec6,h⟩:=atm h
  have f7:=ib_gtr (k:=.i64) ec6
  simp[hh,f7,dr2,dr3,dc4,-intBin]
  apply hk'
  refine Runs.cut (fun ρ H n=>ρ 19=bool c6) (by simp[hh,f7,dr2,dr3,dc4,-intBin]) ?_
  clear hh
  rintro ρ H n8 hh
  refine Runs.ite (b:=c6) (by simp[hh]) (fun dc6=>?_) (fun dc6=>?_)
  · replace h:=h.1 dc6
    refine zE fun k' hk'=>?_
    simp[hh,dc6]
    apply hk'
    exact Runs.ret1 (v:=int 1) Tryz.func161 Tryz.results161 (by simp[hh,dc6]) (hQ _ _ _ _ (.of (.v _)) ⟨1,h,rfl⟩)
  replace h:=h.2 dc6
  refine Runs.skip ?_
  refine zE fun k' hk'=>?_
  simp[hh,dc6]
  apply hk'
  exact Runs.ret1 (v:=int 0) Tryz.func161 Tryz.results161 (by simp[hh,dc6]) (hQ _ _ _ _ (.of (.v _)) ⟨0,h,rfl⟩)
theorem cmpIZ_ok (x:Int) (y:Int)  : PureC Tryz.prog 161 [int x,int y] (fun r=>r=int (cmpIZ x y)):=(cmpIZ_walk x y _ (cmpIZ_vc x y )).mono (by rintro _ ⟨_,rfl,rfl⟩;rfl)
theorem e146:Ent Tryz.prog 146:=Ent.of Tryz.func146 (by kernel_rfl) rfl
theorem cmpZ_walk (s1:List Int) (s2:List Int) (Z:Int→Prop) (h:cmpZ_wp s1 s2 Z):PureC Tryz.prog 146 [.list false (s1.map intC),.list false (s2.map intC)] (fun r=>∃ y:Int,Z y∧r=int y):=by
  unfold cmpZ_wp at h
  refine PureC.of Tryz.func146 rfl Tryz.ntmps146 (by simp) fun Q hQ=>?_
  refine Runs.cut (fun ρ H n=>(ρ 0 = .list false (s1.map intC)∧ρ 1 = .list false (s2.map intC))) (by simp) ?_
  rintro ρ H n1 hh
  refine zE fun k' hk'=>?_
  simp[hh]
  apply hk'
  refine Runs.seq ?_
  refine zE fun k' hk'=>?_
  obtain⟨len2,elen2,h⟩:=atm h
  have f3:=fun H=>len_list (H:=H) (fr:=false) (f:=intC) kd_24 elen2
  simp[hh,f3,-lenF]
  apply hk'
  refine Runs.block ?_
  refine Runs.loopW h (fun (sJ:Int) ρ H n=>match sJ with | v6=>(ρ 0 = .list false (s1.map intC)∧ρ 1 = .list false (s2.map intC)∧ρ 9 = .list false (s1.map intC)∧ρ 10=int len2∧ρ 11=int v6)) (by simp[hh]) ?_
  clear hh
  rintro v6 ρ H n7 K h hh IH8
  refine zE fun k' hk'=>?_
  obtain⟨c10,ec10,h⟩:=atm h
  have f11:=ib_lss (k:=.i64) ec10
  simp[hh,f11,-intBin]
  apply hk'
  refine Runs.seq ?_
  refine Runs.ite (b:=c10) (by simp[hh]) (fun dc10=>?_) (fun dc10=>?_)
  · replace h:=h.1 dc10
    refine Runs.skip ?_
    refine Runs.seq ?_
    refine Runs.block ?_
    refine zE fun k' hk'=>?_
    obtain⟨hb12,h⟩:=h
    obtain⟨x13,ex13,h⟩:=atm h
    have f14:=fun H=>ix_list (H:=H) (fr:=false) (f:=intC) (k:=.i64) kd_24 (fun _=>rfl) hb12 ex13
    simp[hh,f14,dc10,-indexAddrF]
    apply hk'
    refine Runs.seq ?_
    refine zE fun k' hk'=>?_
    obtain⟨len15,elen15,h⟩:=atm h
    have f16:=fun H=>len_list (H:=H) (fr:=false) (f:=intC) kd_24 elen15
    obtain⟨c17,ec17,h⟩:=atm h
    have f18:=ib_geq (k:=.i64) ec17
    simp[hh,f16,f18,dc10,-intBin,-lenF]
    apply hk'
    refine Runs.ite (b:=c17) (by simp[hh,dc10]) (fun dc17=>?_) (fun dc17=>?_)
    · replace h:=h.1 dc17
      refine zE fun k' hk'=>?_
      simp[hh,dc10,dc17]
      apply hk'
      exact Runs.ret1 (v:=int 1) Tryz.func146 Tryz.results146 (by simp[hh,dc10,dc17]) (hQ _ _ _ _ (.of (.v _)) ⟨1,h,rfl⟩)
    replace h:=h.2 dc17
    refine Runs.skip ?_
    refine zE fun k' hk'=>?_
    obtain⟨hb19,h⟩:=h
    obtain⟨x20,ex20,h⟩:=atm h
    have f21:=fun H=>ix_list (H:=H) (fr:=false) (f:=intC) (k:=.i64) kd_24 (fun _=>rfl) hb19 ex20
    simp[hh,f21,dc10,dc17,-indexAddrF]
    apply hk'
    refine Runs.cut (fun ρ H n=>(ρ 0 = .list false (s1.map intC)∧ρ 1 = .list false (s2.map intC)∧ρ 6=int x13∧ρ 7=int x20∧ρ 9 = .list false (s1.map intC)∧ρ 10=int len2∧ρ 11=int v6)) (by simp[hh,f21,dc10,dc17,-indexAddrF]) ?_
    clear hh
    rintro ρ H n22 hh
    refine zE fun k' hk'=>?_
    obtain⟨r23,er23,h⟩:=atm h
    simp[hh]
    refine RunK.callA Ty_ok (cmpIZ_ok x13 x20 ) e161 (.cons (.v _ _ _) (.cons (.v _ _ _) .nil)) (by decide) (by decide) rfl (by simp[hh]) ?_
    rintro _ rfl
    rw[← er23]
    simp[hh]
    apply hk'
    refine zE fun k' hk'=>?_
    obtain⟨c24,ec24,h⟩:=atm h
    have f25:=ib_neq (k:=.i64) ec24
    simp[hh,f25,-intBin]
    apply hk'
    refine Runs.ite (b:=c24) (by simp[hh]) (fun dc24=>?_) (fun dc24=>?_)
    · replace h:=h.1 dc24
      refine zE fun k' hk'=>?_
      simp[hh,dc24]
      apply hk'
      exact Runs.ret1 (v:=int r23) Tryz.func146 Tryz.results146 (by simp[hh,dc24]) (hQ _ _ _ _ (.of (.v _)) ⟨r23,h,rfl⟩)
    replace h:=h.2 dc24
    refine Runs.skip ?_
    refine Runs.inBlock ?_
    refine zF fun k' hk'=>?_
    obtain⟨hb26,h⟩:=h
    obtain⟨v27,ev27,h⟩:=atm h
    have f28:=ib_add hb26 ev27
    simp[hh,f28,dc24,-intBin]
    apply hk'
    refine IH8 (v27) _ _ _ h (by simp[hh,dc24])
  replace h:=h.2 dc10
  refine Runs.exit rfl ?_
  refine Runs.seq ?_
  refine zE fun k' hk'=>?_
  obtain⟨len29,elen29,h⟩:=atm h
  have f30:=fun H=>len_list (H:=H) (fr:=false) (f:=intC) kd_24 elen29
  obtain⟨len31,elen31,h⟩:=atm h
  have f32:=fun H=>len_list (H:=H) (fr:=false) (f:=intC) kd_24 elen31
  obtain⟨c33,ec33,h⟩:=atm h
  have f34:=ib_lss (k:=.i64) ec33
  simp[hh,f30,f32,f34,dc10,-intBin,-lenF]
  apply hk'
  refine Runs.ite (b:=c33) (by simp[hh,dc10]) (fun dc33=>?_) (fun dc33=>?_)
  · replace h:=h.1 dc33
    refine zE fun k' hk'=>?_
    simp[hh,dc10,dc33]
    apply hk'
    exact Runs.ret1 (v:=int (-1)) Tryz.func146 Tryz.results146 (by simp[hh,dc10,dc33]) (hQ _ _ _ _ (.of (.v _)) ⟨(-1),h,rfl⟩)
  replace h:=h.2 dc33
  refine Runs.skip ?_
  refine zE fun k' hk'=>?_
  simp[hh,dc10,dc33]
  apply hk'
  exact Runs.ret1 (v:=int 0) Tryz.func146 Tryz.results146 (by simp[hh,dc10,dc33]) (hQ _ _ _ _ (.of (.v _)) ⟨0,h,rfl⟩)
theorem cmpZ_ok (s1:List Int) (s2:List Int) (hp:cmpZ_pre s1 s2):PureC Tryz.prog 146 [.list false (s1.map intC),.list false (s2.map intC)] (fun r=>r=int (cmpZ s1 s2)):=(cmpZ_walk s1 s2 _ (cmpZ_vc s1 s2 hp)).mono (by rintro _ ⟨_,rfl,rfl⟩;rfl)
end Go.Ab.Vg
/- The attempts with the least code: impl.leastOf, by hand. -/
namespace Go.Ab.Vg
set_option linter.unusedSimpArgs false
set_option linter.unusedVariables false
open Go.Proofs
abbrev AttV:=Att × AVal
def rowA (b:Big) (p:AttV):List AVal:=cdE (some (.list true (p.1.order.map intC))) b (.list true (p.1.s.es.map intC)) (.list true (p.1.s.pl.map intC)) p.2
def cEnt (ps:List AttV):List OwnE:=ps.map fun p=>oI p.2 p.1.code
def putP (out:List AttV) (x:AttV):List AttV:=
  match out with
  | []=>[x]
  | w::t=>if cmpL x.1.code w.1.code<0 then [x] else if cmpL x.1.code w.1.code=0 then (w::t)++[x] else w::t
def leastP (ps:List AttV):List AttV:=ps.foldl putP []
theorem putP_ne (out:List AttV) (x:AttV):putP out x ≠ []:=by
  cases out with
  | nil=>simp[putP]
  | cons w t=>
    simp only[putP]
    split
    · simp
    · split<;>simp
theorem putP_fst (out:List AttV) (x:AttV):(putP out x).map (·.1)=putA (out.map (·.1)) x.1:=by
  cases out with
  | nil=>rfl
  | cons w t=>
    simp only[putP,putA,List.map_cons]
    split
    · rfl
    · split
      · simp
      · rfl
theorem leastP_fst (ps:List AttV):(leastP ps).map (·.1)=leastA (ps.map (·.1)):=by
  have:∀ (ps out:List AttV),(ps.foldl putP out).map (·.1)=(ps.map (·.1)).foldl putA (out.map (·.1)):=by
    intro ps
    induction ps with
    | nil=>intro out;rfl
    | cons p ps ih=>intro out;simp only[List.foldl_cons,List.map_cons];rw[ih,putP_fst]
  exact this ps []
theorem putP_sub {out:List AttV} {x:AttV}:∀ p ∈ putP out x,p ∈ out∨p=x:=by
  intro p hp
  cases out with
  | nil=>simp only[putP,List.mem_singleton] at hp;exact .inr hp
  | cons w t=>
    simp only[putP] at hp
    split at hp
    · simp only[List.mem_singleton] at hp;exact .inr hp
    · split at hp
      · simp only[List.mem_append,List.mem_singleton] at hp;exact hp
      · exact .inl hp
theorem Sep.memOc {H:Heap} {n:Nat} {K:List OwnE} {ids:List Id} (h:Sep H n K ids) {v:AVal} {l:List Int} (he:oI v l ∈ K):Ab.one1 v=true∧cellsA v=some [v]∧ArgOk H n v (.list false (l.map intC)):=by
  obtain⟨K1,K2,rfl⟩:=List.append_of_mem he
  have h1:=Sep.front (x:=oI v l) h
  exact⟨h1.one1,h1.cells,Sep.argOk' h1 (old_listF (by intro e he a ha;obtain⟨x,_,rfl⟩:=List.mem_map.1 he;simp only[intC,List.mem_singleton] at ha;subst ha;rfl))⟩
theorem Runs.lastK {P:Program} {f:FuncId} {N:Nat} {k:List Item} {Q:AVal→Heap→Nat→Prop} {ρ:Env} {H:Heap} {n:Nat} {id:Nat} {ops:List Oper} (h:∀ k':List Item,(∀ ρ H n,Runs P f N k ρ H n Q→Runs P f N k' ρ H n Q)→RunK P f N k' Q ops.toArray ops ρ H n) :
    Runs P f N (.code (.region id ops.toArray false)::k) ρ H n Q:=Runs.region (h k fun _ _ _ h=>h)
theorem rowA_len (b:Big) (p:AttV):(rowA b p).length=10:=by simp[rowA,cdE,Big.cells]
section
variable {H:Heap} {n:Nat}
set_option maxRecDepth 100000 in
theorem leastOf_c {b:Big} {ps:List AttV} {K:List OwnE} {ids:List Id} {L:Id} (hne:ps ≠ []) (hL:H L=some ⟨10,ps.map (rowA b)⟩) (hc:∀ p ∈ ps,p.1.code.length≤1048576) (hlen:ps.length≤536870912) (sp:Sep H n (cEnt ps++K) (L::ids)) (hLi:L ∉ ids) :
    CallsA Tryz.prog 144 [.arr L ps.length 0 ps.length] H n (fun r H1 n1=>∃ O,r = .arr O (leastP ps).length 0 (leastP ps).length∧H1 O=some ⟨10,(leastP ps).map (rowA b)⟩∧O ∉ L::ids ∧
      Sep H1 n1 (cEnt ps++K) (O::L::ids)∧(∀ i ∈ L::ids,H1 i=H i)∧n≤n1):=by
  refine CallsA.of Tryz.func144 rfl Tryz.ntmps144 (by simp) fun Q hQ=>?_
  refine Runs.seqE Ty_ok (by decide) fun k' hk'=>?_
  simp
  apply hk'
  refine Runs.seqE Ty_ok (by decide) fun k' hk'=>?_
  simp
  refine RunK.op Ty_ok (by decide) (by decide) rfl (OpSem.slice00 Ty_ok (L:=L) (gn:=ps.length) kd_156 (by simp) hL (by simp) (by simp) (by simp)) ?_
  rintro _ H n ⟨rfl,rfl,rfl⟩
  simp
  apply hk'
  refine Runs.seq ?_
  refine Runs.seqE Ty_ok (by decide) fun k' hk'=>?_
  simp[hL]
  apply hk'
  refine Runs.block (Runs.loopUp ps.length (fun i ρ Hi ni=>ρ 9 = .arr L ps.length 0 ps.length∧ρ 10=int ps.length∧ρ 11=int i∧n≤ni∧(∀ j ∈ L::ids,Hi j=H j) ∧
      (((ps.take i).foldl putP []=[]∧ρ 3 = .list true []∧Sep Hi ni (cEnt ps++K) (L::ids)) ∨
       ∃ O,(ps.take i).foldl putP [] ≠ []∧ρ 3 = .arr O ((ps.take i).foldl putP []).length 0 ((ps.take i).foldl putP []).length∧Hi O=some ⟨10,((ps.take i).foldl putP []).map (rowA b)⟩∧O ∉ L::ids∧Sep Hi ni (cEnt ps++K) (O::L::ids)))
    ⟨by simp,by simp,by simp,Nat.le_refl _,fun _ _=>rfl,.inl ⟨by simp,by simp,sp⟩⟩ ?_)
  clear hk' sp
  rintro i ρ Hi ni hi ⟨r9,r10,r11,hni,fri,hout⟩ IH
  refine Runs.seqE Ty_ok (by decide) fun k' hk'=>?_
  simp[r10,r11]
  apply hk'
  refine Runs.seq ?_
  refine Runs.ite rfl (fun hc1=>?_) (fun hc1=>?_)
  · have hc1:i<ps.length:=by simpa using hc1
    refine Runs.skip ?_
    refine Runs.seq ?_
    refine Runs.block ?_
    have htk:(ps.take (i+1)).foldl putP []=putP ((ps.take i).foldl putP []) ps[i]:=by rw[← List.take_append_getElem hc1,List.foldl_append];rfl
    have hpm:ps[i] ∈ ps:=List.getElem_mem hc1
    have hLi2:Hi L=some ⟨10,ps.map (rowA b)⟩:=(fri L (by simp)).trans hL
    have hoc:Ab.one1 ps[i].2=true∧cellsA ps[i].2=some [ps[i].2]:=by
      rcases hout with ⟨_,_,sp⟩ | ⟨O,_,_,_,_,sp⟩
      · have:=Sep.memOc sp (v:=ps[i].2) (l:=ps[i].1.code) (List.mem_append_left _ (List.mem_map.2 ⟨_,hpm,rfl⟩));exact⟨this.1,this.2.1⟩
      · have:=Sep.memOc sp (v:=ps[i].2) (l:=ps[i].1.code) (List.mem_append_left _ (List.mem_map.2 ⟨_,hpm,rfl⟩));exact⟨this.1,this.2.1⟩
    generalize hp:ps[i]=p at htk hpm hoc
    have hrow:(ps.map (rowA b))[i]?=some (rowA b p):=by rw[List.getElem?_map,List.getElem?_eq_getElem hc1,hp];rfl
    refine Runs.seqE Ty_ok (by decide) fun k' hk'=>?_
    have hX1:∀ i ∈ L::ids,i.1<ni:=by
      rcases hout with ⟨_,_,sp⟩ | ⟨O,_,_,_,_,sp⟩
      · exact sp.1
      · exact fun i hi=>sp.1 i (List.mem_cons_of_mem _ hi)
    simp[r9,r11,hLi2,hc1,hrow,hp,rowA,cdE,Big.cells,encN,encI,encS,encW,hoc,-cellsA,-one1,cAx,o1x]
    apply hk'
    refine Runs.seqE Ty_ok (by decide) fun k' hk'=>?_
    simp
    apply hk'
    generalize hout0:(ps.take i).foldl putP []=outs at hout htk
    refine Runs.cut (fun ρ Hi nj=>ρ 5 = .ptr (ni,5) 1 0 0∧ρ 6=int (-1)∧ρ 9 = .arr L ps.length 0 ps.length∧ρ 10=int ps.length∧ρ 11=int i∧n≤nj∧Hi (ni,5)=some ⟨10,[rowA b p]⟩∧(∀ j ∈ L::ids,Hi j=H j) ∧
      ((outs=[]∧ρ 3 = .list true []∧Sep Hi nj (cEnt ps++K) ((ni,5)::L::ids)) ∨
       ∃ O,outs ≠ []∧ρ 3 = .arr O outs.length 0 outs.length∧Hi O=some ⟨10,outs.map (rowA b)⟩∧O ∉ L::ids∧O ≠ (ni,5)∧Sep Hi nj (cEnt ps++K) ((ni,5)::O::L::ids)))
      ⟨by simp,by simp,by simp[r9],by simp[r10],by simp[r11],by omega,by simp[rowA,cdE,Big.cells,encN,encI,encS,encW],fun j hj=>?_,?_⟩ ?_
    · rw[Heap.get_set_ne _ _ (by rintro rfl;have:=hX1 _ hj;simp at this)];exact fri j hj
    · rcases hout with ⟨h0,r3,sp⟩ | ⟨O,h0,r3,mO,hO,sp⟩
      · exact .inl ⟨h0,by simp[r3],Sep.var sp⟩
      · have hOn:O ≠ (ni,5):=by rintro rfl;have:=sp.1 (ni,5) (by simp);simp at this
        exact .inr ⟨O,h0,by simp[r3],by rw[Heap.get_set_ne _ _ hOn];exact mO,hO,hOn,Sep.var sp⟩
    clear hk' r9 r10 r11 hLi2 fri hout hni
    rintro ρ Hi nj ⟨r5,r6,r9,r10,r11,hni,mX,fri,hout⟩
    cases outs with
    | nil=>
      rcases hout with ⟨_,r3,sp⟩ | ⟨O,h0,_⟩
      · refine Runs.seq ?_
        refine Runs.seqE Ty_ok (by decide) fun k' hk'=>?_
        simp[r3]
        apply hk'
        refine Runs.ite rfl (fun hc3=>?_) (fun _=>?_)
        · cases hc3
        refine Runs.skip ?_
        refine Runs.block ?_
        refine Runs.seqE Ty_ok (by decide) fun k' hk'=>?_
        simp[r6]
        apply hk'
        refine Runs.ite rfl (fun _=>?_) (fun hc3=>?_)
        · have hput:putP [] p=[p]:=rfl
          refine Runs.lastK fun k' hk'=>?_
          refine RunK.same1 (v:=.agg (rowA b p)) Ty_ok (by decide) rfl (by simp[r5,mX,rowA_len,List.take_of_length_le]) ?_
          refine RunK.op Ty_ok (by decide) (by decide) rfl (ownF_ok (v:=.arr (nj,31) 1 0 1) (H':=Hi.set (nj,31) ⟨10,[rowA b p]⟩) (n':=nj+1) Ty_ok (by simp[ownF,rowA,cdE,Big.cells,encN,encI,encS,encW,List.range_succ])).1 ?_
          rintro _ _ _ ⟨rfl,rfl,rfl⟩
          simp
          apply hk'
          refine Runs.inBlock ?_
          refine Runs.inBlock ?_
          refine Runs.evalE Ty_ok (by decide) fun k' hk'=>?_
          have f2:=ib_add (show I64 ((i:Int)+1) by simp only[I64];omega) (show ((i+1:Nat):Int)=(i:Int)+1 by omega)
          simp[r11,f2,-intBin]
          apply hk'
          have hOn:(nj,31) ∉ L::ids:=fun h=>by have:=sp.1 (nj,31) (by simp only[List.mem_cons] at h ⊢;exact .inr h);simp at this
          refine IH hc1 _ _ _ ⟨by simp[r9],by simp[r10],by simp,by omega,fun j hj=>by rw[Heap.get_set_ne _ _ (show j ≠ (nj,31) from fun h=>hOn (h ▸ hj))];exact fri j hj,.inr ⟨(nj,31),by rw[htk,hput];simp,by rw[htk,hput];simp,by rw[htk,hput];simp,hOn,?_⟩⟩
          exact Sep.sub (Sep.var sp) (by simp +contextual)
        · cases hc3
      · exact absurd rfl h0
    | cons w t=>
      rcases hout with ⟨h0,_⟩ | ⟨O,_,r3,mO,hO,hOX,sp⟩
      · cases h0
      · have hwm:w ∈ ps:=by
          have hs:∀ (l out:List AttV),∀ q ∈ l.foldl putP out,q ∈ out∨q ∈ l:=by
            intro l
            induction l with
            | nil=>intro out q hq;exact .inl hq
            | cons x l ih=>
              intro out q hq
              rcases ih _ q hq with h | h
              · rcases putP_sub q h with h | rfl
                · exact .inl h
                · exact .inr (by simp)
              · exact .inr (by simp[h])
          rcases hs (ps.take i) [] w (by rw[hout0];simp) with h | h
          · cases h
          · exact List.mem_of_mem_take h
        have hlt:(w::t).length≤i:=by
          have hs:∀ (l out:List AttV),(l.foldl putP out).length≤out.length+l.length:=by
            intro l
            induction l with
            | nil=>intro out;simp
            | cons x l ih=>
              intro out
              have h1:=ih (putP out x)
              have h2:(putP out x).length≤out.length+1:=by
                cases out with
                | nil=>simp[putP]
                | cons w t=>
                  simp only[putP]
                  split
                  · simp
                  · split<;>simp
              simp only[List.foldl_cons,List.length_cons]
              omega
          have:=hs (ps.take i) []
          rw[hout0] at this
          simp only[List.length_nil,List.length_take] at this
          omega
        have hpe:=Sep.memOc sp (v:=p.2) (l:=p.1.code) (List.mem_append_left _ (List.mem_map.2 ⟨_,hpm,rfl⟩))
        have hwe:=Sep.memOc sp (v:=w.2) (l:=w.1.code) (List.mem_append_left _ (List.mem_map.2 ⟨_,hwm,rfl⟩))
        refine Runs.seq ?_
        refine Runs.seqE Ty_ok (by decide) fun k' hk'=>?_
        simp[r3,mO]
        apply hk'
        refine Runs.ite rfl (fun _=>?_) (fun hc3=>?_)
        · refine Runs.evalDE Ty_ok kindOp_ok draws (by decide) (by kernel_rfl) fun k' hk'=>?_
          simp[r5,r3,mX,mO,rowA,cdE,Big.cells]
          refine RunDK.callA Ty_ok kindOp_ok (cmpZ_ok p.1.code w.1.code ⟨hc _ hpm,hc _ hwm⟩) e146 (.cons hpe.2.2 (.cons hwe.2.2 .nil)) (by decide) rfl (by simp) ?_
          simp
          apply hk'
          refine Runs.block ?_
          refine Runs.seqE Ty_ok (by decide) fun k' hk'=>?_
          simp
          apply hk'
          refine Runs.ite rfl (fun hc4=>?_) (fun hc4=>?_)
          · have hc4:cmpL p.1.code w.1.code<0:=by simpa using hc4
            have hput:putP (w::t) p=[p]:=by simp only[putP];rw[if_pos hc4]
            refine Runs.lastK fun k' hk'=>?_
            refine RunK.same1 (v:=.agg (rowA b p)) Ty_ok (by decide) rfl (by simp[r5,mX,rowA_len,List.take_of_length_le]) ?_
            refine RunK.op Ty_ok (by decide) (by decide) rfl (ownF_ok (v:=.arr (nj,31) 1 0 1) (H':=Hi.set (nj,31) ⟨10,[rowA b p]⟩) (n':=nj+1) Ty_ok (by simp[ownF,rowA,cdE,Big.cells,encN,encI,encS,encW,List.range_succ])).1 ?_
            rintro _ _ _ ⟨rfl,rfl,rfl⟩
            simp
            apply hk'
            refine Runs.inBlock ?_
            refine Runs.inBlock ?_
            refine Runs.evalE Ty_ok (by decide) fun k' hk'=>?_
            have f2:=ib_add (show I64 ((i:Int)+1) by simp only[I64];omega) (show ((i+1:Nat):Int)=(i:Int)+1 by omega)
            simp[r11,f2,-intBin]
            apply hk'
            have hOn:(nj,31) ∉ L::ids:=fun h=>by have:=sp.1 (nj,31) (by simp only[List.mem_cons] at h ⊢;exact .inr (.inr h));simp at this
            refine IH hc1 _ _ _ ⟨by simp[r9],by simp[r10],by simp,by omega,fun j hj=>by rw[Heap.get_set_ne _ _ (show j ≠ (nj,31) from fun h=>hOn (h ▸ hj))];exact fri j hj,.inr ⟨(nj,31),by rw[htk,hput];simp,by rw[htk,hput];simp,by rw[htk,hput];simp,hOn,?_⟩⟩
            exact Sep.sub (Sep.var sp) (by simp +contextual)
          · have hc4:¬ cmpL p.1.code w.1.code<0:=by simpa using hc4
            refine Runs.seqE Ty_ok (by decide) fun k' hk'=>?_
            simp
            apply hk'
            refine Runs.ite rfl (fun hc5=>?_) (fun hc5=>?_)
            · have hc5:cmpL p.1.code w.1.code=0:=by simpa using hc5
              have hput:putP (w::t) p=(w::t)++[p]:=by simp only[putP];rw[if_neg hc4,if_pos hc5]
              have hbig:t.length+1+1≤1073741824:=by simp only[List.length_cons] at hlt;omega
              refine Runs.evalE Ty_ok (by decide) fun k' hk'=>?_
              simp[r3,r5,mX,mO,rowA,cdE,Big.cells,encN,encI,encS,encW,hpe.1,hpe.2.1,List.range_succ,hbig,-cellsA,-one1,cAx,o1x]
              apply hk'
              refine Runs.inBlock ?_
              refine Runs.inBlock ?_
              refine Runs.evalE Ty_ok (by decide) fun k' hk'=>?_
              have f2:=ib_add (show I64 ((i:Int)+1) by simp only[I64];omega) (show ((i+1:Nat):Int)=(i:Int)+1 by omega)
              simp[r11,f2,-intBin]
              apply hk'
              refine IH hc1 _ _ _ ⟨by simp[r9],by simp[r10],by simp,by omega,fun j hj=>by rw[Heap.get_set_ne _ _ (show j ≠ O from fun h=>hO (h ▸ hj))];exact fri j hj,.inr ⟨O,by rw[htk,hput];simp,by rw[htk,hput];simp,by rw[htk,hput];simp[rowA,cdE,Big.cells,encN,encI,encS,encW],hO,?_⟩⟩
              exact Sep.sub (Sep.setVar sp (by simp)) (by simp +contextual)
            · have hc5:¬ cmpL p.1.code w.1.code=0:=by simpa using hc5
              have hput:putP (w::t) p=w::t:=by simp only[putP];rw[if_neg hc4,if_neg hc5]
              refine Runs.skip ?_
              refine Runs.inBlock ?_
              refine Runs.inBlock ?_
              refine Runs.evalE Ty_ok (by decide) fun k' hk'=>?_
              have f2:=ib_add (show I64 ((i:Int)+1) by simp only[I64];omega) (show ((i+1:Nat):Int)=(i:Int)+1 by omega)
              simp[r11,f2,-intBin]
              apply hk'
              refine IH hc1 _ _ _ ⟨by simp[r9],by simp[r10],by simp,by omega,fri,.inr ⟨O,by rw[htk,hput];simp,by rw[htk,hput];simp[r3],by rw[htk,hput];exact mO,hO,?_⟩⟩
              exact Sep.sub sp (by simp +contextual)
        · simp at hc3
  · have hc2:¬ i<ps.length:=by simpa using hc1
    have hc1:i=ps.length:=by omega
    subst hc1
    refine Runs.exit rfl ?_
    rw[List.take_length] at hout
    refine Runs.seqE Ty_ok (by decide) fun k' hk'=>?_
    simp
    apply hk'
    rcases hout with ⟨h0,_,_⟩ | ⟨O,h0,r3,mO,hO,sp⟩
    · exfalso
      have:∀ l:List AttV,l ≠ []→l.foldl putP [] ≠ []:=fun l hl=>by
        obtain⟨l',x,rfl⟩:∃ l' x,l=l'++[x]:=⟨l.dropLast,l.getLast hl,(List.dropLast_concat_getLast hl).symm⟩
        rw[List.foldl_append]
        exact putP_ne _ _
      exact this ps hne h0
    · exact Runs.ret1 (v:=.arr O (leastP ps).length 0 (leastP ps).length) Tryz.func144 Tryz.results144 (by simp[r3,leastP]) (hQ _ _ _ ⟨O,rfl,mO,hO,sp,fri,hni⟩)
end
end Go.Ab.Vg
/- The layers of attempts: what is owned, how many there are. -/
namespace Go.Ab.Vg
set_option linter.unusedSimpArgs false
set_option linter.unusedVariables false
theorem Sep.sublist {H:Heap} {n:Nat} {ids:List Id} {K K':List OwnE} (h:K'.Sublist K):∀ A:List OwnE,Sep H n (A++K) ids→Sep H n (A++K') ids:=by
  induction h with
  | slnil=>exact fun _ h=>h
  | cons a _ ih=>
    intro A hs
    exact ih A (Sep.dr (Sep.front (x:=a) hs))
  | cons_cons a _ ih=>
    intro A hs
    have:=ih (A++[a]) (by simpa using hs)
    simpa using this
theorem putP_subl {l out:List AttV} {x:AttV} (h:out.Sublist l):(putP out x).Sublist (l++[x]):=by
  cases out with
  | nil=>simp[putP]
  | cons w t=>
    simp only[putP]
    split
    · simp
    · split
      · exact List.Sublist.append h (List.Sublist.refl _)
      · exact h.trans (List.sublist_append_left _ _)
theorem leastP_subl (ps:List AttV):(leastP ps).Sublist ps:=by
  have:∀ (l pre out:List AttV),out.Sublist pre→(l.foldl putP out).Sublist (pre++l):=by
    intro l
    induction l with
    | nil=>intro pre out h;simpa using h
    | cons x l ih=>
      intro pre out h
      have:=ih (pre++[x]) (putP out x) (putP_subl h)
      simpa using this
  have h:=this ps [] [] (List.Sublist.refl _)
  rw[List.nil_append] at h
  exact h
def layN (b:Big):Nat→List Att
  | 0=>[⟨[],s0C b,[]⟩]
  | m+1=>leastA ((layN b m).flatMap (extC b))
theorem layersC_snoc (b:Big):∀ (m:Nat) (l:List Att),layersC b (m+1) l=leastA ((layersC b m l).flatMap (extC b))
  | 0,l=>rfl
  | m+1,l=>by rw[layersC,layersC_snoc b m];rfl
theorem layN_eq (b:Big):∀ m,layN b m=layersC b m [⟨[],s0C b,[]⟩]
  | 0=>rfl
  | m+1=>by rw[layN,layN_eq b m,layersC_snoc]
structure AttOk (b:Big) (m:Nat) (a:Att):Prop where
  s:CzOk b m a.s
  ord:a.order.length=m
  code:a.code.length≤5 * m
  mem:∀ k:Int,0≤k∧k<b.nodes.length→(k ∈ a.order↔0≤at' a.s.pl k)
theorem leastA_sub {l:List Att} {x:Att} (h:x ∈ leastA l):x ∈ l:=(mem_leastA.1 h).1
theorem attOk_ext {sig:Sig} {b:Big} (hv:ValidB sig b) {m:Nat} (hm:m≤8) {a x:Att} (h:AttOk b m a) (hx:x ∈ extC b a):AttOk b (m+1) x:=by
  simp only[extC,List.mem_map] at hx
  obtain⟨k,hk,rfl⟩:=hx
  have hr:=(mem_freeC.1 hk).1
  refine⟨h.s.step hv hr hm,by simp[h.ord],?_,fun j hj=>?_⟩
  rotate_left
  · have hkl:0≤k∧k<a.s.pl.length:=by rw[h.s.pl];exact hr
    simp only[stepC,List.mem_append,List.mem_singleton,at'_set hj.1 hkl]
    have:=h.mem j hj
    have hn:=h.s.num
    split
    · rename_i e;subst e;simp
    · rename_i e;rw[this];simp[e]
  have h3:=hv.links3 hr
  have h4:(linksC b a.s.es (at' b.nodes k).links).1.length=(at' b.nodes k).links.length:=linksC_len _ _
  have h5:=h.code
  simp only[chunkC,List.length_append,List.length_cons]
  omega
theorem layN_ok {sig:Sig} {b:Big} (hv:ValidB sig b):∀ m≤b.nodes.length,∀ a ∈ layN b m,AttOk b m a
  | 0,_,a,ha=>by
    rw[List.mem_singleton.1 ha]
    refine⟨czOk0 b,rfl,by simp,fun k hk=>?_⟩
    have e:at' (s0C b).pl k = -1:=by
      obtain⟨h1,h2⟩:=at_eq (l:=(s0C b).pl) (i:=k) (by simpa[s0C] using hk)
      rw[h2];simp[s0C]
    simp only[e,List.not_mem_nil,false_iff];omega
  | m+1,hm,a,ha=>by
    have hn:=hv.len
    obtain⟨x,hx,h2⟩:=List.mem_flatMap.1 (leastA_sub ha)
    exact attOk_ext hv (by omega) (layN_ok hv m (by omega) x hx) h2
theorem ext_len {b:Big} (hn:b.nodes.length≤8) (a:Att):(extC b a).length≤8:=by
  have h1:(freeC b a.s.pl).length≤b.nodes.length:=by
    refine Nat.le_trans (List.length_filter_le _ _) ?_
    simp
  simp only[extC,List.length_map];omega
theorem flat_len {b:Big} (hn:b.nodes.length≤8):∀ l:List Att,(l.flatMap (extC b)).length≤8 * l.length
  | []=>by simp
  | a::l=>by
    have h1:=flat_len hn l
    have h2:=ext_len hn a
    simp only[List.flatMap_cons,List.length_append,List.length_cons];omega
theorem leastA_len:∀ l:List Att,(leastA l).length≤l.length:=by
  have:∀ (l out:List Att),(l.foldl putA out).length≤out.length+l.length:=by
    intro l
    induction l with
    | nil=>intro out;simp
    | cons x l ih=>
      intro out
      have h1:=ih (putA out x)
      have h2:(putA out x).length≤out.length+1:=by
        cases out with
        | nil=>simp[putA]
        | cons w t=>
          simp only[putA]
          split
          · simp
          · split<;>simp
      simp only[List.foldl_cons,List.length_cons];omega
  intro l
  have h:=this l []
  rw[List.length_nil,Nat.zero_add] at h
  exact h
theorem layN_len {b:Big} (hn:b.nodes.length≤8):∀ m,(layN b m).length≤8 ^ m
  | 0=>by simp[layN]
  | m+1=>by
    have h1:=layN_len hn m
    have h2:=flat_len hn (layN b m)
    have h3:=leastA_len ((layN b m).flatMap (extC b))
    rw[layN,Nat.pow_succ];omega
theorem layN_lay {b:Big} (he:Even b) (hd:Downs b):∀ m≤b.nodes.length,Lay b (b.nodes.length - m) (layN b m)∧layN b m ≠ []
  | 0,_=>⟨lay0,by simp[layN]⟩
  | m+1,hm=>by
    obtain⟨h1,h2⟩:=layN_lay he hd m (by omega)
    obtain⟨q,hq⟩:∃ q,b.nodes.length - m=q+1:=⟨b.nodes.length - (m+1),by omega⟩
    rw[hq] at h1
    have hq2:b.nodes.length - (m+1)=q:=by omega
    rw[hq2]
    refine⟨lay_least hd (lay_ext he h1),leastA_ne ?_⟩
    obtain⟨a,ha⟩:=List.exists_mem_of_ne_nil _ h2
    obtain⟨k,hk⟩:=free_some hd (h1.fit a ha)
    intro h
    have:(⟨a.order++[k],stepC b a.s k,a.code++(chunkC b a.s k).1⟩:Att) ∈ (layN b m).flatMap (extC b):=List.mem_flatMap.2 ⟨a,ha,List.mem_map.2 ⟨k,hk,rfl⟩⟩
    rw[h] at this
    cases this
theorem flat_ne {b:Big} (he:Even b) (hd:Downs b) {m:Nat} (hm:m<b.nodes.length):(layN b m).flatMap (extC b) ≠ []:=fun h=>(layN_lay he hd (m+1) hm).2 (by rw[layN,h];rfl)
end Go.Ab.Vg
/- Children of a place: pure conditions of (impl.Bigraph).childrenOf, spec.l2Kids and spec.l2Holes. -/
namespace Go.Ab.Vg
set_option linter.unusedSimpArgs false
set_option linter.unusedVariables false
def kidsB (b:Big) (p:Int):List Int:=idxs b.nodes (fun x=>decide (x.parent=p)) b.nodes.length
def holesB (b:Big) (p:Int):List Int:=idxs b.sites (fun x=>decide (x=p)) b.sites.length
abbrev l2Kids (b:Big) (p:Int):=kidsB b p
abbrev l2Kids_pre (b:Big) (_:Int):Prop:=b.nodes.length≤1048576
def l2Kids_wp (b:Big) (parent:Int) (Z:(List Int)→Prop):Prop:=
  loopW (σ:=Int × (List Int)) (fun (i14,l15) K19=>∀ len20:Int,len20=(b.nodes.length:Int)→∀ c22:Bool,c22=decide (i14<len20)→((c22=true→(0≤i14∧i14<b.nodes.length)∧∀ x25:GNode,x25=at' b.nodes i14→∀ c27:Bool,c27=decide (x25.parent=parent)→((c27=true→(l15.length+1≤1073741824)∧∀ l30:List Int,l30=l15++[i14]→(I64 (i14+1))∧∀ v40:Int,v40=i14+1→K19 (v40,l30))∧(c27=false→(I64 (i14+1))∧∀ v43:Int,v43=i14+1→K19 (v43,l15))))∧(c22=false→Z l15))) (0,([]:List Int))
theorem l2Kids_vc (b:Big) (p:Int) (h:l2Kids_pre b p):l2Kids_wp b p (fun y=>y=l2Kids b p):=by
  unfold l2Kids_wp
  refine loopW.upL b.nodes.length (fun k out=>out=idxs b.nodes (fun x=>decide (x.parent=p)) k) [] rfl ?_
  rintro k out K hk rfl IH
  have hl:=idxs_len b.nodes (fun x=>decide (x.parent=p)) k
  simp only[l2Kids_pre] at h
  simp only[forall_eq,decide_eq_true_eq,decide_eq_false_iff_not,I64]
  refine⟨fun h1=>⟨by omega,fun h2=>⟨by omega,by omega,?_⟩,fun h2=>⟨by omega,?_⟩⟩,fun h1=>?_⟩
  · exact IH (by omega) _ (idxs_yes _ _ (by simpa using h2)).symm
  · exact IH (by omega) _ (idxs_no _ _ (by simpa using h2)).symm
  · rw[show k=b.nodes.length by omega];rfl
abbrev l2Holes (b:Big) (p:Int):=holesB b p
abbrev l2Holes_pre (b:Big) (_:Int):Prop:=b.sites.length≤1048576
def l2Holes_wp (b:Big) (parent:Int) (Z:(List Int)→Prop):Prop:=
  loopW (σ:=Int × (List Int)) (fun (i14,l15) K19=>∀ len20:Int,len20=(b.sites.length:Int)→∀ c22:Bool,c22=decide (i14<len20)→((c22=true→(0≤i14∧i14<b.sites.length)∧∀ x25:Int,x25=at' b.sites i14→∀ c27:Bool,c27=decide (x25=parent)→((c27=true→(l15.length+1≤1073741824)∧∀ l30:List Int,l30=l15++[i14]→(I64 (i14+1))∧∀ v40:Int,v40=i14+1→K19 (v40,l30))∧(c27=false→(I64 (i14+1))∧∀ v43:Int,v43=i14+1→K19 (v43,l15))))∧(c22=false→Z l15))) (0,([]:List Int))
theorem l2Holes_vc (b:Big) (p:Int) (h:l2Holes_pre b p):l2Holes_wp b p (fun y=>y=l2Holes b p):=by
  unfold l2Holes_wp
  refine loopW.upL b.sites.length (fun k out=>out=idxs b.sites (fun x=>decide (x=p)) k) [] rfl ?_
  rintro k out K hk rfl IH
  have hl:=idxs_len b.sites (fun x=>decide (x=p)) k
  simp only[l2Holes_pre] at h
  simp only[forall_eq,decide_eq_true_eq,decide_eq_false_iff_not,I64]
  refine⟨fun h1=>⟨by omega,fun h2=>⟨by omega,by omega,?_⟩,fun h2=>⟨by omega,?_⟩⟩,fun h1=>?_⟩
  · exact IH (by omega) _ (idxs_yes _ _ (by simpa using h2)).symm
  · exact IH (by omega) _ (idxs_no _ _ (by simpa using h2)).symm
  · rw[show k=b.sites.length by omega];rfl
end Go.Ab.Vg
/- The reference's order of the canonical form. -/
namespace Go.Ab.Vg
set_option linter.unusedSimpArgs false
set_option linter.unusedVariables false
abbrev lessZ (a b:List Int):Bool:=decide (cmpL a b<0)
abbrev lessZ_pre (a b:List Int):Prop:=a.length≤1048576∧b.length≤1048576
def lessZ_wp (a:List Int) (b:List Int) (Z:Bool→Prop):Prop:=
  loopW (σ:=Int) (fun i4 K7=>joinW (fun (J8:Bool→Prop)=>∀ len42:Int,len42=(a.length:Int)→∀ c44:Bool,c44=decide (i4<len42)→((c44=true→∀ len46:Int,len46=(b.length:Int)→∀ c48:Bool,c48=decide (i4<len46)→J8 (c48))∧(c44=false→J8 (false)))) (fun b11=>((b11=true→(0≤i4∧i4<a.length)∧∀ x15:Int,x15=at' a i4→(0≤i4∧i4<b.length)∧∀ x18:Int,x18=at' b i4→∀ c20:Bool,c20=decide (x15 ≠ x18)→((c20=true→(0≤i4∧i4<a.length)∧∀ x23:Int,x23=at' a i4→(0≤i4∧i4<b.length)∧∀ x27:Int,x27=at' b i4→∀ c30:Bool,c30=decide (x15<x18)→Z c30)∧(c20=false→(I64 (i4+1))∧∀ v34:Int,v34=i4+1→K7 (v34))))∧(b11=false→∀ len36:Int,len36=(a.length:Int)→∀ len38:Int,len38=(b.length:Int)→∀ c40:Bool,c40=decide (len36<len38)→Z c40)))) (0)
theorem lessZ_vc (a b:List Int) (h:lessZ_pre a b):lessZ_wp a b (fun y=>y=lessZ a b):=by
  unfold lessZ_wp
  obtain⟨h1,h2⟩:=h
  refine loopW.up1 (min a.length b.length) (fun k=>k≤a.length∧k≤b.length∧cmpL a b=cmpL (a.drop k) (b.drop k)) ⟨by omega,by omega,rfl⟩ ?_
  rintro k K hk ⟨ha,hb,hI⟩ IH
  simp only[forall_eq,decide_eq_true_eq,decide_eq_false_iff_not,I64,lessZ]
  refine⟨fun c=>c=decide (k<a.length∧k<b.length),⟨fun h3=>by simp[show k<a.length by omega],fun h3=>by simp[show ¬ k<a.length by omega]⟩,?_⟩
  rintro _ rfl
  simp only[decide_eq_true_eq,decide_eq_false_iff_not]
  refine⟨fun h3=>⟨by omega,by omega,fun h4=>⟨by omega,by omega,?_⟩,fun h4=>⟨by omega,IH (by omega) ⟨by omega,by omega,?_⟩⟩⟩,fun h3=>?_⟩
  · rw[hI,drop_at h3.1,drop_at h3.2,cmpL]
    by_cases h5:at' a (k:Int)<at' b (k:Int)
    · simp[h5]
    · rw[if_neg h5,if_pos (by omega)];simp[h5]
  · rw[hI,drop_at h3.1,drop_at h3.2,cmpL,if_neg (by omega),if_neg (by omega)]
  · rw[hI]
    rcases Nat.lt_or_ge k a.length with h5 | h5
    · rw[show k=b.length by omega,List.drop_length,drop_at (by omega:b.length<a.length)]
      simp[cmpL,show ¬ (a.length:Int)<b.length by omega]
    · rw[show k=a.length by omega,List.drop_length]
      rcases Nat.lt_or_ge a.length b.length with h6 | h6
      · rw[drop_at h6];simp[cmpL,h6]
      · rw[List.drop_eq_nil_of_le h6];simp[cmpL,show ¬ (a.length:Int)<b.length by omega]
abbrev sameZ (a b:List Int):Bool:=decide (a=b)
abbrev sameZ_pre (a b:List Int):Prop:=a.length≤1048576
def sameZ_wp (a:List Int) (b:List Int) (Z:Bool→Prop):Prop:=
  ∀ len2:Int,len2=(a.length:Int)→∀ len4:Int,len4=(b.length:Int)→∀ c6:Bool,c6=decide (len2 ≠ len4)→((c6=true→Z false)∧(c6=false→loopW (σ:=Int) (fun i10 K13=>∀ len14:Int,len14=(a.length:Int)→∀ c16:Bool,c16=decide (i10<len14)→((c16=true→(0≤i10∧i10<a.length)∧∀ x19:Int,x19=at' a i10→(0≤i10∧i10<b.length)∧∀ x22:Int,x22=at' b i10→∀ c24:Bool,c24=decide (x19 ≠ x22)→((c24=true→Z false)∧(c24=false→(I64 (i10+1))∧∀ v27:Int,v27=i10+1→K13 (v27))))∧(c16=false→Z true))) (0)))
theorem sameZ_vc (a b:List Int) (h:sameZ_pre a b):sameZ_wp a b (fun y=>y=sameZ a b):=by
  unfold sameZ_wp
  simp only[forall_eq,decide_eq_true_eq,decide_eq_false_iff_not,sameZ]
  have h1:a.length≤1048576:=h
  refine⟨fun h3=>(decide_eq_false (fun e=>h3 (by rw[e]))).symm,fun h3=>?_⟩
  refine loopW.up1 a.length (fun k=>a.take k=b.take k) (by simp) ?_
  rintro k K hk hI IH
  simp only[I64]
  refine⟨fun h4=>⟨⟨by omega,by omega⟩,by omega,fun h5=>(decide_eq_false (fun e=>h5 (by rw[e]))).symm,fun h5=>⟨by omega,IH (by omega) ?_⟩⟩,fun h4=>?_⟩
  · rw[at_lt (show k<a.length by omega),at_lt (show k<b.length by omega)] at h5
    rw[← List.take_append_getElem (show k<a.length by omega),← List.take_append_getElem (show k<b.length by omega),hI,Classical.not_not.1 h5]
  · rw[show k=a.length by omega,List.take_length,List.take_of_length_le (by omega)] at hI
    exact (decide_eq_true hI).symm
abbrev twinZ (b:Big) (x y:Int):Bool:=twinB b x y
abbrev twinZ_pre (b:Big) (x y:Int):Prop:=(∃ sig,ValidB sig b)∧(0≤x∧x<b.nodes.length)∧(0≤y∧y<b.nodes.length)
def twinZ_wp (b:Big) (x:Int) (y:Int) (Z:Bool→Prop):Prop:=
  (0≤x∧x<b.nodes.length)∧∀ x5:GNode,x5=at' b.nodes x→(0≤y∧y<b.nodes.length)∧∀ x8:GNode,x8=at' b.nodes y→joinW (fun (J13:Bool→Prop)=>∀ c49:Bool,c49=decide (x5.control ≠ x8.control)→((c49=true→J13 (true))∧(c49=false→∀ c51:Bool,c51=decide (x5.parent ≠ x8.parent)→((c51=true→J13 (true))∧(c51=false→(sameZ_pre x5.links x8.links)∧∀ r54:Bool,r54=sameZ x5.links x8.links→J13 ((!r54))))))) (fun b16=>((b16=true→Z false)∧(b16=false→joinW (fun (J19:Bool→Prop)=>(l2Kids_pre b x)∧∀ r26:List Int,r26=l2Kids b x→∀ len27:Int,len27=(r26.length:Int)→∀ c29:Bool,c29=decide (len27=0)→((c29=true→(l2Kids_pre b y)∧∀ r32:List Int,r32=l2Kids b y→∀ len33:Int,len33=(r32.length:Int)→∀ c35:Bool,c35=decide (len33=0)→((c35=true→(l2Holes_pre b x)∧∀ r38:List Int,r38=l2Holes b x→∀ len39:Int,len39=(r38.length:Int)→∀ c41:Bool,c41=decide (len39=0)→((c41=true→(l2Holes_pre b y)∧∀ r44:List Int,r44=l2Holes b y→∀ len45:Int,len45=(r44.length:Int)→∀ c47:Bool,c47=decide (len45=0)→J19 (c47))∧(c41=false→J19 (false))))∧(c35=false→J19 (false))))∧(c29=false→J19 (false)))) (fun b22=>Z b22))))
theorem kids_none (b:Big) (x:Int):(kidsB b x=[])↔∀ n ∈ b.nodes,n.parent ≠ x:=by
  constructor
  · intro h n hn e
    obtain⟨i,hi,rfl⟩:=List.getElem_of_mem hn
    have:(i:Int) ∈ kidsB b x:=(mem_idxs _ _).2 ⟨by omega,by omega,by rw[at_lt hi];exact decide_eq_true e⟩
    rw[h] at this;cases this
  · intro h
    rcases hq:kidsB b x with _ | ⟨y,t⟩
    · rfl
    · have hy:y ∈ kidsB b x:=by rw[hq];simp
      obtain⟨h1,h2,h3⟩:=(mem_idxs _ _).1 hy
      exact absurd (of_decide_eq_true h3) (h _ (at_mem ⟨h1,h2⟩))
theorem holes_none (b:Big) (x:Int):(holesB b x=[])↔∀ p ∈ b.sites,p ≠ x:=by
  constructor
  · intro h n hn e
    obtain⟨i,hi,rfl⟩:=List.getElem_of_mem hn
    have:(i:Int) ∈ holesB b x:=(mem_idxs _ _).2 ⟨by omega,by omega,by rw[at_lt hi];exact decide_eq_true e⟩
    rw[h] at this;cases this
  · intro h
    rcases hq:holesB b x with _ | ⟨y,t⟩
    · rfl
    · have hy:y ∈ holesB b x:=by rw[hq];simp
      obtain⟨h1,h2,h3⟩:=(mem_idxs _ _).1 hy
      exact absurd (of_decide_eq_true h3) (h _ (at_mem ⟨h1,h2⟩))
theorem twinB_kids (b:Big) (x y:Int):twinB b x y=(decide ((at' b.nodes x).control=(at' b.nodes y).control) && decide ((at' b.nodes x).parent=(at' b.nodes y).parent) && decide ((at' b.nodes x).links=(at' b.nodes y).links) && (decide (kidsB b x=[]) && decide (kidsB b y=[]) && decide (holesB b x=[]) && decide (holesB b y=[]))):=by
  have e1:b.nodes.all (fun n=>decide (n.parent ≠ x) && decide (n.parent ≠ y))=(decide (kidsB b x=[]) && decide (kidsB b y=[])):=by
    rw[Bool.eq_iff_iff]
    simp only[List.all_eq_true,Bool.and_eq_true,decide_eq_true_eq,kids_none]
    exact⟨fun h=>⟨fun n hn=>(h n hn).1,fun n hn=>(h n hn).2⟩,fun h n hn=>⟨h.1 n hn,h.2 n hn⟩⟩
  have e2:b.sites.all (fun p=>decide (p ≠ x) && decide (p ≠ y))=(decide (holesB b x=[]) && decide (holesB b y=[])):=by
    rw[Bool.eq_iff_iff]
    simp only[List.all_eq_true,Bool.and_eq_true,decide_eq_true_eq,holes_none]
    exact⟨fun h=>⟨fun n hn=>(h n hn).1,fun n hn=>(h n hn).2⟩,fun h n hn=>⟨h.1 n hn,h.2 n hn⟩⟩
  rw[twinB,e1,e2]
  simp only[Bool.and_assoc]
theorem twinZ_vc (b:Big) (x y:Int) (h:twinZ_pre b x y):twinZ_wp b x y (fun z=>z=twinZ b x y):=by
  unfold twinZ_wp
  obtain⟨⟨sig,hv⟩,hx,hy⟩:=h
  have h3:=hv.links3 hx
  have hn:=hv.len
  have hs:=hv.slen
  simp only[forall_eq,decide_eq_true_eq,decide_eq_false_iff_not,ne_eq,Decidable.not_not,twinZ,l2Kids,l2Holes,l2Kids_pre,l2Holes_pre,sameZ_pre]
  refine⟨hx,hy,fun c=>c = !(decide ((at' b.nodes x).control=(at' b.nodes y).control) && decide ((at' b.nodes x).parent=(at' b.nodes y).parent) && decide ((at' b.nodes x).links=(at' b.nodes y).links)),⟨fun h4=>by simp[h4],fun h4=>⟨fun h5=>by simp[h5],fun h5=>⟨by omega,by simp[h4,h5,sameZ]⟩⟩⟩,?_⟩
  rintro _ rfl
  refine⟨fun h4=>?_,fun h4=>?_⟩
  · rw[twinB_kids]
    simp only[Bool.not_eq_true'] at h4
    rw[h4];rfl
  · simp only[Bool.not_eq_false'] at h4
    rw[twinB_kids,h4,Bool.true_and]
    have hl:∀ l:List Int,((l.length:Int)=0)=(l=[]):=fun l=>by rw[← List.length_eq_zero_iff];simp
    simp only[hl]
    refine⟨fun c=>c=(decide (kidsB b x=[]) && decide (kidsB b y=[]) && decide (holesB b x=[]) && decide (holesB b y=[])),⟨by omega,fun h5=>⟨by omega,fun h6=>⟨by omega,fun h7=>⟨by omega,by simp[h5,h6,h7]⟩,fun h7=>by simp[h7]⟩,fun h6=>by simp[h6]⟩,fun h5=>by simp[h5]⟩,?_⟩
    rintro _ rfl
    rfl
abbrev freeZ (b:Big) (places:List Int):List Int:=freeT b places
abbrev freeZ_pre (b:Big) (places:List Int):Prop:=(∃ sig,ValidB sig b)∧places.length=b.nodes.length
def freeZ_wp (b:Big) (places:List Int) (Z:(List Int)→Prop):Prop:=
  loopW (σ:=Int × (List Int)) (fun (i14,l15) K19=>∀ len20:Int,len20=(b.nodes.length:Int)→∀ c22:Bool,c22=decide (i14<len20)→((c22=true→joinW (fun (J24:Bool→Prop)=>(0≤i14∧i14<places.length)∧∀ x82:Int,x82=at' places i14→∀ c84:Bool,c84=decide (x82<0)→((c84=true→(0≤i14∧i14<b.nodes.length)∧∀ x87:GNode,x87=at' b.nodes i14→∀ c89:Bool,c89=decide (x87.parent<0)→((c89=true→J24 (true))∧(c89=false→(0≤i14∧i14<b.nodes.length)∧∀ x92:GNode,x92=at' b.nodes i14→(0≤x87.parent∧x87.parent<places.length)∧∀ x96:Int,x96=at' places x87.parent→∀ c98:Bool,c98=decide (0≤x96)→J24 (c98))))∧(c84=false→J24 (false)))) (fun b27=>loopW (σ:=Bool × Int) (fun (free35,k36) K40=>joinW (fun (J41:Bool→Prop)=>∀ len77:Int,len77=(l15.length:Int)→∀ c79:Bool,c79=decide (k36<len77)→((c79=true→J41 (free35))∧(c79=false→J41 (false)))) (fun b44=>((b44=true→(0≤k36∧k36<l15.length)∧∀ x53:Int,x53=at' l15 k36→(twinZ_pre b x53 i14)∧∀ r57:Bool,r57=twinZ b x53 i14→(I64 (k36+1))∧∀ v59:Int,v59=k36+1→K40 ((!r57),v59))∧(b44=false→((free35=true→(l15.length+1≤1073741824)∧∀ l62:List Int,l62=l15++[i14]→(I64 (i14+1))∧∀ v72:Int,v72=i14+1→K19 (v72,l62))∧(free35=false→(I64 (i14+1))∧∀ v75:Int,v75=i14+1→K19 (v75,l15))))))) (b27,0)))∧(c22=false→Z l15))) (0,([]:List Int))
theorem thin_snoc (tw:Int→Int→Bool) (i:Int):∀ (l out:List Int),thin tw out (l++[i])=if (thin tw out l).any (fun x=>tw x i) then thin tw out l else thin tw out l++[i]
  | [],out=>rfl
  | x::l,out=>by
    simp only[List.cons_append,thin]
    exact thin_snoc tw i l _
theorem thin_len (tw:Int→Int→Bool):∀ (l out:List Int),(thin tw out l).length≤out.length+l.length
  | [],out=>by simp[thin]
  | x::l,out=>by
    have h:=thin_len tw l (if out.any (fun y=>tw y x) then out else out++[x])
    simp only[thin,List.length_cons] at h ⊢
    split at h
    · rename_i h1;rw[if_pos h1];omega
    · rename_i h1;rw[if_neg h1];simp only[List.length_append,List.length_cons,List.length_nil] at h;omega
def freeAt (b:Big) (pl:List Int) (k:Nat):List Int:=((List.range k).map fun i:Nat=>(i:Int)).filter (freeP b pl)
theorem freeAt_succ (b:Big) (pl:List Int) (k:Nat):freeAt b pl (k+1)=if freeP b pl k then freeAt b pl k++[(k:Int)] else freeAt b pl k:=by
  simp only[freeAt,List.range_succ,List.map_append,List.filter_append,List.map_cons,List.map_nil,List.filter_cons,List.filter_nil]
  split<;>simp_all
theorem freeAt_len (b:Big) (pl:List Int) (k:Nat):(freeAt b pl k).length≤k:=by
  have:=List.length_filter_le (freeP b pl) ((List.range k).map fun i:Nat=>(i:Int))
  simpa[freeAt] using this
theorem freeAt_mem {b:Big} {pl:List Int} {k:Nat} {x:Int} (h:x ∈ freeAt b pl k):0≤x∧x<k:=by
  simp only[freeAt,List.mem_filter,List.mem_map,List.mem_range] at h
  obtain⟨⟨i,hi,rfl⟩,_⟩:=h
  omega
theorem freeZ_vc (b:Big) (places:List Int) (h:freeZ_pre b places):freeZ_wp b places (fun z=>z=freeZ b places):=by
  unfold freeZ_wp
  obtain⟨⟨sig,hv⟩,hl⟩:=h
  have hn:=hv.len
  refine loopW.upL b.nodes.length (fun k out=>out=thin (twinB b) [] (freeAt b places k)) [] rfl ?_
  rintro k _ K hk rfl IH
  have hlen:=thin_len (twinB b) (freeAt b places k) []
  have hlen2:=freeAt_len b places k
  have hin:∀ x ∈ thin (twinB b) [] (freeAt b places k),0≤x∧x<k:=fun x hx=>freeAt_mem ((thin_in _ hx).resolve_left (by simp))
  simp only[List.length_nil] at hlen
  simp only[forall_eq,decide_eq_true_eq,decide_eq_false_iff_not]
  refine⟨fun h1=>?_,fun h1=>by rw[show k=b.nodes.length by omega];rfl⟩
  have hkn:(0:Int)≤k∧(k:Int)<b.nodes.length:=⟨by omega,by omega⟩
  have hp:=hv.parAt hkn
  refine⟨fun c=>c=freeP b places k,⟨⟨by omega,by omega⟩,fun h2=>⟨by omega,fun h3=>by simp[freeP,h2,h3],fun h3=>⟨by omega,⟨by omega,by omega⟩,by simp[freeP,h2,h3]⟩⟩,fun h2=>by simp[freeP,h2]⟩,?_⟩
  rintro _ rfl
  have hsucc:=freeAt_succ b places k
  generalize ho:thin (twinB b) [] (freeAt b places k)=out at hlen hin ⊢
  refine loopW.upR out.length (fun j f=>f=(freeP b places k && !((out.take j).any fun x=>twinB b x k))) _ (by simp) ?_
  rintro j _ K2 hj rfl IH2
  refine⟨fun c=>c=(decide (j<out.length) && (freeP b places k && !((out.take j).any fun x=>twinB b x k))),⟨fun h2=>by simp[show j<out.length by omega],fun h2=>by simp[show ¬ j<out.length by omega]⟩,?_⟩
  rintro _ rfl
  refine⟨fun h2=>?_,fun h2=>?_⟩
  · simp only[Bool.and_eq_true,decide_eq_true_eq,Bool.not_eq_true'] at h2
    obtain⟨h3,h4,h5⟩:=h2
    dsimp only
    have hm:=hin (at' out (j:Int)) (by rw[at_lt h3];exact List.getElem_mem h3)
    refine⟨by omega,⟨⟨sig,hv⟩,⟨hm.1,by omega⟩,hkn⟩,⟨by omega,by omega⟩,IH2 h3 _ ?_⟩
    rw[← List.take_append_getElem h3,List.any_append,h5,h4,at_lt h3]
    simp[twinZ]
  · have hnext:∀ r,(freeP b places k && !((out.take j).any fun x=>twinB b x k))=r→(r=true→j=out.length)→thin (twinB b) [] (freeAt b places (k+1))=if r then out++[(k:Int)] else out:=fun r hr hj2=>by
      rw[hsucc]
      cases r with
      | true=>
        simp only[Bool.and_eq_true,Bool.not_eq_true'] at hr
        have h6:=hr.2
        rw[hj2 rfl,List.take_length] at h6
        rw[if_pos hr.1,thin_snoc,ho,h6];rfl
      | false=>
        by_cases h6:freeP b places k=true
        · rw[if_pos h6,thin_snoc,ho]
          simp only[h6,Bool.true_and,Bool.not_eq_false'] at hr
          have:(out.any fun x=>twinB b x k)=true:=by
            obtain⟨x,hx,hx2⟩:=List.any_eq_true.1 hr
            exact List.any_eq_true.2 ⟨x,List.mem_of_mem_take hx,hx2⟩
          rw[this];rfl
        · rw[if_neg h6,ho];rfl
    have hjl:(freeP b places k && !((out.take j).any fun x=>twinB b x k))=true→j=out.length:=fun h6=>by
      rw[h6] at h2
      simp only[Bool.and_true,decide_eq_false_iff_not] at h2
      omega
    generalize hr:(freeP b places k && !((out.take j).any fun x=>twinB b x k))=r at hjl ⊢
    have:=hnext r hr hjl
    dsimp only
    refine⟨fun h6=>⟨by omega,⟨by omega,by omega⟩,IH (by omega) _ ?_⟩,fun h6=>⟨⟨by omega,by omega⟩,IH (by omega) _ ?_⟩⟩
    · rw[this,h6];rfl
    · rw[this,h6];rfl
structure BestSt (b:Big) (places edges:List Int) (many:Int) (s:Cz):Prop where
  bfit:Fit b (b.nodes.length - many.toNat) s
  bcz:CzOk b many.toNat s
  bes:EsOk b s.es
  bpl:s.pl=places
  bed:numsE b s.es=edges
  bnum:0≤many∧many≤b.nodes.length
noncomputable def bestZ (b:Big) (places edges:List Int) (many:Int):List Int × List Int:=open Classical in if h:∃ s,BestSt b places edges many s then bestC b (b.nodes.length - many.toNat) h.choose else ([],[])
abbrev bestZ_pre (b:Big) (places edges:List Int) (many:Int):Prop:=(∃ sig,ValidB sig b)∧∃ s,BestSt b places edges many s
abbrev bestZ_ms (b:Big) (_ _:List Int) (many:Int):Nat:=b.nodes.length - many.toNat
def bestZ_wp (b:Big) (places:List Int) (edges:List Int) (many:Int) (Z:((List Int) × (List Int))→Prop):Prop:=
  ∀ len4:Int,len4=(b.nodes.length:Int)→∀ c6:Bool,c6=decide (many=len4)→((c6=true→(tailZ_pre b places edges)∧∀ r9:(List Int) × (List Int),r9=tailZ b places edges→Z (r9.1,([]:List Int)))∧(c6=false→(freeZ_pre b places)∧∀ r30:List Int,r30=freeZ b places→((0:Int)≤0∧(0:Int)<r30.length)∧∀ x47:Int,x47=at' r30 0→(chunkZ_pre b x47 places edges)∧∀ r51:(List Int) × (List Int),r51=chunkZ b x47 places edges→loopW (σ:=Int × (List Int)) (fun (i160,l161) K166=>∀ len167:Int,len167=(r30.length:Int)→∀ c169:Bool,c169=decide (i160<len167)→((c169=true→(0≤i160∧i160<r30.length)∧∀ x179:Int,x179=at' r30 i160→(chunkZ_pre b x179 places edges)∧∀ r183:(List Int) × (List Int),r183=chunkZ b x179 places edges→(lessZ_pre r183.1 l161)∧∀ r285:Bool,r285=lessZ r183.1 l161→((r285=true→(I64 (i160+1))∧∀ v287:Int,v287=i160+1→K166 (v287,r183.1))∧(r285=false→(I64 (i160+1))∧∀ v290:Int,v290=i160+1→K166 (v290,l161))))∧(c169=false→loopW (σ:=Bool × Int × (List Int) × (List Int)) (fun (found315,i316,l317,l318) K325=>∀ len326:Int,len326=(r30.length:Int)→∀ c328:Bool,c328=decide (i316<len326)→((c328=true→(0≤i316∧i316<r30.length)∧∀ x340:Int,x340=at' r30 i316→(chunkZ_pre b x340 places edges)∧∀ r344:(List Int) × (List Int),r344=chunkZ b x340 places edges→(sameZ_pre r344.1 l161)∧∀ r449:Bool,r449=sameZ r344.1 l161→((r449=true→(ownZ_pre places)∧∀ r454:List Int,r454=ownZ places→(0≤i316∧i316<r30.length)∧∀ x474:Int,x474=at' r30 i316→(0≤x474∧x474<r454.length)∧∀ x482:Int,x482=at' r454 x474→∀ l485:List Int,l485=r454.set x474.toNat many→(I64 (many+1))∧∀ v497:Int,v497=many+1→(bestZ_pre b l485 r344.2 v497∧bestZ_ms b l485 r344.2 v497<bestZ_ms b places edges many)∧∀ r500:(List Int) × (List Int),r500=bestZ b l485 r344.2 v497→joinW (fun (J520:Bool→Prop)=>((found315=true→(lessZ_pre r500.1 l318)∧∀ r568:Bool,r568=lessZ r500.1 l318→J520 (r568))∧(found315=false→J520 (true)))) (fun b523=>((b523=true→(0≤i316∧i316<r30.length)∧∀ x537:Int,x537=at' r30 i316→∀ l540:List Int,l540=[x537]→(l540.length+r500.2.length≤1073741824)∧∀ l549:List Int,l549=l540++r500.2→(I64 (i316+1))∧∀ v562:Int,v562=i316+1→K325 (true,v562,l549,r500.1))∧(b523=false→(I64 (i316+1))∧∀ v565:Int,v565=i316+1→K325 (found315,v565,l317,l318)))))∧(r449=false→(I64 (i316+1))∧∀ v451:Int,v451=i316+1→K325 (found315,v451,l317,l318))))∧(c328=false→(l161.length+l318.length≤1073741824)∧∀ l570:List Int,l570=l161++l318→Z (l570,l317)))) (false,0,([]:List Int),([]:List Int))))) (1,r51.1)))
theorem nums_inj {b:Big} {es es':List Int} (h:EsOk b es) (h':EsOk b es') (e:numsE b es=numsE b es'):es=es':=by
  have hl:es.length=es'.length:=by have h1:=cnt_nums h;have h2:=cnt_nums h';rw[e] at h1;omega
  refine List.ext_getElem hl fun i h1 h2=>?_
  have hm:es[i] ∈ es:=List.getElem_mem h1
  have hr:=h.rng _ hm
  have e1:=numsE_at (es:=es) hr
  rw[e,numsE_at hr,if_pos hm,List.Nodup.idxOf_getElem h.nd] at e1
  by_cases h3:es[i] ∈ es'
  · rw[if_pos h3] at e1
    have h4:es'.idxOf es[i]=i:=by omega
    have h5:=List.getElem_idxOf (x:=es[i]) (xs:=es') (List.idxOf_lt_length_of_mem h3)
    simp only[h4] at h5
    exact h5.symm
  · rw[if_neg h3] at e1;omega
theorem BestSt.uniq {b:Big} {pl ed:List Int} {many:Int} {s s':Cz} (h:BestSt b pl ed many s) (h':BestSt b pl ed many s'):s=s':=by
  have e1:=nums_inj h.bes h'.bes (h.bed.trans h'.bed.symm)
  have e2:=h.bpl.trans h'.bpl.symm
  have e3:=h.bcz.num.trans h'.bcz.num.symm
  cases s;cases s';simp_all
theorem bestZ_eq {b:Big} {pl ed:List Int} {many:Int} {s:Cz} (h:BestSt b pl ed many s):bestZ b pl ed many=bestC b (b.nodes.length - many.toNat) s:=by
  have hx:∃ s,BestSt b pl ed many s:=⟨s,h⟩
  rw[bestZ,dif_pos hx,hx.choose_spec.uniq h]
theorem ValidB.downs {sig:Sig} {b:Big} (h:ValidB sig b):Downs b:=fun x hx=>(h.parAt hx).2
theorem ValidB.even {sig:Sig} {b:Big} (h:ValidB sig b):Even b:=fun x y hx hy e=>by
  have h1:=h.portsAt hx
  have h2:=h.portsAt hy
  rw[e] at h1
  omega
theorem BestSt.rz {sig:Sig} {b:Big} {pl ed:List Int} {many:Int} {s:Cz} (hv:ValidB sig b) (h:BestSt b pl ed many s):RzOk b many.toNat ⟨[],ed,pl⟩:=by
  have h1:=cnt_nums h.bes
  have h2:=hv.edges
  have h3:=cntZ_le (numsE b s.es)
  have h4:(numsE b s.es).length=b.edges.toNat:=by simp[numsE]
  refine⟨⟨hv.edges,by simp only[← h.bed,h4];omega,fun v hx=>?_⟩,by simp only[← h.bpl];exact h.bcz.pl,fun v hx=>?_,by simp⟩
  · simp only[← h.bed,numsE,List.mem_map,List.mem_range] at hx
    obtain⟨l,hl,rfl⟩:=hx
    split
    · rename_i h5
      have:=List.idxOf_lt_length_of_mem h5
      omega
    · omega
  · simp only[← h.bpl] at hx
    exact h.bcz.lo v hx
theorem BestSt.chunk {sig:Sig} {b:Big} {pl ed:List Int} {many:Int} {s:Cz} (hv:ValidB sig b) (h:BestSt b pl ed many s) {k:Int} (hk:0≤k∧k<b.nodes.length):chunkZ b k pl ed=((chunkC b s k).1,numsE b (chunkC b s k).2)∧EsOk b (chunkC b s k).2:=by
  have hl:=hv.linksAt hk
  obtain⟨t1,t2⟩:=told_links (at' b.nodes k).links _ h.bes fun l hl2=>(hl l hl2).1
  rw[h.bed] at t1
  refine⟨?_,t2⟩
  simp only[chunkZ,t1,chunkC,h.bpl]
theorem BestSt.step {sig:Sig} {b:Big} {pl ed:List Int} {many:Int} {s:Cz} (hv:ValidB sig b) (h:BestSt b pl ed many s) (hm:many<b.nodes.length) {k:Int} (hk:k ∈ freeC b s.pl) :
    BestSt b (pl.set k.toNat many) (chunkZ b k pl ed).2 (many+1) (stepC b s k):=by
  have hr:=(mem_freeC.1 hk).1
  have hb:=h.bnum
  have hn:=hv.len
  obtain⟨e1,e2⟩:=h.chunk hv hr
  have h1:=h.bfit
  rw[show b.nodes.length - many.toNat=(b.nodes.length - (many+1).toNat)+1 by omega] at h1
  have h2:=CzOk.step hv h.bcz hr (by omega)
  refine⟨h1.step hk,?_,e2,?_,by rw[e1];rfl,by omega⟩
  · rw[show (many+1).toNat=many.toNat+1 by omega];exact h2
  · have:=h.bcz.num
    simp only[stepC,h.bpl]
    congr 1;omega
theorem comps_len {b:Big} (he:Even b) (h3:∀ k:Int,0≤k∧k<b.nodes.length→(at' b.nodes k).links.length≤3):∀ {m:Nat} {s:Cz} {p:P2},p ∈ comps b m s→p.2.length=m∧p.1.length≤5 * m+(b.sites.length+b.inner.length)
  | 0,s,p,h=>by
    rw[List.mem_singleton.1 h]
    simp[tailC,linksC_len]
  | m+1,s,p,h=>by
    obtain⟨k,hk,q,hq,rfl⟩:=comps_succ.1 h
    have hr:=(mem_freeC.1 hk).1
    obtain⟨h4,h5⟩:=comps_len he h3 hq
    have h6:=h3 k hr
    have h7:(chunkC b s k).1.length≤5:=by simp[chunkC,linksC_len];omega
    simp only[List.length_cons,List.length_append]
    omega
theorem freeT_in {b:Big} {pl:List Int} {k:Int} (h:k ∈ freeT b pl):k ∈ freeC b pl:=(thin_in _ h).resolve_left (by simp)
theorem freeT_ne {b:Big} (hd:Downs b) {m:Nat} {s:Cz} (h:Fit b (m+1) s):freeT b s.pl ≠ []:=by
  have hhas:=thin_has (twinB b) (l:=freeC b s.pl) (out:=[]) (by simp) (freeC_asc s.pl)
  obtain⟨k,hk⟩:=free_some hd h
  rcases hhas k hk with h1 | ⟨x,h1,_⟩<;>intro e<;>rw[freeT] at e<;>rw[e] at h1<;>cases h1
theorem bestZ_vc (b:Big) (places edges:List Int) (many:Int) (h:bestZ_pre b places edges many):bestZ_wp b places edges many (fun z=>z=bestZ b places edges many):=by
  unfold bestZ_wp
  obtain⟨⟨sig,hv⟩,s,hs⟩:=h
  have hn:=hv.len
  have hsl:=hv.slen
  have hil:=hv.inner
  have hb:=hs.bnum
  have hrz:=hs.rz hv
  have hpl:places.length=b.nodes.length:=hrz.pl
  simp only[forall_eq,decide_eq_true_eq,decide_eq_false_iff_not]
  refine⟨fun h1=>⟨hrz.tail hv,?_⟩,fun h1=>⟨⟨⟨sig,hv⟩,hpl⟩,?_⟩⟩
  · obtain⟨t1,t2⟩:=told_links (b.inner.map fun w=>w.link) _ hs.bes fun l hl=>by
      obtain⟨w,hw,rfl⟩:=List.mem_map.1 hl
      exact (hv.wires w hw).1
    rw[hs.bed] at t1
    rw[bestZ_eq hs,show b.nodes.length - many.toNat=0 by omega,bestC]
    simp only[tailZ,t1,tailC,hs.bpl]
  have hm:many<b.nodes.length:=by omega
  obtain⟨m,hmm⟩:∃ m,b.nodes.length - many.toNat=m+1:=⟨b.nodes.length - many.toNat - 1,by omega⟩
  have hfit:=hs.bfit
  rw[hmm] at hfit
  have hne:=freeT_ne hv.downs hfit
  have hin:∀ x ∈ freeT b s.pl,0≤x∧x<b.nodes.length:=fun x hx=>(mem_freeC.1 (freeT_in hx)).1
  have hfl:(freeT b s.pl).length≤b.nodes.length:=by
    have h2:=thin_len (twinB b) (freeC b s.pl) []
    have h3:(freeC b s.pl).length≤b.nodes.length:=freeAt_len b s.pl b.nodes.length
    simp only[List.length_nil] at h2
    have h4:(freeT b s.pl).length≤0+(freeC b s.pl).length:=h2
    omega
  have hch:∀ k:Int,0≤k∧k<b.nodes.length→(chunkC b s k).1.length≤5:=fun k hk=>by
    have:=hv.links3 hk
    simp[chunkC,linksC_len];omega
  rw[bestZ_eq hs,hmm,show freeZ b places=freeT b s.pl by rw[hs.bpl]]
  have hrec:∀ k ∈ freeT b s.pl,(bestZ b (places.set k.toNat many) (chunkZ b k places edges).2 (many+1))=bestC b m (stepC b s k)∧(bestC b m (stepC b s k)).2.length≤8∧(bestC b m (stepC b s k)).1.length≤100:=fun k hk=>by
    have h2:=hs.step hv hm (freeT_in hk)
    have h3:=(bestC_min hv.even hv.downs (fun p hp=>(hv.sites p hp).2) (hfit.step (freeT_in hk))).1
    have h4:=comps_len hv.even (fun k hk=>hv.links3 hk) h3
    rw[bestZ_eq h2,show b.nodes.length - (many+1).toNat=m by omega]
    exact⟨rfl,by omega,by omega⟩
  rw[bestC]
  generalize hF:freeT b s.pl=F at hne hin hfl hrec
  obtain⟨k0,t,hF2⟩:∃ k0 t,F=k0::t:=by
    cases F with
    | nil=>exact absurd rfl hne
    | cons k0 t=>exact⟨k0,t,rfl⟩
  have hF0:at' F (0:Int)=k0:=by rw[hF2];rfl
  have hlF:0<F.length:=by rw[hF2];simp
  have hk0:=hin k0 (by rw[hF2];simp)
  rw[hF0]
  have hc0:=hs.chunk hv hk0
  refine⟨⟨by omega,by omega⟩,hrz.chunk hv hk0,?_⟩
  rw[hc0.1]
  refine loopW.up t.length (fun s=>s.1 - 1) (fun k l=>((k:Int)+1,l)) (fun k l=>by simp) (fun k l=>l=(t.take k).foldl (fun a k=>if cmpL (chunkC b s k).1 a<0 then (chunkC b s k).1 else a) (chunkC b s k0).1∧l.length≤5) _ rfl ⟨rfl,hch k0 hk0⟩ ?_
  rintro i l K hi ⟨hl,hl5⟩ IH
  have htl:F.length=t.length+1:=by rw[hF2];simp
  simp only[forall_eq,decide_eq_true_eq,decide_eq_false_iff_not]
  refine⟨fun h2=>?_,fun h2=>?_⟩
  · have hit:i<t.length:=by omega
    have hFi:at' F ((i:Int)+1)=t[i]:=by
      rw[hF2,show (i:Int)+1=((i+1:Nat):Int) by omega,at_lt (by simp;omega)];simp
    have hti:=hin t[i] (by rw[hF2];simp)
    have hci:=hs.chunk hv hti
    have h5:=hch _ hti
    rw[hFi,hci.1]
    refine⟨⟨by omega,by omega⟩,hrz.chunk hv hti,⟨by simp only;omega,by omega⟩,fun h6=>⟨⟨by omega,by omega⟩,?_⟩,fun h6=>⟨⟨by omega,by omega⟩,?_⟩⟩
    · refine IH hit _ ⟨?_,h5⟩
      rw[← List.take_append_getElem hit,List.foldl_append,← hl]
      simp only[lessZ,decide_eq_true_eq] at h6
      simp[h6]
    · refine IH hit _ ⟨?_,hl5⟩
      rw[← List.take_append_getElem hit,List.foldl_append,← hl]
      simp only[lessZ,decide_eq_false_iff_not] at h6
      simp[h6]
  · have hit:i=t.length:=by omega
    rw[hit,List.take_length] at hl
    have hlc:l=leastC b s F:=by rw[hl,hF2];rfl
    rw[← hlc]
    clear IH K
    refine loopW.up (τ:=Bool × List Int × List Int) F.length (fun s=>s.2.1) (fun j x=>(x.1,(j:Int),x.2.1,x.2.2)) (fun _ _=>rfl) (fun j x=>(x.2.2,x.2.1,x.1)=(F.take j).foldl (pickB (fun k=>decide ((chunkC b s k).1=l)) fun k=>bestC b m (stepC b s k)) ([],[],false)∧x.2.1.length≤9∧x.2.2.length≤100) (false,[],[]) rfl ⟨rfl,by simp,by simp⟩ ?_
    rintro j ⟨found,ord,code⟩ K hj ⟨hI,ho9,hc100⟩ IH
    simp only at hI ho9 hc100
    simp only[forall_eq,decide_eq_true_eq,decide_eq_false_iff_not]
    refine⟨fun h3=>?_,fun h3=>?_⟩
    · have hjF:j<F.length:=by omega
      have hFj:at' F (j:Int)=F[j]:=at_lt hjF
      have hmem:F[j] ∈ F:=List.getElem_mem hjF
      have hfj:=hin _ hmem
      have hcj:=hs.chunk hv hfj
      have h5:=hch _ hfj
      obtain⟨r1,r2,r3⟩:=hrec _ hmem
      have hst:=hs.step hv hm (freeT_in (by rw[hF];exact hmem):F[j] ∈ freeC b s.pl)
      have hfold:∀ x,x=pickB (fun k=>decide ((chunkC b s k).1=l)) (fun k=>bestC b m (stepC b s k)) (code,ord,found) F[j]→x=(F.take (j+1)).foldl (pickB (fun k=>decide ((chunkC b s k).1=l)) fun k=>bestC b m (stepC b s k)) ([],[],false):=fun x hx=>by
        rw[← List.take_append_getElem hjF,List.foldl_append,← hI,hx];rfl
      rw[hFj]
      rw[hcj.1] at r1 hst ⊢
      refine⟨⟨by omega,by omega⟩,hrz.chunk hv hfj,by simp only[sameZ_pre];omega,fun h6=>?_,fun h6=>?_⟩
      · simp only[sameZ,decide_eq_true_eq] at h6
        have hat:∃ y,at' (ownZ places) F[j]=y:=⟨_,rfl⟩
        refine⟨by simp only[ownZ_pre];omega,⟨by omega,by omega⟩,⟨hfj.1,by simp only[ownZ];omega⟩,⟨by omega,by omega⟩,⟨⟨⟨sig,hv⟩,_,hst⟩,by simp only[bestZ_ms];omega⟩,?_⟩
        simp only[ownZ]
        rw[r1]
        refine⟨fun c=>c=(found=false∨cmpL (bestC b m (stepC b s F[j])).1 code<0:Bool),⟨fun h7=>⟨⟨by omega,by omega⟩,?_⟩,fun h7=>by simp[h7]⟩,?_⟩
        · simp[h7,lessZ]
        · rintro _ rfl
          simp only[decide_eq_true_eq,decide_eq_false_iff_not]
          refine⟨fun h7=>⟨⟨by omega,by omega⟩,by simp;omega,⟨by omega,by omega⟩,IH hjF (_,_,_) ⟨hfold _ ?_,by simp;omega,r3⟩⟩,fun h7=>⟨⟨by omega,by omega⟩,IH hjF (_,_,_) ⟨hfold _ ?_,ho9,hc100⟩⟩⟩
          · simp only[pickB,h6,decide_true,if_true]
            rw[if_pos h7];simp
          · simp only[pickB,h6,decide_true,if_true]
            rw[if_neg h7]
      · simp only[sameZ,decide_eq_false_iff_not] at h6
        refine⟨⟨by omega,by omega⟩,IH hjF (_,_,_) ⟨hfold _ ?_,ho9,hc100⟩⟩
        simp[pickB,h6]
    · rw[show j=F.length by omega,List.take_length] at hI
      refine⟨by omega,?_⟩
      rw[← hI]
end Go.Ab.Vg
/- The abstract machine, part Sf: variables that are never written again: boxes as immutable cells, slices of arrays in them; loops that are unrolled. -/
namespace Go.Ab
set_option linter.unusedSectionVars false
section
variable {P:Program} {N:Nat} {ρ:Env} {H:Heap} {n:Nat} {Ty:Types} {d:Option Tmp} {ty:TypeId} {pos:String} {af:Array Edge} {gu:Option (Nat × Bool)}
end
section
variable {P:Program} {f:FuncId} {N:Nat} {k:List Item} {Q:AVal→Heap→Nat→Prop} {Ty:Types} {l:List Oper} {ρ:Env} {H:Heap} {n:Nat} {d:Option Tmp} {ty:TypeId} {pos:String} {af:Array Edge}
theorem Runs.seqK (hT:TypesOk P Ty) {id:Nat} {ops:List Oper} {y:Code} (hN:ops.all (fun o=>dok N o.dst)=true) (h:∀ k':List Item,(∀ ρ H n,Runs P f N (.code y::k) ρ H n Q→Runs P f N k' ρ H n Q)→RunK P f N k' Q ops.toArray ops ρ H n) :
    Runs P f N (.code (.seq (.region id ops.toArray false) y)::k) ρ H n Q:=
  Runs.seq (Runs.region (h (.code y::k) fun _ _ _ h=>h))
end
end Go.Ab
