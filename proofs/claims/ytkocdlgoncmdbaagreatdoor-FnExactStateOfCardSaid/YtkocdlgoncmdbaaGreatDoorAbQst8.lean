/- Merged texts (8 of 18) of the proof that ends in Sty: Kd Kf Kh Kk Kkw Kl Ko L2k Kq Sf. -/
import Derived.Test.YtkocdlgoncmdbaaGreatDoorAbQst7
open Go.Proofs.Tryz
set_option linter.unusedSectionVars false
set_option linter.unusedSimpArgs false
set_option linter.unusedVariables false
namespace Go.Ab.Vg
open Go.Proofs
def cD (o:Option au) (b:I) (es pl c:au):List au:=o.toList++(I.cells false b++[es,pl,c])
def dk (o:Option au):Nat:=o.toList.length
theorem dV {o:Option au} {b:I} {es pl c:au} (k:Nat):(cD o b es pl c)[dk o+k]?=(I.cells false b++[es,pl,c])[k]?:=by rw[cD,dk,List.getElem?_append_right (Nat.le_add_right _ _),Nat.add_sub_cancel_left]
theorem fU {o:Option au} {b:I} {es pl c:au} (k:Nat):(cD o b es pl c).take (dk o+k)=o.toList++(I.cells false b++[es,pl,c]).take k:=by rw[cD,dk,List.take_length_add_append]
theorem fc {o:Option au} {b:I} {es pl c:au} (k:Nat):(cD o b es pl c).drop (dk o+k)=(I.cells false b++[es,pl,c]).drop k:=by rw[cD,dk,List.drop_length_add_append]
theorem gK {o:Option au} {b:I} {es pl c:au} (k:Nat):(cD o b es pl c).drop (dk o+k+1)=(I.cells false b++[es,pl,c]).drop (k+1):=fc (k+1)
theorem An (o:Option au):(dk o+8+1<=9+dk o)=True:=by simp;omega
theorem He (o:Option au):(dk o+7+1<=9+dk o)=True:=by simp;omega
theorem rD {H:ax} {X:Id} {sz idx:Nat} {els:List (List au)} {e:List au} (hX:H X=some ⟨sz,els⟩) (he:els[idx]?=some e):H.set X ⟨sz,els.set idx e⟩=H:=by
  funext i
  rw[ax.aZ]
  split
  · rename_i h
    subst h;obtain⟨hi,he⟩:=List.getElem?_eq_some_iff.1 he;rw[hX,<- he,List.set_getElem_self]
  · rfl
section
variable {H:ax} {n:Nat} {X:Id} {g idx:Nat} {els:List (List au)} {o:Option au} {b:I}
theorem AB {es c:au} {t:Bool} {pl:List Int} (hX:H X=some ⟨9+dk o,els⟩) (hg:els.length=g) (he:els[idx]?=some (cD o b es (.list t (pl.map av)) c)) {p:Int} (hp:p<pl.length) (h1:bB (-1 - p)) (h2:0<=p->bB (4+at' pl p)) :
    cB prog 159 [.ptr X g idx (dk o),int p] H n (fun r=>r=int (cp pl p)):=by
  refine bE.of func159 rfl ntmps159 (by simp) fun Q hQ=>?_
  subst hg;obtain⟨hi,he⟩:=List.getElem?_eq_some_iff.1 he;cases o
  all_goals
    refine zE fun _ V=>?_
    simp[dk];apply V;refine zS fun _ V=>?_
    simp;apply V;refine J.ite rfl (fun hc1=>?_) (fun hc1=>?_)
    · have hp0:0<=p:=by simpa using hc1
      have hb:0<=p/\p<pl.length:=⟨hp0,hp⟩
      have hI:=h2 hp0;refine zE fun _ V=>?_
      have f1:=fun H=>aP (H:=H) (fr:=t) (f:=av) (k:=.i64) aS (fun _=>rfl) hb rfl
      have f2:=aU hI rfl;simp[hX,he,hi,cD,dk,I.cells,f1,f2,av,-ar,-aw];apply V;exact J.bj (v:=int (4+at' pl p)) func159 results159 (by simp) (hQ _ _ _ ⟨by rw[cp,if_neg (by omega)],rfl,rfl⟩)
    · have hp0:p<0:=by simpa using hc1
      apply J.skip;refine zE fun _ V=>?_
      have f2:=fu h1 rfl;simp[f2,-aw];apply V;exact J.bj (v:=int (-1 - p)) func159 results159 (by simp) (hQ _ _ _ ⟨by rw[cp,if_pos hp0],rfl,rfl⟩)
end
theorem bf.Gt {P:Program} {N:Nat} {f:FuncId} {k:List Item} {Q:au->ax->Nat->Prop} {Ty:Types} {κ:Op->Nat} {ops:Array Oper} {L:List Oper} {O:Env} {H:ax} {n dd:Nat} {ty:TypeId} {pos:String} {af:Array Edge} {t:TypeId} {s x:Operand} {j:TI} {fr t':Bool} {l m:List Int}
    (hT:aW P Ty) (hκ:Di κ) (h2:κ (.call ⟨.builtin .append,#[s,x],#[t,t]⟩)=2) (hk:kd Ty t = .slice j) (hz:j.size=1/\j.zero.length=1/\j.bytes<=131072) (hs:O.ev s = .clip fr (l.map mR)) (hx:O.ev x = .list t' (m.map av)) (hne:m ≠ []) (hm:l.length+m.length<=1073741824)
    (h:dv P f N k Q Ty κ ops L (O.put (some dd) (.arr (n,dd) (l.length+m.length) 0 (l.length+m.length))) (H.set (n,dd) ⟨1,(l++m).map av⟩) (n+1)):bf P f N k Q κ ops (⟨some dd,.call ⟨.builtin .append,#[s,x],#[t,t]⟩,ty,pos,af,none⟩::L) O H n:=by
  refine bf.op hT hκ (v:=.arr (n,dd) (l.length+m.length) 0 (l.length+m.length)) (H':=H.set (n,dd) ⟨1,(l++m).map av⟩) (n':=n+1) rfl (by simp only[h2];decide) (fun h=>by simp only[h2] at h;cases h) ?_ h;have e1:(loc (.call ⟨.builtin .append,#[s,x],#[t,t]⟩) O).ev s=O.ev s:=dm (by simp[Op.operands,Call.operands]);have e2:(loc (.call ⟨.builtin .append,#[s,x],#[t,t]⟩) O).ev x=O.ev x:=dm (by simp[Op.operands,Call.operands]);have:=aN.FW (P:=P) (N:=N) (O:=loc (.call ⟨.builtin .append,#[s,x],#[t,t]⟩) O) (H:=H) (n:=n) (dd:=dd) (ty:=ty) (pos:=pos) (af:=af) (gu:=none) hT hk (s:=s) (x:=x) (vs:=l.map mR) (els:=m.map av) (e1.trans hs) (by rw[e2,hx];rfl) (by simp[hz.1,mR]) (by simp[hz.1,av]) (by simpa using hne) ⟨by omega,hz.2.2⟩ (by simpa using hm);rw[nc,<- List.map_append] at this;show aN P N _ _ H n (fun v1 H1 U=>v1 = .arr (n,dd) (l.length+m.length) 0 (l.length+m.length)/\H1=H.set (n,dd) ⟨1,(l++m).map av⟩/\U=n+1);simpa[hz.1] using this
theorem Sep.addI {H:ax} {n:Nat} {K:List bX} {ids:List Id} {d:Nat} (l:List Int) (h:Sep H n K ids):Sep (H.set (n,d) ⟨1,l.map av⟩) (n+1) (oI (.arr (n,d) l.length 0 l.length) l::K) ids:=by
  have:=Sep.rK (l:=[.c]) (d:=d) (els:=l.map av) (es:=l.map av) h (bM.fresh (by intro e he;obtain⟨a,_,rfl⟩:=List.mem_map.1 he;simp[av]) (by simp));simpa using this
section
variable {H:ax} {n:Nat} {X:Id} {g idx:Nat} {els:List (List au)} {o:Option au} {b:I}
def ct (b:I) (es:List Int) (l:Int):Int × List Int:=if l >= b.edges then (l - b.edges,es) else if l ∈ es then (16+((es.idxOf l:Nat):Int),es) else (16+((es.length:Nat):Int),es++[l])
theorem e159:a8 prog 159:=a8.of func159 (by kernel_rfl) rfl
theorem Fl {pl c:au} {es:List Int} (hX:H X=some ⟨9+dk o,els⟩) (hg:els.length=g) (he:els[idx]?=some (cD o b (.list true (es.map av)) pl c)) {l:Int} (hl:bB (l - b.edges)) (hE:es.length<=1048576) :
    bE prog 160 [.ptr X g idx (dk o),int l] H n (fun r H1 U=>r=int (ct b es l).1/\H1=H.set X ⟨9+dk o,els.set idx (cD o b (.list true ((ct b es l).2.map av)) pl c)⟩/\U=n):=by
  refine bE.of func160 rfl ntmps160 (by simp) fun Q hQ=>?_
  subst hg;have hsame:=rD hX he;obtain⟨hi,he⟩:=List.getElem?_eq_some_iff.1 he;cases o
  all_goals
    refine zE fun _ V=>?_
    simp[dk];apply V;refine zS fun _ V=>?_
    simp[hX,he,hi,cD,dk,I.cells];apply V;refine J.ite rfl (fun hc1=>?_) (fun hc1=>?_)
    · have hp0:b.edges<=l:=by simpa using hc1
      refine zE fun _ V=>?_
      have f2:=fu hl rfl;simp[hX,he,hi,cD,dk,I.cells,f2,-aw];apply V;exact J.bj (v:=int (l - b.edges)) func160 results160 (by simp) (hQ _ _ _ ⟨by rw[ct,if_pos hp0],by rw[ct,if_pos hp0];exact hsame.symm,rfl⟩)
    · have hp0:¬ b.edges<=l:=by simpa using hc1
      apply J.skip;refine zE fun _ V=>?_
      simp[hX,he,hi,cD,dk,I.cells];refine zA (tl es l hE) Gp (.cons (aJ.dE (fr:=true) (els:=es.map av) (by simp[av])) (.cons (.v _ _ _) .nil)) (by simp) ?_;rintro _ rfl;simp;apply V;refine zS fun _ V=>?_
      simp;apply V;have hidx:=Ck es l;refine J.ite rfl (fun hc2=>?_) (fun hc2=>?_)
      · have hp1:dw es l<0:=by simpa using hc2
        have hm:l ∉ es:=fun h=>by have:=hidx.2.2.2 h;omega
        have hk:ct b es l=(16+((es.length:Nat):Int),es++[l]):=by rw[ct,if_neg hp0,if_neg hm]
        refine zE fun _ V=>?_
        have f1:=fun H=>aI (H:=H) (fr:=true) (f:=av) (l:=es) aS rfl
        simp[hX,he,hi,cD,dk,I.cells,f1,-aL];apply V;refine zF fun _ V=>?_
        simp[hX,he,hi,cD,dk,I.cells];refine bz.iX ay (qQ true es _ _) e142 (by decide) (by decide) rfl (by simp) ?_;rintro _ rfl;simp;refine bz.FN (fr:=true) (t':=true) (l:=es) (m:=[l]) ay (by decide) (by decide) aS ⟨rfl,rfl,by decide⟩ (by simp) (by simp[av]) (by simp) (by simp;omega) ?_;simp[hX,he,hi,cD,dk,I.cells];apply V;refine zE fun _ V=>?_
        have f3:=aU (show bB (16+(es.length:Int)) by simp only[bB];omega) rfl;simp[f3,-aw];apply V;refine J.bj (v:=int (16+((es.length:Nat):Int))) func160 results160 (by simp) (hQ _ _ _ ⟨by rw[hk],?_,rfl⟩);rw[hk];simp[cD,dk,I.cells]
      · have hp1:¬ dw es l<0:=by simpa using hc2
        have hm:l ∈ es:=hidx.2.2.1 (by omega);have hk:ct b es l=(16+((es.idxOf l:Nat):Int),es):=by rw[ct,if_neg hp0,if_pos hm]
        have hz:dw es l=((es.idxOf l:Nat):Int):=by rw[dw,if_pos hm]
        apply J.skip;refine zE fun _ V=>?_
        have f3:=aU (show bB (16+dw es l) by simp only[bB];omega) rfl;simp[f3,-aw];apply V;exact J.bj (v:=int (16+dw es l)) func160 results160 (by simp) (hQ _ _ _ ⟨by rw[hk,hz],by rw[hk];exact hsame.symm,rfl⟩)
theorem e160:a8 prog 160:=a8.of func160 (by kernel_rfl) rfl
theorem fX (b:I):∀ (l es:List Int) (a:Int),bL b es (l++[a])=((bL b es l).1++[(ct b (bL b es l).2 a).1],(ct b (bL b es l).2 a).2)
  | [],es,a=>by
    by_cases h1:a >= b.edges
    · simp[bL,ct,h1]
    · by_cases h2:a ∈ es<;>simp[bL,ct,h1,h2]
  | x::l,es,a=>by
    simp only[List.cons_append,bL]
    split
    · rw[fX b l];rfl
    · split
      · rw[fX b l];rfl
      · rw[fX b l];rfl
theorem eS (b:I):∀ (l es:List Int),(bL b es l).2.length<=es.length+l.length
  | [],es=>by simp[bL]
  | x::l,es=>by
    simp only[bL]
    split
    · have:=eS b l es;simp;omega
    · split
      · have:=eS b l es;simp;omega
      · have:=eS b l (es++[x]);simp at this ⊢;omega
set_option maxRecDepth 100000 in
theorem node_c {es pl code:List Int} {cv:au} {K:List bX} {ids:List Id} (hX:H X=some ⟨9+dk o,els⟩) (hg:els.length=g) (he:els[idx]?=some (cD o b (.list true (es.map av)) (.list true (pl.map av)) cv)) (hcv:Sub cv (.list true (code.map av)))
    {k num:Int} (hk:0<=k/\k<b.nodes.length) (hkp:k<pl.length) (hpp:(at' b.nodes k).parent<pl.length) (hp1:bB (-1 - (at' b.nodes k).parent)) (hp2:0<=(at' b.nodes k).parent->bB (4+at' pl (at' b.nodes k).parent))
    (hlk:∀ l ∈ (at' b.nodes k).links,bB (l - b.edges)) (hsz:es.length+(at' b.nodes k).links.length<=1048576) (hcz:code.length+(at' b.nodes k).links.length<=1048576) (hpz:pl.length<=1048576) (hxi:X ∉ ids) (M:Sep H n K (X::ids)) :
    bE prog 143 [.ptr X g idx (dk o),int k,int num] H n (fun r H1 U=>∃ vp vc,H1 X=some ⟨9+dk o,els.set idx (cD o b (.list true ((bL b es (at' b.nodes k).links).2.map av)) vp vc)⟩ /\
      Sep H1 U (oI vp (pl.set k.toNat num)::oI vc (code++(at' b.nodes k).control::cp pl (at' b.nodes k).parent::(bL b es (at' b.nodes k).links).1)::K) (X::ids)/\(∀ i ∈ ids,H1 i=H i)/\n<=U):=by
  refine bE.of func143 rfl ntmps143 (by simp) fun Q hQ=>?_
  subst hg;have he0:=he;obtain⟨hi,he⟩:=List.getElem?_eq_some_iff.1 he;have h00:=M.1;have lX:X.1<n:=h00 X (by simp);have neX:∀ m d,n<=m->(X=(m,d))=False:=fun m d hm=>by simp only[eq_iff_iff,iff_false];rintro rfl;simp at lX;omega
  have neI:∀ i ∈ ids,i ≠ (n,6):=fun i hi h=>by have:=h00 i (by simp[hi]);rw[h] at this;simp at this
  have nX0:=neX n 6 (Nat.le_refl _);have nX1:=neX (n+1) 30 (by omega);have nX2:∀ d,(X=(n+1,d))=False:=fun d=>neX (n+1) d (by omega)
  generalize hx:at' b.nodes k=x at *;refine zE fun _ V=>?_
  have f1:=fun H=>aP (H:=H) (fr:=false) (f:=az.cells false) (k:=.i64) b9 (fun _=>rfl) hk hx.symm
  simp[hX,he,hi,dV,fU,fc,I.cells,aB,f1,az.cells,encI,-ar];apply V;refine J.cut (fun O H1 U=>O 0 = .ptr X els.length idx (dk o)/\O 1=int k/\O 2=int num/\O 6 = .ptr (n,6) 1 0 0/\H1 (n,6)=some ⟨3,[az.cells false x]⟩/\H1 X=some ⟨9+dk o,els⟩/\U=n+1/\Sep H1 (n+1) K ((n,6)::X::ids)/\∀ i ∈ ids,H1 i=H i)
    ⟨by simp,by simp,by simp,by simp,by simp[az.cells,encI],by simp[nX0,hX],rfl,Sep.var M,fun i hi=>by rw[ax.aG _ _ (neI i hi)]⟩ ?_
  clear V f1;rintro O H1 _ ⟨r0,r1,r2,r6,m6,mX,rfl,sp1,fr1⟩;refine J.cO ay aA bq (by decide) (by kernel_rfl) fun _ V=>?_
  simp[r0,r6,mX,he,hi,dV,fU,fc,I.cells];refine bf.iX ay aA (bE.sub (.cons hcv .nil) (qQ true code _ _)) e142 (by decide) rfl (by simp) ?_;simp[r0,r6,m6,az.cells];refine bf.iX ay aA (AB mX rfl he0 hpp hp1 hp2) e159 (by decide) rfl (by simp[r0]) ?_;simp[List.range_succ];have nR:∀ i ∈ (n,6)::X::ids,i ≠ (n+1,30):=fun i hi h=>by have:=sp1.1 i hi;rw[h] at this;simp at this
  have sp2:=Sep.addI (d:=30) (code++[x.control,cp pl x.parent]) sp1;refine bf.Gt (fr:=true) (t':=true) (l:=code) (m:=[x.control,cp pl x.parent]) ay aA (by decide) aS ⟨rfl,rfl,by decide⟩ (by simp) (by simp[av]) (by simp) (by simp;omega) ?_;simp[r0,mX,he,hi,dV,fU,fc,gK,An,I.cells,nX2];apply V;have mX1:((H1.set (n+1,30) ⟨1,(code++[x.control,cp pl x.parent]).map av⟩).set X ⟨9+dk o,els.set idx (cD o b (.list true (es.map av)) (.list true (pl.map av)) (.arr (n+1,30) (code.length+2) 0 (code.length+2)))⟩) X=some ⟨9+dk o,els.set idx (cD o b (.list true (es.map av)) (.list true (pl.map av)) (.arr (n+1,30) (code.length+2) 0 (code.length+2)))⟩:=ax.bl _ _ _;refine J.cut (fun O H2 n2=>∃ vc,O 0 = .ptr X els.length idx (dk o)/\O 1=int k/\O 2=int num/\O 6 = .ptr (n,6) 1 0 0/\H2 (n,6)=some ⟨3,[az.cells false x]⟩/\H2 X=some ⟨9+dk o,els.set idx (cD o b (.list true (es.map av)) (.list true (pl.map av)) vc)⟩/\n<=n2/\Sep H2 n2 (oI vc (code++[x.control,cp pl x.parent])::K) (X::ids)/\∀ i ∈ ids,H2 i=H i)
    ⟨.arr (n+1,30) (code.length+2) 0 (code.length+2),by simp[r0],by simp[r1],by simp[r2],by simp[r6],?_,by simp[cD,I.cells],by omega,?_,fun i hi=>?_⟩ ?_
  · rw[ax.aG _ _ (fun h=>by simp[h] at nX0),ax.aG _ _ (by simp)];exact m6
  · have:=Sep.sub (dK:=X::ids) (Sep.bH (w:=X) (o:=⟨9+dk o,els.set idx (cD o b (.list true (es.map av)) (.list true (pl.map av)) (.arr (n+1,30) (code.length+2) 0 (code.length+2)))⟩) sp2 (by simp)) (by simp +contextual)
    simpa[cD,I.cells] using this
  · rw[ax.aG _ _ (show i ≠ X from fun h=>hxi (h ▸ hi)),ax.aG _ _ (nR i (by simp[hi]))];exact fr1 i hi
  clear V mX1 sp2 nR r0 r1 r2 r6 m6 mX sp1 fr1;rintro O H2 n2 ⟨vc,r0,r1,r2,r6,m6,mX,hn2,sp2,fr2⟩;refine zS fun _ V=>?_
  have f1:=fun H=>aI (H:=H) (fr:=false) (f:=av) (l:=x.links) aS rfl
  simp[r6,m6,az.cells,encI,f1,-aL];apply V;refine J.block (J.bO x.links.length (fun i O H3 n3=>∃ vc,O 0 = .ptr X els.length idx (dk o)/\O 1=int k/\O 2=int num/\O 34 = .list false (x.links.map av)/\O 35=int x.links.length/\O 36=int i /\
    H3 X=some ⟨9+dk o,els.set idx (cD o b (.list true ((bL b es (x.links.take i)).2.map av)) (.list true (pl.map av)) vc)⟩/\n<=n3/\Sep H3 n3 (oI vc (code++x.control::cp pl x.parent::(bL b es (x.links.take i)).1)::K) (X::ids)/\∀ i ∈ ids,H3 i=H i)
    ⟨vc,by simp[r0],by simp[r1],by simp[r2],by simp,by simp,by simp,by simpa[bL] using mX,hn2,by simpa[bL] using sp2,fr2⟩ ?_)
  clear V f1 r0 r1 r2 r6 m6 mX hn2 sp2 fr2;rintro i O H3 n3 hi3 ⟨vc,r0,r1,r2,c,j,r36,mX,hn3,sp3,fr3⟩ IH;refine zE fun _ V=>?_
  simp[j,r36];apply V;apply J.seq;refine J.ite rfl (fun hc1=>?_) (fun hc1=>?_)
  · have hc1:i<x.links.length:=by simpa using hc1
    apply zK;apply J.block;refine zE fun _ V=>?_
    have f1:=fun H=>aP (H:=H) (fr:=false) (f:=av) (l:=x.links) (k:=.i64) (i:=(i:Int)) aS (fun _=>rfl) ⟨by omega,by omega⟩ rfl
    simp[c,r36,f1,av,-ar];apply V;have hl8:at' x.links (i:Int) ∈ x.links:=by rw[bp hc1];exact List.getElem_mem hc1
    generalize ha:at' x.links (i:Int)=a at hl8;have htk:x.links.take (i+1)=x.links.take i++[a]:=by rw[<- List.take_append_getElem hc1,<- ha,bp hc1]
    have hsn:=fX b (x.links.take i) es a;have hE1:=eS b (x.links.take i) es;have hE2:(bL b es (x.links.take i)).1.length=(x.links.take i).length:=dJ _ _;rw[<- htk] at hsn;generalize bL b es (x.links.take i)=L at hsn hE1 hE2 mX sp3;have hti:(x.links.take i).length=i:=by simp;omega
    rw[hti] at hE1 hE2;refine J.Em (fun H n=>∃ es':List Int,H X=some ⟨9+dk o,els.set idx (cD o b (.list true (es'.map av)) (.list true (pl.map av)) vc)⟩) [7,9,12] (.free 0 (.free 1 (.free 2 (.free 3 (.free 4 (.free 5 (.free 6 (.aV 7 (.free 8 (.aV 9 (.free 10 (.free 11 (.aV 12 .fin .stop))) .stop)) .stop))))))))
      (fun O H3 n3=>∃ vc,O 0 = .ptr X els.length idx (dk o)/\O 1=int k/\O 2=int num/\O 34 = .list false (x.links.map av)/\O 35=int x.links.length/\O 36=int i /\
        H3 X=some ⟨9+dk o,els.set idx (cD o b (.list true ((bL b es (x.links.take (i+1))).2.map av)) (.list true (pl.map av)) vc)⟩/\n<=n3/\Sep H3 n3 (oI vc (code++x.control::cp pl x.parent::(bL b es (x.links.take (i+1))).1)::K) (X::ids)/\∀ i ∈ ids,H3 i=H i) bq (by decide) (by kernel_rfl) ?_ ?_
    · have hgX:∀ es':List Int,(els.set idx (cD o b (.list true (es'.map av)) (.list true (pl.map av)) vc))[idx]?=some (cD o b (.list true (es'.map av)) (.list true (pl.map av)) vc):=fun es'=>by rw[List.getElem?_set_self hi]
      refine RunT.free (.ptr X els.length idx (dk o)) rfl rfl ⟨_,mX⟩ (fun H n ⟨es',hS⟩=>aH ay (by rw[aF];simp[r0])) ?_;refine RunT.free (.ptr X els.length idx (dk o)) rfl rfl ⟨_,mX⟩ (fun H n ⟨es',hS⟩=>aH ay (by rw[aF];simp[r0])) ?_;refine RunT.free (.ptr X els.length idx (dk o)) rfl rfl ⟨_,mX⟩ (fun H n ⟨es',hS⟩=>aH ay (by rw[aF];simp[hS,hi])) ?_;refine RunT.free (.ptr X els.length idx (dk o+8)) rfl rfl ⟨_,mX⟩ (fun H n ⟨es',hS⟩=>aH ay (by rw[aF];simp[hS,hi])) ?_;refine RunT.free vc rfl rfl ⟨_,mX⟩ (fun H n ⟨es',hS⟩=>aH ay (by rw[aF];simp[hS,hi,dV,I.cells])) ?_;refine RunT.free (.ptr X els.length idx (dk o)) rfl rfl ⟨_,mX⟩ (fun H n ⟨es',hS⟩=>aH ay (by rw[aF];simp[r0])) ?_;refine RunT.free (int a) rfl rfl ⟨_,mX⟩ (fun H n ⟨es',hS⟩=>aH ay (by rw[aF];simp)) ?_;refine⟨?_,trivial⟩;refine RunT.As (fun r H1 U=>r=int (ct b L.2 a).1/\H1=H3.set X ⟨9+dk o,(els.set idx (cD o b (.list true (L.2.map av)) (.list true (pl.map av)) vc)).set idx (cD o b (.list true ((ct b L.2 a).2.map av)) (.list true (pl.map av)) vc)⟩/\U=n3) rfl rfl
        (aN.call (first:=[]) (captured:=[]) (by rw[eW.2];rfl) e160 (by rw[eW.1];simp[r0];simpa using Fl (n:=n3) mX (by simp) (hgX _) (hlk a hl8) (by omega))) ?_
      rintro _ _ _ ⟨rfl,rfl,rfl⟩;rw[List.set_set];have mX2:=ax.bl H3 X ⟨9+dk o,els.set idx (cD o b (.list true ((ct b L.2 a).2.map av)) (.list true (pl.map av)) vc)⟩;have sp4:=Sep.bH (w:=X) (o:=⟨9+dk o,els.set idx (cD o b (.list true ((ct b L.2 a).2.map av)) (.list true (pl.map av)) vc)⟩) sp3 (by simp);have fr4:∀ i ∈ ids,(H3.set X ⟨9+dk o,els.set idx (cD o b (.list true ((ct b L.2 a).2.map av)) (.list true (pl.map av)) vc)⟩) i=H i:=fun i hi=>by rw[ax.aG _ _ (show i ≠ X from fun h=>hxi (h ▸ hi))];exact fr3 i hi
      generalize H3.set X ⟨9+dk o,els.set idx (cD o b (.list true ((ct b L.2 a).2.map av)) (.list true (pl.map av)) vc)⟩=H4 at mX2 sp4 fr4;refine⟨fun _=>⟨_,mX2⟩,?_⟩;refine RunT.free (.list true [[int (ct b L.2 a).1]]) rfl rfl ⟨_,mX2⟩ (fun H n ⟨es',hS⟩=>aH ay (by rw[aF];simp[List.range_succ])) ?_;refine⟨?_,trivial⟩;refine RunT.append (v:=vc) (xv:=.list true [[int (ct b L.2 a).1]]) ay [] K [[int (ct b L.2 a).1]] [av (ct b L.2 a).1] rfl rfl (by simp) (by simp) sp4 aS (by simp) (by simp) (by simp[cA]) (by simp) (cf (bb.v _ bb.nil)) (by simp) (by simp;omega) ?_;rintro vn H5 n5 sp5 fr5 hn5;have mX5:H5 X=some ⟨9+dk o,els.set idx (cD o b (.list true ((ct b L.2 a).2.map av)) (.list true (pl.map av)) vc)⟩:=(fr5 X (by simp)).trans mX2;refine⟨fun _=>⟨_,mX5⟩,?_⟩;refine RunT.free (.ptr X els.length idx (dk o)) rfl rfl ⟨_,mX5⟩ (fun H n ⟨es',hS⟩=>aH ay (by rw[aF];simp[hS,hi])) ?_;refine RunT.free (.ptr X els.length idx (dk o+8)) rfl rfl ⟨_,mX5⟩ (fun H n ⟨es',hS⟩=>aH ay (by rw[aF];simp[hS,hi])) ?_;refine⟨?_,trivial⟩;have ho:=Sep.oc sp5;refine RunT.step (v:=.undef) (H':=H5.set X ⟨9+dk o,els.set idx (cD o b (.list true ((ct b L.2 a).2.map av)) (.list true (pl.map av)) vn)⟩) (n':=n5) ay rfl rfl ?_ (fun hl=>absurd (hl.symm.trans (show bn _ _ _=true by kernel_rfl)) (by decide)) ?_
      · simp[mX5,hi,dV,fU,fc,gK,An,I.cells,ho,-aE,-aM,bT,bu]
        simp[cD,I.cells]
      refine RunT.fin ⟨vn,by simp[r0],by simp[r1],by simp[r2],by simp[c],by simp[j],by simp[r36],by rw[hsn];exact ax.bl _ _ _,by omega,?_,fun i hi=>?_⟩
      · rw[hsn]
        have:=Sep.bH (w:=X) (o:=⟨9+dk o,els.set idx (cD o b (.list true ((ct b L.2 a).2.map av)) (.list true (pl.map av)) vn)⟩) sp5 (by simp);simpa[oI,oE] using this
      · rw[ax.aG _ _ (show i ≠ X from fun h=>hxi (h ▸ hi)),fr5 i (by simp[hi])];exact fr4 i hi
    · rintro O H4 n4 ⟨vc,r0,r1,r2,c,j,r36,mX,hn3,sp3,fr3⟩
      refine zI fun _ V=>?_
      have f2:=aU (show bB ((i:Int)+1) by simp only[bB];omega) (show ((i+1:Nat):Int)=(i:Int)+1 by omega);simp[r36,f2,-aw];apply V;exact IH hc1 _ _ _ ⟨vc,by simp[r0],by simp[r1],by simp[r2],by simp[c],by simp[j],by simp,mX,hn3,sp3,fr3⟩
  · have hc2:¬ i<x.links.length:=by simpa using hc1
    have hc1:i=x.links.length:=by omega
    subst hc1;refine J.exit rfl ?_;rw[List.take_length] at mX sp3;refine zE fun _ V=>?_
    generalize bL b es x.links=L at mX sp3 hQ;have hgX:∀ e,(els.set idx e)[idx]?=some e:=fun e=>by rw[List.getElem?_set_self hi]
    simp[r0,mX,hi,dV,I.cells];refine zW (tG pl hpz) e106 (.cons (aJ.dE (fr:=true) (els:=pl.map av) (by simp[av])) .nil) sp3 (by simp) ?_;rintro vp H4 n4 _ sp4 rfl hn4 fr4;have mX4:=(fr4 X (by simp)).trans mX;have ho:=Sep.oc sp4;simp[r0,mX4,hi,dV,fU,fc,gK,He,I.cells,ho,-aE,-aM,bT,bu];apply V;refine J.cut (fun O H5 n5=>O 0 = .ptr X els.length idx (dk o)/\O 1=int k/\O 2=int num/\H5 X=some ⟨9+dk o,els.set idx (cD o b (.list true (L.2.map av)) vp vc)⟩/\n<=n5/\Sep H5 n5 (oI vp pl::oI vc (code++x.control::cp pl x.parent::L.1)::K) (X::ids)/\∀ i ∈ ids,H5 i=H i)
      ⟨by simp[r0],by simp[r1],by simp[r2],by simp[cD,I.cells],by omega,Sep.bH sp4 (by simp),fun i hi=>by rw[ax.aG _ _ (show i ≠ X from fun h=>hxi (h ▸ hi)),fr4 i (by simp[hi])];exact fr3 i hi⟩ ?_
    clear V mX4 ho sp4 fr4 r0 r1 r2 mX sp3 fr3 hn4 hn3 c j r36;rintro O H5 n5 ⟨r0,r1,r2,mX,hn5,sp5,fr5⟩;have hkb:0<=k/\k<pl.length:=⟨hk.1,hkp⟩
    obtain⟨id,rfl,mo,ln,ni⟩:=Sep.eA sp5 (by simp) hkb;refine zF fun _ V=>?_
    have f1:=fun H (hm:H id=some ⟨1,pl.map av⟩)=>cH (H:=H) (k:=.i64) (off:=0) (len:=pl.length) (g:=pl.length) aS hm (by simp) rfl hkb
    simp[r0,r1,r2,mX,hi,dV,fU,fc,gK,He,I.cells,f1 _ mo,-ar,-cq];refine cL (q:=k.toNat) (news:=av num) [] (oI vc (code++x.control::cp pl x.parent::L.1)::K) sp5 (by simp) (by simp;omega) (by simp) (by simp[-aM,bu]) (bb.v _ bb.nil) ?_;rintro H6 sp6 fr6;simp;apply V;refine J.fin func143 (aR.zero results143) (hQ _ _ _ ⟨_,vc,(fr6 X (by simp)).trans mX,?_,fun i hi=>(fr6 i (by simp[hi])).trans (fr5 i hi),hn5⟩);have:=sp6;rw[<- List.map_set] at this;exact this
theorem e143:a8 prog 143:=a8.of func143 (by kernel_rfl) rfl
set_option maxRecDepth 100000 in
theorem rest_c {es pl code:List Int} {cv:au} {K:List bX} {ids:List Id} (hX:H X=some ⟨9+dk o,els⟩) (hg:els.length=g) (he:els[idx]?=some (cD o b (.list true (es.map av)) (.list true (pl.map av)) cv))
    (hp:∀ p ∈ b.sites,p<pl.length/\bB (-1 - p)/\(0<=p->bB (4+at' pl p))) (hlk:∀ w ∈ b.inner,bB (w.link - b.edges)) (hsz:es.length+b.inner.length<=1048576) (hcz:code.length+b.sites.length+b.inner.length<=1048576) (hxi:X ∉ ids) (M:Sep H n (oI cv code::K) (X::ids)) :
    bE prog 145 [.ptr X g idx (dk o)] H n (fun r H1 U=>∃ vc,H1 X=some ⟨9+dk o,els.set idx (cD o b (.list true ((bL b es (b.inner.map fun w=>w.link)).2.map av)) (.list true (pl.map av)) vc)⟩ /\
      Sep H1 U (oI vc (code++(b.sites.map (cp pl)++(bL b es (b.inner.map fun w=>w.link)).1))::K) (X::ids)/\(∀ i ∈ ids,H1 i=H i)/\n<=U):=by
  refine bE.of func145 rfl ntmps145 (by simp) fun Q hQ=>?_
  subst hg;have he0:=he;obtain⟨hi,he⟩:=List.getElem?_eq_some_iff.1 he;have hgX:∀ e,(els.set idx e)[idx]?=some e:=fun e=>by rw[List.getElem?_set_self hi]
  have neX0:∀ (H3:ax) (n3:Nat),(∀ i ∈ X::ids,i.1<n3)->X ≠ (n3,5):=fun _ n3 h e=>by have:=h X (by simp);rw[e] at this;simp at this
  refine zS fun _ V=>?_
  have f1:=fun H=>aI (H:=H) (fr:=false) (f:=av) (l:=b.sites) aS rfl
  simp[hX,he,hi,dV,I.cells,encI,f1,-aL];apply V;refine J.block (J.bO b.sites.length (fun i O H3 n3=>∃ vc,O 0 = .ptr X els.length idx (dk o)/\O 10 = .list false (b.sites.map av)/\O 11=int b.sites.length/\O 12=int i /\
    H3 X=some ⟨9+dk o,els.set idx (cD o b (.list true (es.map av)) (.list true (pl.map av)) vc)⟩/\n<=n3/\Sep H3 n3 (oI vc (code++(b.sites.take i).map (cp pl))::K) (X::ids)/\∀ i ∈ ids,H3 i=H i)
    ⟨cv,by simp,by simp,by simp,by simp,by rw[<- he,List.set_getElem_self];exact hX,Nat.le_refl _,by simpa using M,fun _ _=>rfl⟩ ?_)
  clear V f1 he0 hX M;rintro i O H3 n3 hi3 ⟨vc,r0,u,y,j,mX,hn3,sp3,fr3⟩ IH;refine zE fun _ V=>?_
  simp[y,j];apply V;apply J.seq;refine J.ite rfl (fun hc1=>?_) (fun hc1=>?_)
  · have hc1:i<b.sites.length:=by simpa using hc1
    apply zK;apply J.block;refine zE fun _ V=>?_
    have f1:=fun H=>aP (H:=H) (fr:=false) (f:=av) (l:=b.sites) (k:=.i64) (i:=(i:Int)) aS (fun _=>rfl) ⟨by omega,by omega⟩ rfl
    simp[u,j,f1,av,-ar];apply V;have hl8:at' b.sites (i:Int) ∈ b.sites:=by rw[bp hc1];exact List.getElem_mem hc1
    generalize ha:at' b.sites (i:Int)=a at hl8;have htk:b.sites.take (i+1)=b.sites.take i++[a]:=by rw[<- List.take_append_getElem hc1,<- ha,bp hc1]
    obtain⟨hp1,hp2,hp3⟩:=hp a hl8;refine J.gf ay aA bq (by decide) (by kernel_rfl) fun _ V=>?_
    simp[r0,mX,hi,dV,I.cells];refine bf.iX ay aA (AB (g:=els.length) mX (by simp) (hgX _) hp1 hp2 hp3) e159 (by decide) rfl (by simp[r0]) ?_;simp[List.range_succ,-bo];refine dh [] K [[int (cp pl a)]] [av (cp pl a)] sp3 aS (by simp) (by simp) (by simp[cA]) (by simp) (cf (bb.v _ bb.nil)) (by simp) (by simp;omega) ?_;rintro vn H4 n4 sp4 fr4 hn4;have mX4:=(fr4 X (by simp)).trans mX;have ho:=Sep.oc sp4;simp[r0,mX4,hi,dV,fU,fc,gK,An,I.cells,ho,-aE,-aM,bT,bu];apply V;refine zI fun _ V=>?_
    have f2:=aU (show bB ((i:Int)+1) by simp only[bB];omega) (show ((i+1:Nat):Int)=(i:Int)+1 by omega);simp[j,f2,-aw];apply V;refine IH hc1 _ _ _ ⟨vn,by simp[r0],by simp[u],by simp[y],by simp,by simp[cD,I.cells],by omega,?_,fun i hi=>by rw[ax.aG _ _ (show i ≠ X from fun h=>hxi (h ▸ hi)),fr4 i (by simp[hi])];exact fr3 i hi⟩;rw[htk];have:=Sep.bH (w:=X) (o:=⟨9+dk o,els.set idx (cD o b (.list true (es.map av)) (.list true (pl.map av)) vn)⟩) sp4 (by simp);simpa[oI,oE,cD,I.cells] using this
  · have hc2:¬ i<b.sites.length:=by simpa using hc1
    have hc1:i=b.sites.length:=by omega
    subst hc1;refine J.exit rfl ?_;rw[List.take_length] at sp3;clear IH hi3 u y j;refine zE fun _ V=>?_
    have f1:=fun H=>aI (H:=H) (fr:=false) (f:=aQ.cells) (l:=b.inner) dM rfl
    simp[r0,mX,hi,dV,I.cells,aD,f1,-aL];apply V;refine J.block (J.bO b.inner.length (fun i O H3 n3=>∃ vc,O 0 = .ptr X els.length idx (dk o)/\O 33 = .list false (b.inner.map aQ.cells)/\O 34=int b.inner.length/\O 35=int i /\
      H3 X=some ⟨9+dk o,els.set idx (cD o b (.list true ((bL b es ((b.inner.map fun w=>w.link).take i)).2.map av)) (.list true (pl.map av)) vc)⟩/\n<=n3/\Sep H3 n3 (oI vc (code++(b.sites.map (cp pl)++(bL b es ((b.inner.map fun w=>w.link).take i)).1))::K) (X::ids)/\∀ i ∈ ids,H3 i=H i)
      ⟨vc,by simp[r0],by simp,by simp,by simp,by simpa[bL] using mX,hn3,by simpa[bL] using sp3,fr3⟩ ?_)
    clear V f1 r0 mX hn3 sp3 fr3;rintro i O H3 n3 hi3 ⟨vc,r0,q,t,c,mX,hn3,sp3,fr3⟩ IH;refine zE fun _ V=>?_
    simp[t,c];apply V;apply J.seq;refine J.ite rfl (fun hc1=>?_) (fun hc1=>?_)
    · have hc1:i<b.inner.length:=by simpa using hc1
      apply zK;apply J.block;refine zE fun _ V=>?_
      have f1:=fun H=>aP (H:=H) (fr:=false) (f:=aQ.cells) (l:=b.inner) (k:=.i64) (i:=(i:Int)) dM (fun _=>rfl) ⟨by omega,by omega⟩ rfl
      simp[q,c,f1,aQ.cells,-ar];apply V;have hl8:at' b.inner (i:Int) ∈ b.inner:=by rw[bp hc1];exact List.getElem_mem hc1
      have hlw:=hlk _ hl8;generalize ha:at' b.inner (i:Int)=w at hl8 hlw;have htk:(b.inner.map fun w=>w.link).take (i+1)=(b.inner.map fun w=>w.link).take i++[w.link]:=by
        have hcm:i<(b.inner.map fun w=>w.link).length:=by simpa using hc1
        rw[<- List.take_append_getElem hcm,<- ha,bp hc1];simp
      have hsn:=fX b ((b.inner.map fun w=>w.link).take i) es w.link;have hE1:=eS b ((b.inner.map fun w=>w.link).take i) es;have hE2:(bL b es ((b.inner.map fun w=>w.link).take i)).1.length=((b.inner.map fun w=>w.link).take i).length:=dJ _ _;rw[<- htk] at hsn;generalize bL b es ((b.inner.map fun w=>w.link).take i)=L at hsn hE1 hE2 mX sp3;have hti:((b.inner.map fun w=>w.link).take i).length=i:=by simp;omega
      rw[hti] at hE1 hE2;have nX:=neX0 H3 n3 sp3.1;have spv:=Sep.var (d:=5) (o:=⟨2,[[str w.name,int w.link]]⟩) sp3;have mXv:(H3.set (n3,5) ⟨2,[[str w.name,int w.link]]⟩) X=some ⟨9+dk o,els.set idx (cD o b (.list true (L.2.map av)) (.list true (pl.map av)) vc)⟩:=by rw[ax.aG _ _ nX];exact mX
      have mWv:(H3.set (n3,5) ⟨2,[[str w.name,int w.link]]⟩) (n3,5)=some ⟨2,[[str w.name,int w.link]]⟩:=ax.bl _ _ _;have frv:∀ i ∈ ids,(H3.set (n3,5) ⟨2,[[str w.name,int w.link]]⟩) i=H i:=fun i hi=>by rw[ax.aG _ _ (fun h=>by have:=sp3.1 i (by simp[hi]);rw[h] at this;simp at this)];exact fr3 i hi
      generalize H3.set (n3,5) ⟨2,[[str w.name,int w.link]]⟩=H3v at spv mXv mWv frv;refine J.Em (fun H n=>(∃ es':List Int,H X=some ⟨9+dk o,els.set idx (cD o b (.list true (es'.map av)) (.list true (pl.map av)) vc)⟩)/\H (n3,5)=some ⟨2,[[str w.name,int w.link]]⟩) [8,10,13] (.free 0 (.free 1 (.free 2 (.free 3 (.free 4 (.free 5 (.free 6 (.free 7 (.aV 8 (.free 9 (.aV 10 (.free 11 (.free 12 (.aV 13 .fin .stop))) .stop)) .stop)))))))))
        (fun O H3 n3=>∃ vc,O 0 = .ptr X els.length idx (dk o)/\O 33 = .list false (b.inner.map aQ.cells)/\O 34=int b.inner.length/\O 35=int i /\
          H3 X=some ⟨9+dk o,els.set idx (cD o b (.list true ((bL b es ((b.inner.map fun w=>w.link).take (i+1))).2.map av)) (.list true (pl.map av)) vc)⟩/\n<=n3/\Sep H3 n3 (oI vc (code++(b.sites.map (cp pl)++(bL b es ((b.inner.map fun w=>w.link).take (i+1))).1))::K) (X::ids)/\∀ i ∈ ids,H3 i=H i) bq (by decide) (by kernel_rfl) ?_ ?_
      · refine RunT.free (.ptr X els.length idx (dk o)) rfl rfl ⟨⟨_,mXv⟩,mWv⟩ (fun H n ⟨⟨es',hS⟩,hW⟩=>aH ay (by rw[aF];simp[r0])) ?_
        refine RunT.free (.ptr X els.length idx (dk o)) rfl rfl ⟨⟨_,mXv⟩,mWv⟩ (fun H n ⟨⟨es',hS⟩,hW⟩=>aH ay (by rw[aF];simp[r0])) ?_;refine RunT.free (.ptr X els.length idx (dk o)) rfl rfl ⟨⟨_,mXv⟩,mWv⟩ (fun H n ⟨⟨es',hS⟩,hW⟩=>aH ay (by rw[aF];simp[hS,hi])) ?_;refine RunT.free (.ptr X els.length idx (dk o+8)) rfl rfl ⟨⟨_,mXv⟩,mWv⟩ (fun H n ⟨⟨es',hS⟩,hW⟩=>aH ay (by rw[aF];simp[hS,hi])) ?_;refine RunT.free vc rfl rfl ⟨⟨_,mXv⟩,mWv⟩ (fun H n ⟨⟨es',hS⟩,hW⟩=>aH ay (by rw[aF];simp[hS,hi,dV,I.cells])) ?_;refine RunT.free (.ptr X els.length idx (dk o)) rfl rfl ⟨⟨_,mXv⟩,mWv⟩ (fun H n ⟨⟨es',hS⟩,hW⟩=>aH ay (by rw[aF];simp[r0])) ?_;refine RunT.free (.ptr (n3,5) 1 0 1) rfl rfl ⟨⟨_,mXv⟩,mWv⟩ (fun H n ⟨⟨es',hS⟩,hW⟩=>aH ay (by rw[aF];simp[hW])) ?_;refine RunT.free (int w.link) rfl rfl ⟨⟨_,mXv⟩,mWv⟩ (fun H n ⟨⟨es',hS⟩,hW⟩=>aH ay (by rw[aF];simp[hW])) ?_;refine⟨?_,trivial⟩;refine RunT.As (fun r H1 U=>r=int (ct b L.2 w.link).1/\H1=H3v.set X ⟨9+dk o,(els.set idx (cD o b (.list true (L.2.map av)) (.list true (pl.map av)) vc)).set idx (cD o b (.list true ((ct b L.2 w.link).2.map av)) (.list true (pl.map av)) vc)⟩/\U=n3+1) rfl rfl
          (aN.call (first:=[]) (captured:=[]) (by rw[eW.2];rfl) e160 (by rw[eW.1];simp[r0];simpa using Fl (n:=n3+1) mXv (by simp) (hgX _) hlw (by omega))) ?_
        rintro _ _ _ ⟨rfl,rfl,rfl⟩;rw[List.set_set];have mX2:=ax.bl H3v X ⟨9+dk o,els.set idx (cD o b (.list true ((ct b L.2 w.link).2.map av)) (.list true (pl.map av)) vc)⟩;have mW2:(H3v.set X ⟨9+dk o,els.set idx (cD o b (.list true ((ct b L.2 w.link).2.map av)) (.list true (pl.map av)) vc)⟩) (n3,5)=some ⟨2,[[str w.name,int w.link]]⟩:=by rw[ax.aG _ _ (fun h=>nX h.symm)];exact mWv
        have sp4:=Sep.bH (w:=X) (o:=⟨9+dk o,els.set idx (cD o b (.list true ((ct b L.2 w.link).2.map av)) (.list true (pl.map av)) vc)⟩) spv (by simp);have fr4:∀ i ∈ ids,(H3v.set X ⟨9+dk o,els.set idx (cD o b (.list true ((ct b L.2 w.link).2.map av)) (.list true (pl.map av)) vc)⟩) i=H i:=fun i hi=>by rw[ax.aG _ _ (show i ≠ X from fun h=>hxi (h ▸ hi))];exact frv i hi
        generalize H3v.set X ⟨9+dk o,els.set idx (cD o b (.list true ((ct b L.2 w.link).2.map av)) (.list true (pl.map av)) vc)⟩=H4 at mX2 sp4 fr4 mW2;refine⟨fun _=>⟨⟨_,mX2⟩,mW2⟩,?_⟩;refine RunT.free (.list true [[int (ct b L.2 w.link).1]]) rfl rfl ⟨⟨_,mX2⟩,mW2⟩ (fun H n ⟨⟨es',hS⟩,hW⟩=>aH ay (by rw[aF];simp[List.range_succ])) ?_;refine⟨?_,trivial⟩;refine RunT.append (v:=vc) (xv:=.list true [[int (ct b L.2 w.link).1]]) ay [] K [[int (ct b L.2 w.link).1]] [av (ct b L.2 w.link).1] rfl rfl (by simp) (by simp) sp4 aS (by simp) (by simp) (by simp[cA]) (by simp) (cf (bb.v _ bb.nil)) (by simp) (by simp;omega) ?_;rintro vn H5 n5 sp5 fr5 hn5;have mX5:H5 X=some ⟨9+dk o,els.set idx (cD o b (.list true ((ct b L.2 w.link).2.map av)) (.list true (pl.map av)) vc)⟩:=(fr5 X (by simp)).trans mX2;have mW5:=(fr5 (n3,5) (by simp)).trans mW2;refine⟨fun _=>⟨⟨_,mX5⟩,mW5⟩,?_⟩;refine RunT.free (.ptr X els.length idx (dk o)) rfl rfl ⟨⟨_,mX5⟩,mW5⟩ (fun H n ⟨⟨es',hS⟩,hW⟩=>aH ay (by rw[aF];simp[hS,hi])) ?_;refine RunT.free (.ptr X els.length idx (dk o+8)) rfl rfl ⟨⟨_,mX5⟩,mW5⟩ (fun H n ⟨⟨es',hS⟩,hW⟩=>aH ay (by rw[aF];simp[hS,hi])) ?_;refine⟨?_,trivial⟩;have ho:=Sep.oc sp5;refine RunT.step (v:=.undef) (H':=H5.set X ⟨9+dk o,els.set idx (cD o b (.list true ((ct b L.2 w.link).2.map av)) (.list true (pl.map av)) vn)⟩) (n':=n5) ay rfl rfl ?_ (fun hl=>absurd (hl.symm.trans (show bn _ _ _=true by kernel_rfl)) (by decide)) ?_
        · simp[mX5,hi,dV,fU,fc,gK,An,I.cells,ho,-aE,-aM,bT,bu]
          simp[cD,I.cells]
        refine RunT.fin ⟨vn,by simp[r0],by simp[q],by simp[t],by simp[c],by rw[hsn];exact ax.bl _ _ _,by omega,?_,fun i hi=>?_⟩
        · rw[hsn]
          have:=Sep.sub (dK:=X::ids) (Sep.bH (w:=X) (o:=⟨9+dk o,els.set idx (cD o b (.list true ((ct b L.2 w.link).2.map av)) (.list true (pl.map av)) vn)⟩) sp5 (by simp)) (by simp +contextual);simpa[oI,oE] using this
        · rw[ax.aG _ _ (show i ≠ X from fun h=>hxi (h ▸ hi)),fr5 i (by simp[hi])];exact fr4 i hi
      · rintro O H4 n4 ⟨vc,r0,q,t,c,mX,hn3,sp3,fr3⟩
        refine zI fun _ V=>?_
        have f2:=aU (show bB ((i:Int)+1) by simp only[bB];omega) (show ((i+1:Nat):Int)=(i:Int)+1 by omega);simp[c,f2,-aw];apply V;exact IH hc1 _ _ _ ⟨vc,by simp[r0],by simp[q],by simp[t],by simp,mX,hn3,sp3,fr3⟩
    · have hc2:¬ i<b.inner.length:=by simpa using hc1
      have hc1:i=b.inner.length:=by omega
      subst hc1;refine J.exit rfl ?_;have htl:(b.inner.map fun w=>w.link).take b.inner.length=b.inner.map fun w=>w.link:=List.take_of_length_le (by simp)
      rw[htl] at sp3 mX;exact J.fin func145 (aR.zero results145) (hQ _ _ _ ⟨vc,mX,sp3,fr3,hn3⟩)
end
end Go.Ab.Vg
namespace Go.Ab.Vg
open Go.Proofs
section
variable {H:ax} {n:Nat}
theorem e141:a8 prog 141:=a8.of func141 (by kernel_rfl) rfl
theorem e145:a8 prog 145:=a8.of func145 (by kernel_rfl) rfl
theorem xX {b:I} {K:List bX} {ids:List Id} (hb:b.nodes.length<=1048576) (M:Sep H n K ids) :
    bE prog 141 [.agg (I.cells false b)] H n (fun r H1 U=>∃ X,r = .ptr X 1 0 0/\X ∉ ids/\H1 X=some ⟨9,[cD none b (.v (.slice none 0 0)) (.list true ((List.replicate b.nodes.length (-1:Int)).map av)) (.v (.slice none 0 0))]⟩ /\
      Sep H1 U K (X::ids)/\(∀ i ∈ ids,H1 i=H i)/\n<=U):=by
  refine bE.of func141 rfl ntmps141 (by simp) fun Q hQ=>?_
  refine zE fun _ V=>?_
  simp[I.cells];apply V;refine J.cO ay aA bq (by decide) (by kernel_rfl) fun _ V=>?_
  have f1:=fun H=>aI (H:=H) (fr:=false) (f:=az.cells false) (l:=b.nodes) b9 rfl
  simp[aB,f1,List.range_succ,-aL];refine bf.bN ay aA ((B2 (-1) b.nodes.length ⟨by omega,by omega⟩).pure) e158 (.cons (aJ.dE (fr:=true) (els:=[av (-1)]) (by simp[av])) (.cons (.v _ _ _) .nil)) (by decide) rfl (by simp[av]) ?_;simp;apply V;refine J.bj (v:=.ptr (n+1,10) 1 0 0) func141 results141 (by simp) (hQ _ _ _ ⟨(n+1,10),rfl,fun h=>by have:=M.1 _ h;simp at this;omega,by simp[cD,I.cells,aB],?_,fun i hi=>?_,by omega⟩)
  · exact Sep.sub (Sep.var (Sep.var M)) (by simp +contextual)
  · have h1:=M.1 i hi
    rw[ax.aG _ _ (by rintro rfl;simp at h1;omega),ax.aG _ _ (by rintro rfl;simp at h1)]
theorem AT {o:Option au} {b:I} {ag P c:au} {φ:au->au} (hφ:∀ a,fY a->φ a=a) (hE:fY ag) (hP:φ P=P\/True):(cD o b ag P c).map φ=cD (o.map φ) b ag (φ P) (φ c):=by
  have h1:(I.cells false b).map φ=I.cells false b:=by
    conv=>rhs;rw[<- List.map_id (I.cells false b)]
    exact List.map_congr_left fun a ha=>hφ a (mN false b a ha)
  simp only[cD,List.map_append,h1,List.map_cons,List.map_nil,hφ ag hE];cases o<;>rfl
theorem Da (l:List Int):fY (.list true (l.map av)):=.list _ _ fun e he a ha=>by
  obtain⟨x,_,rfl⟩:=List.mem_map.1 he;simp only[av,List.mem_singleton] at ha;subst ha;exact .v _
structure tS (b:I) (m:Nat) (s:Cz):Prop where
  pl:s.pl.length=b.nodes.length
  es:s.es.length<=3 * m
  lo:∀ v ∈ s.pl,-1<=v/\v<=8
  num:s.num=m
theorem Hk (b:I):tS b 0 (jj b):=⟨by simp[jj],by simp[jj],fun v hv=>by have:=(List.mem_replicate.1 hv).2;omega,rfl⟩
theorem tS.step {sig:cZ} {b:I} {m:Nat} {s:Cz} {k:Int} (hv:bA sig b) (h:tS b m s) (hk:0<=k/\k<b.nodes.length) (hm:m<=8):tS b (m+1) (bJ b s k):=by
  have h3:=hv.ga hk;have h4:=eS b (at' b.nodes k).links s.es;refine⟨by simp[bJ,h.pl],?_,fun v hx=>?_,by simp[bJ,h.num]⟩
  · have:=h.es
    simp only[bJ,bt];omega
  · have hn:=h.num
    simp only[bJ] at hx;rcases List.mem_or_eq_of_mem_set hx with hx | rfl
    · exact h.lo v hx
    · omega
theorem tS.at {b:I} {m:Nat} {s:Cz} (h:tS b m s) {p:Int} (hp:0<=p/\p<s.pl.length):bB (4+at' s.pl p):=by
  have:=h.lo _ (at_mem hp);exact⟨by omega,by omega⟩
theorem bA.i64par {sig:cZ} {b:I} (h:bA sig b) {i:Int} (hi:0<=i/\i<b.nodes.length):bB (-1 - (at' b.nodes i).parent):=by
  have h1:=h.lN hi;have h2:=h.roots;have h3:=h.len;exact⟨by omega,by omega⟩
theorem bA.i64lnk {sig:cZ} {b:I} (h:bA sig b) {i:Int} (hi:0<=i/\i<b.nodes.length):∀ l ∈ (at' b.nodes i).links,bB (l - b.edges):=fun l hl=>by
  have h1:=h.kJ hi l hl;have h2:=h.edges;have h3:=h.outer;exact⟨by omega,by omega⟩
set_option maxRecDepth 100000 in
end
end Go.Ab.Vg
namespace Go.Ab.Vg
def cn (b:I) (es:List Int):List Int:=(List.range b.edges.toNat).map fun l:Nat=>if (l:Int) ∈ es then ((es.idxOf (l:Int):Nat):Int) else -1
structure lT (b:I) (es:List Int):Prop where
  ed:0<=b.edges/\b.edges<=8
  nd:es.Nodup
  rng:∀ x ∈ es,0<=x/\x<b.edges
theorem gN {b:I} {es:List Int} {l:Int} (h:0<=l/\l<b.edges):at' (cn b es) l=if l ∈ es then ((es.idxOf l:Nat):Int) else -1:=by
  obtain⟨k,rfl⟩:∃ k:Nat,l=k:=⟨l.toNat,by omega⟩
  rw[bp (show k<(cn b es).length by simp[cn];omega)];simp[cn]
theorem iO {b:I} {es:List Int} (h:lT b es):gA (cn b es)=(es.length:Int):=by
  have h1:(cn b es).filter (fun x=>decide (0<=x))=((List.range b.edges.toNat).filter fun l:Nat=>decide ((l:Int) ∈ es)).map fun l:Nat=>((es.idxOf (l:Int):Nat):Int):=by
    rw[cn,List.filter_map];generalize List.range b.edges.toNat=r
    induction r with
    | nil=>rfl
    | cons x r ih=>
      simp only[List.filter_cons,Function.comp]
      by_cases hx:(x:Int) ∈ es
      · have hx2:(0:Int)<=((es.idxOf (x:Int):Nat):Int):=by omega
        simp only[if_pos hx,hx,hx2,decide_true,if_true,List.map_cons];rw[ih]
      · have hx2:¬ (0:Int) <= -1:=by omega
        simp only[if_neg hx,hx,hx2,decide_false,Bool.false_eq_true,if_false];exact ih
  have h2:(((List.range b.edges.toNat).filter fun l:Nat=>decide ((l:Int) ∈ es)).map fun l:Nat=>(l:Int)).Perm es:=by
    refine (List.perm_ext_iff_of_nodup ?_ h.nd).2 fun a=>?_
    · exact List.Pairwise.map _ (fun a c hac=>by intro h;exact hac (by omega)) (List.Pairwise.filter _ List.nodup_range)
    · simp only[List.mem_map,List.mem_filter,List.mem_range,decide_eq_true_eq]
      refine⟨fun ⟨l,⟨_,h3⟩,h4⟩=>h4 ▸ h3,fun h3=>⟨a.toNat,⟨?_,?_⟩,?_⟩⟩
      · have:=h.rng a h3;omega
      · have:=h.rng a h3;rw[show ((a.toNat:Nat):Int)=a by omega];exact h3
      · have:=h.rng a h3;omega
  have h3:=h2.length_eq;rw[gA,h1];simp only[List.length_map] at h3 ⊢;omega
theorem EC {b:I} {es:List Int} (h:lT b es) {l:Int} (hl:0<=l/\l<b.edges) (hm:l ∉ es):(cn b es).set l.toNat (es.length:Int)=cn b (es++[l]):=by
  refine List.ext_getElem (by simp[cn]) fun i h1 h2=>?_
  simp only[cn,List.getElem_set,List.getElem_map,List.getElem_range,List.length_set,List.length_map,List.length_range] at h1 ⊢
  by_cases he:l.toNat=i
  · have hil:(i:Int)=l:=by omega
    rw[if_pos he,hil,if_pos (by simp),List.idxOf_append,if_neg hm];simp
  · rw[if_neg he]
    have hil:(i:Int) ≠ l:=by omega
    by_cases hi:(i:Int) ∈ es
    · rw[if_pos hi,if_pos (by simp[hi]),List.idxOf_append,if_pos hi]
    · rw[if_neg hi,if_neg (by simp[hi,hil])]
theorem lT.add {b:I} {es:List Int} (h:lT b es) {l:Int} (hl:0<=l/\l<b.edges) (hm:l ∉ es):lT b (es++[l]):=by
  refine⟨h.ed,?_,fun x hx=>?_⟩
  · rw[List.nodup_append]
    exact⟨h.nd,by simp,fun a ha c hc=>by simp only[List.mem_singleton] at hc;subst hc;exact fun e=>hm (e ▸ ha)⟩
  · rcases List.mem_append.1 hx with hx | hx
    · exact h.rng x hx
    · simp only[List.mem_singleton] at hx;subst hx;exact hl
theorem dX {b:I}:∀ (links es:List Int),lT b es->(∀ l ∈ links,0<=l)->eR b (cn b es) links=((bL b es links).1,cn b (bL b es links).2)/\lT b (bL b es links).2
  | [],es,h,_=>⟨rfl,h⟩
  | l::t,es,h,hl=>by
    have hl0:=hl l (by simp);have ht:∀ x ∈ t,0<=x:=fun x hx=>hl x (by simp[hx])
    simp only[eR,bL]
    by_cases h1:l >= b.edges
    · rw[if_pos h1,if_pos h1]
      obtain⟨e1,e2⟩:=dX t es h ht;exact⟨by rw[e1],e2⟩
    · have hr:0<=l/\l<b.edges:=⟨hl0,by omega⟩
      rw[if_neg h1,if_neg h1,gN hr]
      by_cases h2:l ∈ es
      · rw[if_pos h2,if_pos h2,if_neg (by omega)]
        obtain⟨e1,e2⟩:=dX t es h ht;exact⟨by rw[e1,gN hr,if_pos h2],e2⟩
      · rw[if_neg h2,if_neg h2,if_pos (by omega),iO h,EC h hr h2]
        obtain⟨e1,e2⟩:=dX t (es++[l]) (h.add hr h2) ht;refine⟨?_,e2⟩;rw[e1,gN hr,if_pos (by simp),List.idxOf_append,if_neg h2];simp
def sb (b:I) (order:List Int):Nat->List Int × Cz
  | 0=>([],jj b)
  | i+1=>((sb b order i).1++(bt b (sb b order i).2 (at' order (i:Int))).1,bJ b (sb b order i).2 (at' order (i:Int)))
theorem EK {sig:cZ} {b:I} {order:List Int} (hv:bA sig b) (ho:∀ k ∈ order,0<=k/\k<b.nodes.length):∀ i≤order.length,lD b order i=⟨(sb b order i).1,cn b (sb b order i).2.es,(sb b order i).2.pl⟩/\lT b (sb b order i).2.es/\(sb b order i).2.num=i
  | 0,_=>by
    refine⟨?_,⟨hv.edges,by simp[sb,jj],by simp[sb,jj]⟩,rfl⟩;simp only[lD,sb,jj,gX,cn,Rz.mk.injEq,true_and];refine⟨?_,by simp⟩;simp only[List.not_mem_nil,if_false];rw[List.map_const',List.length_range]
  | i+1,h=>by
    obtain⟨e1,e2,e3⟩:=EK hv ho i (by omega);have hm:=ho (at' order (i:Int)) (by rw[bp (show i<order.length by omega)];exact List.getElem_mem _);have hl:=hv.kJ hm;obtain⟨t1,t2⟩:=dX (at' b.nodes (at' order (i:Int))).links _ e2 fun l hl2=>(hl l hl2).1
    refine⟨?_,t2,by simp[sb,bJ,e3]⟩;simp only[lD,sb,oT,e1,ep,t1,bt,bJ,e3]
theorem Bh {sig:cZ} {b:I} {order:List Int} (hv:bA sig b) (ho:∀ k ∈ order,0<=k/\k<b.nodes.length) :
    ma b order=((sb b order order.length).1++(iy b (sb b order order.length).2).1,cn b (iy b (sb b order order.length).2).2):=by
  obtain⟨e1,e2,e3⟩:=EK hv ho order.length (Nat.le_refl _);obtain⟨t1,t2⟩:=dX (b.inner.map fun w=>w.link) _ e2 fun l hl=>by
    obtain⟨w,hw,rfl⟩:=List.mem_map.1 hl;exact (hv.wires w hw).1
  simp only[ma,e1,lH,t1,iy]
end Go.Ab.Vg
namespace Go.Ab.Vg
section
variable {P:Program} {N:Nat} {Ty:Types} {O:Env} {H:ax} {n:Nat}
variable {d:Option Tmp} {ty:TypeId} {pos:String} {af:Array Edge} {gu:Option (Nat × Bool)}
theorem aN.FO (hT:aW P Ty) {t:TypeId} {x hi mx:Operand} {j:TI} {L:Id} {gn sz:Nat} {els:List (List au)} (hk:kd Ty t = .slice j) (hx:O.ev x = .arr L gn 0 gn) (hL:H L=some ⟨sz,els⟩) (hg:els.length=gn)
    (E:O.ev hi=int 0) (hm:O.ev mx=int 0) :
    aN P N ⟨d,.slice t x none (some hi) (some mx),ty,pos,af,gu⟩ O H n fun v1 H1 U=>v1 = .list true []/\H1=H/\U=n:=
  aN.pure fun c a hH g r=>by
    obtain⟨i,e,hi',hd,hj⟩:=cw hk;have hde:=(hT t i hi').bI c.w;have hsz:=(hT e j hj).cF c.w;have rx:=r.ev x;rw[hx] at rx;have e1:=mI r E;have e2:=mI r hm;have hb:∀ len cap:Nat,len<=cap->(Instr.sliceBounds true len cap none (some (a.eval hi)) (some (a.eval mx))).run P c.w = .ok (0,0,0) c.w:=fun len cap eH=>by
      have b1:∀ cap code,(Instr.sliceBound (.int .i64 0) cap code).run P c.w = .ok 0 c.w:=fun cap code=>iS (by omega) (by omega)
      simp[Instr.sliceBounds,e1,e2,b1]
    generalize hvx:a.eval x=vx at rx;cases rx with
    | arr _ _ _ _ _ hone hn hgl hp=>
      obtain⟨p1,ad,cap,rfl,hab,hsp,hlc,hoff,hcl⟩:=hp _ (by rw[hH];exact hL) hg;have h1:=hb gn cap hlc;refine⟨.slice (some ad) 0 0,?_,?_⟩
      · simp[execOp,Instr.sliceAt,Instr.slice,hde,hd,hvx,h1,hsz]
      · exact .list true [] ad 0 0 (fun _ _=>Go.undef) (fun h=>absurd rfl h) (Nat.le_refl _) (fun h=>absurd rfl h) (fun i e he=>by simp at he) (fun i e j x he=>by simp at he) (fun i e j x he=>by simp at he)
end
abbrev rQ (_:Int):Bool:=false
def kH (x:Int) (Z:Bool->Prop):Prop:=
  ∀ c2:Bool,c2=decide (x ≠ x)->Z c2
theorem Cq (x:Int):kH x (fun y=>y=rQ x):=by
  unfold kH;simp
def pv (a b:Int):Int:=if a<b then -1 else if b<a then 1 else 0
def mE (x:Int) (y:Int) (Z:Int->Prop):Prop:=
  ∀ r2:Bool,r2=rQ x->∀ r3:Bool,r3=rQ y->((r2=true->((r3=true->Z 0)/\(r3=false->Z (-1))))/\(r2=false->((r3=true->Z 1)/\(r3=false->∀ c4:Bool,c4=decide (x<y)->((c4=true->Z (-1))/\(c4=false->∀ c6:Bool,c6=decide (y<x)->((c6=true->Z 1)/\(c6=false->Z 0))))))))
theorem DI (x y:Int):mE x y (fun z=>z=pv x y):=by
  unfold mE;simp only[forall_eq,decide_eq_true_eq,decide_eq_false_iff_not,rQ];refine⟨fun h=>(by cases h),fun _=>⟨fun h=>(by cases h),fun _=>⟨fun h=>by rw[pv,if_pos h],fun h=>⟨fun h2=>by rw[pv,if_neg h,if_pos h2],fun h2=>by rw[pv,if_neg h,if_neg h2]⟩⟩⟩⟩
abbrev xf (a b:List Int):Prop:=a.length<=1048576/\b.length<=1048576
abbrev BI (a b:List Int):Int:=cmpL a b
def pV (s1:List Int) (s2:List Int) (Z:Int->Prop):Prop:=
  ∀ bh:Int,bh=(s1.length:Int)->aO (σ:=Int) (fun v6 K9=>∀ c10:Bool,c10=decide (v6<bh)->((c10=true->(0<=v6/\v6<s1.length)/\∀ x13:Int,x13=at' s1 v6->∀ len15:Int,len15=(s2.length:Int)->∀ c17:Bool,c17=decide (len15<=v6)->((c17=true->Z 1)/\(c17=false->(0<=v6/\v6<s2.length)/\∀ x20:Int,x20=at' s2 v6->∀ r23:Int,r23=pv x13 x20->∀ c24:Bool,c24=decide (r23 ≠ 0)->((c24=true->Z r23)/\(c24=false->(bB (v6+1))/\∀ v27:Int,v27=v6+1->K9 (v27))))))/\(c10=false->∀ len29:Int,len29=(s1.length:Int)->∀ len31:Int,len31=(s2.length:Int)->∀ c33:Bool,c33=decide (len29<len31)->((c33=true->Z (-1))/\(c33=false->Z 0))))) (0)
theorem Ga (a b:List Int) (h:xf a b):pV a b (fun z=>z=BI a b):=by
  unfold pV;obtain⟨h1,h2⟩:=h;simp only[forall_eq,decide_eq_true_eq,decide_eq_false_iff_not];refine aO.xj a.length (fun i=>i<=b.length/\cmpL (a.drop i) (b.drop i)=cmpL a b) ⟨by omega,rfl⟩ ?_;rintro i K hi ⟨hib,hI⟩ IH;refine⟨fun h3=>⟨⟨by omega,by omega⟩,fun h4=>?_,fun h4=>⟨⟨by omega,by omega⟩,fun h5=>?_,fun h5=>⟨by simp only[bB];omega,IH (by omega) ⟨by omega,?_⟩⟩⟩⟩,fun h3=>⟨fun h4=>?_,fun h4=>?_⟩⟩
  · rw[BI,<- hI,List.drop_of_length_le (l:=b) (by omega),List.drop_eq_getElem_cons (show i<a.length by omega)];rfl
  · rw[BI,<- hI,List.drop_eq_getElem_cons (show i<a.length by omega),List.drop_eq_getElem_cons (show i<b.length by omega)]
    rw[bp (show i<a.length by omega),bp (show i<b.length by omega)] at h5 ⊢;simp only[cmpL,pv] at h5 ⊢
    repeat' split
    all_goals first | rfl | omega | (exfalso;simp_all)
  · rw[<- hI,List.drop_eq_getElem_cons (show i<a.length by omega),List.drop_eq_getElem_cons (show i<b.length by omega)]
    rw[bp (show i<a.length by omega),bp (show i<b.length by omega)] at h5;have h6:=Classical.not_not.1 h5;simp only[pv] at h6;simp only[cmpL]
    split
    · rename_i h7;rw[if_pos h7] at h6;omega
    · rename_i h7
      rw[if_neg h7] at h6
      split
      · rename_i h8;rw[if_pos h8] at h6;omega
      · rfl
  · rw[BI,<- hI,List.drop_of_length_le (l:=a) (by omega),List.drop_eq_getElem_cons (show i<b.length by omega)];rfl
  · rw[BI,<- hI,List.drop_of_length_le (l:=a) (by omega),List.drop_of_length_le (l:=b) (by omega)];rfl
end Go.Ab.Vg
namespace Go.Ab.Vg
open Go.Proofs
set_option maxRecDepth 100000
attribute [local simp] av
theorem FH:a8 prog 175:=a8.of func175 (by kernel_rfl) rfl
theorem xD (x:Int) (Z:Bool->Prop) (h:kH x Z):aC prog 175 [int x] (fun r=>∃ y:Bool,Z y/\r=bool y):=by
  unfold kH at h;refine aC.of func175 rfl ntmps175 (by simp) fun Q hQ=>?_
  refine J.cut (fun O H n=>O 0=int x) (by simp[]) ?_;rintro O H U E;refine zE fun _ V=>?_
  simp[E];apply V;refine zE fun _ V=>?_
  obtain⟨c2,ec2,h⟩:=aK h;have f3:=cg (k:=.i64) ec2;simp[E,f3,-aw];apply V;exact J.bj (v:=bool c2) func175 results175 (by simp[E]) (hQ _ _ _ _ (.of (.v _)) ⟨c2,h,rfl⟩)
theorem sT (x:Int)  : aC prog 175 [int x] (fun r=>r=bool (rQ x)):=(xD x _ (Cq x )).mono (by rintro _ ⟨_,rfl,rfl⟩;rfl)
theorem e161:a8 prog 161:=a8.of func161 (by kernel_rfl) rfl
theorem zb (x:Int) (y:Int) (Z:Int->Prop) (h:mE x y Z):aC prog 161 [int x,int y] (fun r=>∃ y:Int,Z y/\r=int y):=by
  unfold mE at h;refine aC.of func161 rfl ntmps161 (by simp) fun Q hQ=>?_
  refine J.cut (fun O H n=>(O 0=int x/\O 1=int y)) (by simp[]) ?_;rintro O H U E;refine zE fun _ V=>?_
  simp[E];apply V;refine zE fun _ V=>?_
  obtain⟨r2,er2,h⟩:=aK h;simp[E];refine zA (sT x ) FH (.cons (.v _ _ _) .nil) (by simp[E]) ?_;rintro _ rfl;rw[<- er2];simp[E];apply V;refine zE fun _ V=>?_
  obtain⟨r3,er3,h⟩:=aK h;simp[E];refine zA (sT y ) FH (.cons (.v _ _ _) .nil) (by simp[E]) ?_;rintro _ rfl;rw[<- er3];simp[E];apply V;refine zS fun _ V=>?_
  simp[E];apply V;refine J.ite (b:=r2) (by simp[E]) (fun dr2=>?_) (fun dr2=>?_)
  · replace h:=h.1 dr2
    refine zS fun _ V=>?_
    simp[E,dr2];apply V;refine J.ite (b:=r3) (by simp[E,dr2]) (fun dr3=>?_) (fun dr3=>?_)
    · replace h:=h.1 dr3
      refine zE fun _ V=>?_
      simp[E,dr2,dr3];apply V;exact J.bj (v:=int 0) func161 results161 (by simp[E,dr2,dr3]) (hQ _ _ _ _ (.of (.v _)) ⟨0,h,rfl⟩)
    replace h:=h.2 dr3;apply J.skip;refine zE fun _ V=>?_
    simp[E,dr2,dr3];apply V;exact J.bj (v:=int (-1)) func161 results161 (by simp[E,dr2,dr3]) (hQ _ _ _ _ (.of (.v _)) ⟨(-1),h,rfl⟩)
  replace h:=h.2 dr2;apply J.skip;refine zS fun _ V=>?_
  simp[E,dr2];apply V;refine J.ite (b:=r3) (by simp[E,dr2]) (fun dr3=>?_) (fun dr3=>?_)
  · replace h:=h.1 dr3
    refine zE fun _ V=>?_
    simp[E,dr2,dr3];apply V;exact J.bj (v:=int 1) func161 results161 (by simp[E,dr2,dr3]) (hQ _ _ _ _ (.of (.v _)) ⟨1,h,rfl⟩)
  replace h:=h.2 dr3;apply J.skip;refine zS fun _ V=>?_
  obtain⟨c4,ec4,h⟩:=aK h;have f5:=aY (k:=.i64) ec4;simp[E,f5,dr2,dr3,-aw];apply V;refine J.ite (b:=c4) (by simp[E,dr2,dr3]) (fun dc4=>?_) (fun dc4=>?_)
  · replace h:=h.1 dc4
    refine zE fun _ V=>?_
    simp[E,dr2,dr3,dc4];apply V;exact J.bj (v:=int (-1)) func161 results161 (by simp[E,dr2,dr3,dc4]) (hQ _ _ _ _ (.of (.v _)) ⟨(-1),h,rfl⟩)
  replace h:=h.2 dc4;apply J.skip;refine zS fun _ V=>?_
  obtain⟨c6,ec6,h⟩:=aK h;have f7:=tJ (k:=.i64) ec6;simp[E,f7,dr2,dr3,dc4,-aw];apply V;refine J.cut (fun O H n=>O 19=bool c6) (by simp[E,f7,dr2,dr3,dc4,-aw]) ?_;clear E;rintro O H n8 E;refine J.ite (b:=c6) (by simp[E]) (fun dc6=>?_) (fun dc6=>?_)
  · replace h:=h.1 dc6
    refine zE fun _ V=>?_
    simp[E,dc6];apply V;exact J.bj (v:=int 1) func161 results161 (by simp[E,dc6]) (hQ _ _ _ _ (.of (.v _)) ⟨1,h,rfl⟩)
  replace h:=h.2 dc6;apply J.skip;refine zE fun _ V=>?_
  simp[E,dc6];apply V;exact J.bj (v:=int 0) func161 results161 (by simp[E,dc6]) (hQ _ _ _ _ (.of (.v _)) ⟨0,h,rfl⟩)
theorem ES (x:Int) (y:Int)  : aC prog 161 [int x,int y] (fun r=>r=int (pv x y)):=(zb x y _ (DI x y )).mono (by rintro _ ⟨_,rfl,rfl⟩;rfl)
theorem e146:a8 prog 146:=a8.of func146 (by kernel_rfl) rfl
theorem BU (s1:List Int) (s2:List Int) (Z:Int->Prop) (h:pV s1 s2 Z):aC prog 146 [.list false (s1.map av),.list false (s2.map av)] (fun r=>∃ y:Int,Z y/\r=int y):=by
  unfold pV at h;refine aC.of func146 rfl ntmps146 (by simp) fun Q hQ=>?_
  refine J.cut (fun O H n=>(O 0 = .list false (s1.map av)/\O 1 = .list false (s2.map av))) (by simp) ?_;rintro O H U E;refine zE fun _ V=>?_
  simp[E];apply V;refine zS fun _ V=>?_
  obtain⟨bh,elen2,h⟩:=aK h;have f3:=fun H=>aI (H:=H) (fr:=false) (f:=av) aS elen2
  simp[E,f3,-aL];apply V;apply J.block;refine J.aO h (fun (sJ:Int) O H n=>match sJ with | v6=>(O 0 = .list false (s1.map av)/\O 1 = .list false (s2.map av)/\O 9 = .list false (s1.map av)/\O 10=int bh/\O 11=int v6)) (by simp[E]) ?_;clear E;rintro v6 O H n7 K h E IH8;refine zE fun _ V=>?_
  obtain⟨l,o,h⟩:=aK h;have f11:=aY (k:=.i64) o;simp[E,f11,-aw];apply V;apply J.seq;refine J.ite (b:=l) (by simp[E]) (fun a=>?_) (fun a=>?_)
  · replace h:=h.1 a
    apply zK;apply J.block;refine zE fun _ V=>?_
    obtain⟨p,h⟩:=h;obtain⟨g,q,h⟩:=aK h;have f14:=fun H=>aP (H:=H) (fr:=false) (f:=av) (k:=.i64) aS (fun _=>rfl) p q
    simp[E,f14,a,-ar];apply V;refine zS fun _ V=>?_
    obtain⟨ab,t,h⟩:=aK h;have f16:=fun H=>aI (H:=H) (fr:=false) (f:=av) aS t
    obtain⟨u,A,h⟩:=aK h;have f18:=jM (k:=.i64) A;simp[E,f16,f18,a,-aw,-aL];apply V;refine J.ite (b:=u) (by simp[E,a]) (fun c=>?_) (fun c=>?_)
    · replace h:=h.1 c
      refine zE fun _ V=>?_
      simp[E,a,c];apply V;exact J.bj (v:=int 1) func146 results146 (by simp[E,a,c]) (hQ _ _ _ _ (.of (.v _)) ⟨1,h,rfl⟩)
    replace h:=h.2 c;apply J.skip;refine zE fun _ V=>?_
    obtain⟨B,h⟩:=h;obtain⟨i,C,h⟩:=aK h;have f21:=fun H=>aP (H:=H) (fr:=false) (f:=av) (k:=.i64) aS (fun _=>rfl) B C
    simp[E,f21,a,c,-ar];apply V;refine J.cut (fun O H n=>(O 0 = .list false (s1.map av)/\O 1 = .list false (s2.map av)/\O 6=int g/\O 7=int i/\O 9 = .list false (s1.map av)/\O 10=int bh/\O 11=int v6)) (by simp[E,f21,a,c,-ar]) ?_;clear E;rintro O H n22 E;refine zE fun _ V=>?_
    obtain⟨j,D,h⟩:=aK h;simp[E];refine zA (ES g i ) e161 (.cons (.v _ _ _) (.cons (.v _ _ _) .nil)) (by simp[E]) ?_;rintro _ rfl;rw[<- D];simp[E];apply V;refine zE fun _ V=>?_
    obtain⟨F,G,h⟩:=aK h;have f25:=cg (k:=.i64) G;simp[E,f25,-aw];apply V;refine J.ite (b:=F) (by simp[E]) (fun d=>?_) (fun d=>?_)
    · replace h:=h.1 d
      refine zE fun _ V=>?_
      simp[E,d];apply V;exact J.bj (v:=int j) func146 results146 (by simp[E,d]) (hQ _ _ _ _ (.of (.v _)) ⟨j,h,rfl⟩)
    replace h:=h.2 d;apply J.skip;refine zI fun _ V=>?_
    obtain⟨L,h⟩:=h;obtain⟨N,R,h⟩:=aK h;have f28:=aU L R;simp[E,f28,d,-aw];apply V;refine IH8 (N) _ _ _ h (by simp[E,d])
  replace h:=h.2 a;refine J.exit rfl ?_;refine zS fun _ V=>?_
  obtain⟨ac,T,h⟩:=aK h;have f30:=fun H=>aI (H:=H) (fr:=false) (f:=av) aS T
  obtain⟨ad,W,h⟩:=aK h;have f32:=fun H=>aI (H:=H) (fr:=false) (f:=av) aS W
  obtain⟨X,Y,h⟩:=aK h;have f34:=aY (k:=.i64) Y;simp[E,f30,f32,f34,a,-aw,-aL];apply V;refine J.ite (b:=X) (by simp[E,a]) (fun e=>?_) (fun e=>?_)
  · replace h:=h.1 e
    refine zE fun _ V=>?_
    simp[E,a,e];apply V;exact J.bj (v:=int (-1)) func146 results146 (by simp[E,a,e]) (hQ _ _ _ _ (.of (.v _)) ⟨(-1),h,rfl⟩)
  replace h:=h.2 e;apply J.skip;refine zE fun _ V=>?_
  simp[E,a,e];apply V;exact J.bj (v:=int 0) func146 results146 (by simp[E,a,e]) (hQ _ _ _ _ (.of (.v _)) ⟨0,h,rfl⟩)
theorem Am (s1:List Int) (s2:List Int) (hp:xf s1 s2):aC prog 146 [.list false (s1.map av),.list false (s2.map av)] (fun r=>r=int (BI s1 s2)):=(BU s1 s2 _ (Ga s1 s2 hp)).mono (by rintro _ ⟨_,rfl,rfl⟩;rfl)
end Go.Ab.Vg
namespace Go.Ab.Vg
open Go.Proofs
abbrev dx:=fZ × au
def bQ (b:I) (p:dx):List au:=cD (some (.list true (p.1.order.map av))) b (.list true (p.1.s.es.map av)) (.list true (p.1.s.pl.map av)) p.2
def ez (ps:List dx):List bX:=ps.map fun p=>oI p.2 p.1.code
def dN (out:List dx) (x:dx):List dx:=
  match out with
  | []=>[x]
  | w::t=>if cmpL x.1.code w.1.code<0 then [x] else if cmpL x.1.code w.1.code=0 then (w::t)++[x] else w::t
def dB (ps:List dx):List dx:=ps.foldl dN []
theorem F1 (out:List dx) (x:dx):dN out x ≠ []:=by
  cases out with
  | nil=>simp[dN]
  | cons w t=>
    simp only[dN]
    split
    · simp
    · split<;>simp
theorem Ea (out:List dx) (x:dx):(dN out x).map (·.1)=mi (out.map (·.1)) x.1:=by
  cases out with
  | nil=>rfl
  | cons w t=>
    simp only[dN,mi,List.map_cons]
    split
    · rfl
    · split
      · simp
      · rfl
theorem rC (ps:List dx):(dB ps).map (·.1)=fw (ps.map (·.1)):=by
  have:∀ (ps out:List dx),(ps.foldl dN out).map (·.1)=(ps.map (·.1)).foldl mi (out.map (·.1)):=by
    intro ps
    induction ps with
    | nil=>intro out;rfl
    | cons p ps ih=>intro out;simp only[List.foldl_cons,List.map_cons];rw[ih,Ea]
  exact this ps []
theorem FC {out:List dx} {x:dx}:∀ p ∈ dN out x,p ∈ out\/p=x:=by
  intro p hp;cases out with
  | nil=>simp only[dN,List.mem_singleton] at hp;exact .inr hp
  | cons w t=>
    simp only[dN] at hp
    split at hp
    · simp only[List.mem_singleton] at hp;exact .inr hp
    · split at hp
      · simp only[List.mem_append,List.mem_singleton] at hp;exact hp
      · exact .inl hp
theorem Sep.vH {H:ax} {n:Nat} {K:List bX} {ids:List Id} (h:Sep H n K ids) {v:au} {l:List Int} (he:oI v l ∈ K):Ab.aM v=true/\aE v=some [v]/\aJ H n v (.list false (l.map av)):=by
  obtain⟨K1,K2,rfl⟩:=List.append_of_mem he;have h1:=Sep.front (x:=oI v l) h;exact⟨h1.aM,h1.cells,Sep.dt h1 (bU (by intro e he a ha;obtain⟨x,_,rfl⟩:=List.mem_map.1 he;simp only[av,List.mem_singleton] at ha;subst ha;rfl))⟩
theorem J.G2 {P:Program} {f:FuncId} {N:Nat} {k:List Item} {Q:au->ax->Nat->Prop} {O:Env} {H:ax} {n:Nat} {id:Nat} {ops:List Oper} (h:∀ k':List Item,(∀ O H n,J P f N k O H n Q->J P f N k' O H n Q)->bz P f N k' Q ops.toArray ops O H n) :
    J P f N (.code (.region id ops.toArray false)::k) O H n Q:=J.region (h k fun _ _ _ h=>h)
theorem vX (b:I) (p:dx):(bQ b p).length=10:=by simp[bQ,cD,I.cells]
section
variable {H:ax} {n:Nat}
set_option maxRecDepth 100000 in
theorem tn {b:I} {ps:List dx} {K:List bX} {ids:List Id} {L:Id} (hne:ps ≠ []) (hL:H L=some ⟨10,ps.map (bQ b)⟩) (hc:∀ p ∈ ps,p.1.code.length<=1048576) (hlen:ps.length<=536870912) (M:Sep H n (ez ps++K) (L::ids)) (hLi:L ∉ ids) :
    bE prog 144 [.arr L ps.length 0 ps.length] H n (fun r H1 U=>∃ ae,r = .arr ae (dB ps).length 0 (dB ps).length/\H1 ae=some ⟨10,(dB ps).map (bQ b)⟩/\ae ∉ L::ids /\
      Sep H1 U (ez ps++K) (ae::L::ids)/\(∀ i ∈ L::ids,H1 i=H i)/\n<=U):=by
  refine bE.of func144 rfl ntmps144 (by simp) fun Q hQ=>?_
  refine zE fun _ V=>?_
  simp;apply V;refine zE fun _ V=>?_
  simp;refine bz.op ay (by decide) (by decide) rfl (aN.FO ay (L:=L) (gn:=ps.length) DM (by simp) hL (by simp) (by simp) (by simp)) ?_;rintro _ H n ⟨rfl,rfl,rfl⟩;simp;apply V;refine zS fun _ V=>?_
  simp[hL];apply V;refine J.block (J.bO ps.length (fun i O Hi ni=>O 9 = .arr L ps.length 0 ps.length/\O 10=int ps.length/\O 11=int i/\n<=ni/\(∀ j ∈ L::ids,Hi j=H j) /\
      (((ps.take i).foldl dN []=[]/\O 3 = .list true []/\Sep Hi ni (ez ps++K) (L::ids)) \/
       ∃ ae,(ps.take i).foldl dN [] ≠ []/\O 3 = .arr ae ((ps.take i).foldl dN []).length 0 ((ps.take i).foldl dN []).length/\Hi ae=some ⟨10,((ps.take i).foldl dN []).map (bQ b)⟩/\ae ∉ L::ids/\Sep Hi ni (ez ps++K) (ae::L::ids)))
    ⟨by simp,by simp,by simp,Nat.le_refl _,fun _ _=>rfl,.inl ⟨by simp,by simp,M⟩⟩ ?_)
  clear V M;rintro i O Hi ni hi ⟨r9,c,a,hni,fri,hout⟩ IH;refine zE fun _ V=>?_
  simp[c,a];apply V;apply J.seq;refine J.ite rfl (fun hc1=>?_) (fun hc1=>?_)
  · have hc1:i<ps.length:=by simpa using hc1
    apply zK;apply J.block;have htk:(ps.take (i+1)).foldl dN []=dN ((ps.take i).foldl dN []) ps[i]:=by rw[<- List.take_append_getElem hc1,List.foldl_append];rfl
    have hpm:ps[i] ∈ ps:=List.getElem_mem hc1;have hLi2:Hi L=some ⟨10,ps.map (bQ b)⟩:=(fri L (by simp)).trans hL;have hoc:Ab.aM ps[i].2=true/\aE ps[i].2=some [ps[i].2]:=by
      rcases hout with ⟨_,_,M⟩ | ⟨ae,_,_,_,_,M⟩
      · have:=Sep.vH M (v:=ps[i].2) (l:=ps[i].1.code) (List.mem_append_left _ (List.mem_map.2 ⟨_,hpm,rfl⟩));exact⟨this.1,this.2.1⟩
      · have:=Sep.vH M (v:=ps[i].2) (l:=ps[i].1.code) (List.mem_append_left _ (List.mem_map.2 ⟨_,hpm,rfl⟩));exact⟨this.1,this.2.1⟩
    generalize hp:ps[i]=p at htk hpm hoc;have hrow:(ps.map (bQ b))[i]?=some (bQ b p):=by rw[List.getElem?_map,List.getElem?_eq_getElem hc1,hp];rfl
    refine zE fun _ V=>?_
    have hX1:∀ i ∈ L::ids,i.1<ni:=by
      rcases hout with ⟨_,_,M⟩ | ⟨ae,_,_,_,_,M⟩
      · exact M.1
      · exact fun i hi=>M.1 i (List.mem_cons_of_mem _ hi)
    simp[r9,a,hLi2,hc1,hrow,hp,bQ,cD,I.cells,aB,encI,encS,aD,hoc,-aE,-aM,bT,bu];apply V;refine zE fun _ V=>?_
    simp;apply V;generalize hout0:(ps.take i).foldl dN []=outs at hout htk;refine J.cut (fun O Hi nj=>O 5 = .ptr (ni,5) 1 0 0/\O 6=int (-1)/\O 9 = .arr L ps.length 0 ps.length/\O 10=int ps.length/\O 11=int i/\n<=nj/\Hi (ni,5)=some ⟨10,[bQ b p]⟩/\(∀ j ∈ L::ids,Hi j=H j) /\
      ((outs=[]/\O 3 = .list true []/\Sep Hi nj (ez ps++K) ((ni,5)::L::ids)) \/
       ∃ ae,outs ≠ []/\O 3 = .arr ae outs.length 0 outs.length/\Hi ae=some ⟨10,outs.map (bQ b)⟩/\ae ∉ L::ids/\ae ≠ (ni,5)/\Sep Hi nj (ez ps++K) ((ni,5)::ae::L::ids)))
      ⟨by simp,by simp,by simp[r9],by simp[c],by simp[a],by omega,by simp[bQ,cD,I.cells,aB,encI,encS,aD],fun j hj=>?_,?_⟩ ?_
    · rw[ax.aG _ _ (by rintro rfl;have:=hX1 _ hj;simp at this)];exact fri j hj
    · rcases hout with ⟨h0,r3,M⟩ | ⟨ae,h0,r3,mO,hO,M⟩
      · exact .inl ⟨h0,by simp[r3],Sep.var M⟩
      · have hOn:ae ≠ (ni,5):=by rintro rfl;have:=M.1 (ni,5) (by simp);simp at this
        exact .inr ⟨ae,h0,by simp[r3],by rw[ax.aG _ _ hOn];exact mO,hO,hOn,Sep.var M⟩
    clear V r9 c a hLi2 fri hout hni;rintro O Hi nj ⟨r5,r6,r9,c,a,hni,mX,fri,hout⟩;cases outs with
    | nil=>
      rcases hout with ⟨_,r3,M⟩ | ⟨ae,h0,_⟩
      · refine zS fun _ V=>?_
        simp[r3];apply V;refine J.ite rfl (fun hc3=>?_) (fun _=>?_)
        · cases hc3
        apply J.skip;apply J.block;refine zE fun _ V=>?_
        simp[r6];apply V;refine J.ite rfl (fun _=>?_) (fun hc3=>?_)
        · have hput:dN [] p=[p]:=rfl
          refine J.G2 fun _ V=>?_
          refine bz.lF (v:=.agg (bQ b p)) ay (by decide) rfl (by simp[r5,mX,vX,List.take_of_length_le]) ?_;refine bz.op ay (by decide) (by decide) rfl (oe (v:=.arr (nj,31) 1 0 1) (H':=Hi.set (nj,31) ⟨10,[bQ b p]⟩) (n':=nj+1) ay (by simp[jd,bQ,cD,I.cells,aB,encI,encS,aD,List.range_succ])).1 ?_;rintro _ _ _ ⟨rfl,rfl,rfl⟩;simp;apply V;apply J.inBlock;refine zI fun _ V=>?_
          have f2:=aU (show bB ((i:Int)+1) by simp only[bB];omega) (show ((i+1:Nat):Int)=(i:Int)+1 by omega);simp[a,f2,-aw];apply V;have hOn:(nj,31) ∉ L::ids:=fun h=>by have:=M.1 (nj,31) (by simp only[List.mem_cons] at h ⊢;exact .inr h);simp at this
          refine IH hc1 _ _ _ ⟨by simp[r9],by simp[c],by simp,by omega,fun j hj=>by rw[ax.aG _ _ (show j ≠ (nj,31) from fun h=>hOn (h ▸ hj))];exact fri j hj,.inr ⟨(nj,31),by rw[htk,hput];simp,by rw[htk,hput];simp,by rw[htk,hput];simp,hOn,?_⟩⟩;exact Sep.sub (Sep.var M) (by simp +contextual)
        · cases hc3
      · exact absurd rfl h0
    | cons w t=>
      rcases hout with ⟨h0,_⟩ | ⟨ae,_,r3,mO,hO,hOX,M⟩
      · cases h0
      · have hwm:w ∈ ps:=by
          have hs:∀ (l out:List dx),∀ q ∈ l.foldl dN out,q ∈ out\/q ∈ l:=by
            intro l
            induction l with
            | nil=>intro out q hq;exact .inl hq
            | cons x l ih=>
              intro out q hq;rcases ih _ q hq with h | h
              · rcases FC q h with h | rfl
                · exact .inl h
                · exact .inr (by simp)
              · exact .inr (by simp[h])
          rcases hs (ps.take i) [] w (by rw[hout0];simp) with h | h
          · cases h
          · exact List.mem_of_mem_take h
        have hlt:(w::t).length<=i:=by
          have hs:∀ (l out:List dx),(l.foldl dN out).length<=out.length+l.length:=by
            intro l
            induction l with
            | nil=>intro out;simp
            | cons x l ih=>
              intro out;have h1:=ih (dN out x);have h2:(dN out x).length<=out.length+1:=by
                cases out with
                | nil=>simp[dN]
                | cons w t=>
                  simp only[dN]
                  split
                  · simp
                  · split<;>simp
              simp only[List.foldl_cons,List.length_cons];omega
          have:=hs (ps.take i) [];rw[hout0] at this;simp only[List.length_nil,List.length_take] at this;omega
        have hpe:=Sep.vH M (v:=p.2) (l:=p.1.code) (List.mem_append_left _ (List.mem_map.2 ⟨_,hpm,rfl⟩));have hwe:=Sep.vH M (v:=w.2) (l:=w.1.code) (List.mem_append_left _ (List.mem_map.2 ⟨_,hwm,rfl⟩));refine zS fun _ V=>?_
        simp[r3,mO];apply V;refine J.ite rfl (fun _=>?_) (fun hc3=>?_)
        · refine J.gf ay aA bq (by decide) (by kernel_rfl) fun _ V=>?_
          simp[r5,r3,mX,mO,bQ,cD,I.cells];refine bf.bN ay aA (Am p.1.code w.1.code ⟨hc _ hpm,hc _ hwm⟩) e146 (.cons hpe.2.2 (.cons hwe.2.2 .nil)) (by decide) rfl (by simp) ?_;simp;apply V;apply J.block;refine zE fun _ V=>?_
          simp;apply V;refine J.ite rfl (fun hc4=>?_) (fun hc4=>?_)
          · have hc4:cmpL p.1.code w.1.code<0:=by simpa using hc4
            have hput:dN (w::t) p=[p]:=by simp only[dN];rw[if_pos hc4]
            refine J.G2 fun _ V=>?_
            refine bz.lF (v:=.agg (bQ b p)) ay (by decide) rfl (by simp[r5,mX,vX,List.take_of_length_le]) ?_;refine bz.op ay (by decide) (by decide) rfl (oe (v:=.arr (nj,31) 1 0 1) (H':=Hi.set (nj,31) ⟨10,[bQ b p]⟩) (n':=nj+1) ay (by simp[jd,bQ,cD,I.cells,aB,encI,encS,aD,List.range_succ])).1 ?_;rintro _ _ _ ⟨rfl,rfl,rfl⟩;simp;apply V;apply J.inBlock;refine zI fun _ V=>?_
            have f2:=aU (show bB ((i:Int)+1) by simp only[bB];omega) (show ((i+1:Nat):Int)=(i:Int)+1 by omega);simp[a,f2,-aw];apply V;have hOn:(nj,31) ∉ L::ids:=fun h=>by have:=M.1 (nj,31) (by simp only[List.mem_cons] at h ⊢;exact .inr (.inr h));simp at this
            refine IH hc1 _ _ _ ⟨by simp[r9],by simp[c],by simp,by omega,fun j hj=>by rw[ax.aG _ _ (show j ≠ (nj,31) from fun h=>hOn (h ▸ hj))];exact fri j hj,.inr ⟨(nj,31),by rw[htk,hput];simp,by rw[htk,hput];simp,by rw[htk,hput];simp,hOn,?_⟩⟩;exact Sep.sub (Sep.var M) (by simp +contextual)
          · have hc4:¬ cmpL p.1.code w.1.code<0:=by simpa using hc4
            refine zE fun _ V=>?_
            simp;apply V;refine J.ite rfl (fun hc5=>?_) (fun hc5=>?_)
            · have hc5:cmpL p.1.code w.1.code=0:=by simpa using hc5
              have hput:dN (w::t) p=(w::t)++[p]:=by simp only[dN];rw[if_neg hc4,if_pos hc5]
              have hbig:t.length+1+1<=1073741824:=by simp only[List.length_cons] at hlt;omega
              refine zF fun _ V=>?_
              simp[r3,r5,mX,mO,bQ,cD,I.cells,aB,encI,encS,aD,hpe.1,hpe.2.1,List.range_succ,hbig,-aE,-aM,bT,bu];apply V;apply J.inBlock;refine zI fun _ V=>?_
              have f2:=aU (show bB ((i:Int)+1) by simp only[bB];omega) (show ((i+1:Nat):Int)=(i:Int)+1 by omega);simp[a,f2,-aw];apply V;refine IH hc1 _ _ _ ⟨by simp[r9],by simp[c],by simp,by omega,fun j hj=>by rw[ax.aG _ _ (show j ≠ ae from fun h=>hO (h ▸ hj))];exact fri j hj,.inr ⟨ae,by rw[htk,hput];simp,by rw[htk,hput];simp,by rw[htk,hput];simp[bQ,cD,I.cells,aB,encI,encS,aD],hO,?_⟩⟩;exact Sep.sub (Sep.bH M (by simp)) (by simp +contextual)
            · have hc5:¬ cmpL p.1.code w.1.code=0:=by simpa using hc5
              have hput:dN (w::t) p=w::t:=by simp only[dN];rw[if_neg hc4,if_neg hc5]
              apply J.skip;apply J.inBlock;refine zI fun _ V=>?_
              have f2:=aU (show bB ((i:Int)+1) by simp only[bB];omega) (show ((i+1:Nat):Int)=(i:Int)+1 by omega);simp[a,f2,-aw];apply V;refine IH hc1 _ _ _ ⟨by simp[r9],by simp[c],by simp,by omega,fri,.inr ⟨ae,by rw[htk,hput];simp,by rw[htk,hput];simp[r3],by rw[htk,hput];exact mO,hO,?_⟩⟩;exact Sep.sub M (by simp +contextual)
        · simp at hc3
  · have hc2:¬ i<ps.length:=by simpa using hc1
    have hc1:i=ps.length:=by omega
    subst hc1;refine J.exit rfl ?_;rw[List.take_length] at hout;refine zE fun _ V=>?_
    simp;apply V;rcases hout with ⟨h0,_,_⟩ | ⟨ae,h0,r3,mO,hO,M⟩
    · exfalso
      have:∀ l:List dx,l ≠ []->l.foldl dN [] ≠ []:=fun l hl=>by
        obtain⟨l',x,rfl⟩:∃ l' x,l=l'++[x]:=⟨l.dropLast,l.getLast hl,(List.dropLast_concat_getLast hl).symm⟩
        rw[List.foldl_append];exact F1 _ _
      exact this ps hne h0
    · exact J.bj (v:=.arr ae (dB ps).length 0 (dB ps).length) func144 results144 (by simp[r3,dB]) (hQ _ _ _ ⟨ae,rfl,mO,hO,M,fri,hni⟩)
end
end Go.Ab.Vg
namespace Go.Ab.Vg
theorem Sep.sublist {H:ax} {n:Nat} {ids:List Id} {K K':List bX} (h:K'.Sublist K):∀ A:List bX,Sep H n (A++K) ids->Sep H n (A++K') ids:=by
  induction h with
  | slnil=>exact fun _ h=>h
  | cons a _ ih=>
    intro A hs;exact ih A (Sep.dr (Sep.front (x:=a) hs))
  | cons_cons a _ ih=>
    intro A hs;have:=ih (A++[a]) (by simpa using hs);simpa using this
theorem CI {l out:List dx} {x:dx} (h:out.Sublist l):(dN out x).Sublist (l++[x]):=by
  cases out with
  | nil=>simp[dN]
  | cons w t=>
    simp only[dN]
    split
    · simp
    · split
      · exact List.Sublist.append h (List.Sublist.refl _)
      · exact h.trans (List.sublist_append_left _ _)
theorem iu (ps:List dx):(dB ps).Sublist ps:=by
  have:∀ (l pre out:List dx),out.Sublist pre->(l.foldl dN out).Sublist (pre++l):=by
    intro l
    induction l with
    | nil=>intro pre out h;simpa using h
    | cons x l ih=>
      intro pre out h;have:=ih (pre++[x]) (dN out x) (CI h);simpa using this
  have h:=this ps [] [] (List.Sublist.refl _);rw[List.nil_append] at h;exact h
def bR (b:I):Nat->List fZ
  | 0=>[⟨[],jj b,[]⟩]
  | m+1=>fw ((bR b m).flatMap (fL b))
theorem nE (b:I):∀ (m:Nat) (l:List fZ),gC b (m+1) l=fw ((gC b m l).flatMap (fL b))
  | 0,l=>rfl
  | m+1,l=>by rw[gC,nE b m];rfl
theorem AP (b:I):∀ m,bR b m=gC b m [⟨[],jj b,[]⟩]
  | 0=>rfl
  | m+1=>by rw[bR,AP b m,nE]
structure wz (b:I) (m:Nat) (a:fZ):Prop where
  s:tS b m a.s
  ord:a.order.length=m
  code:a.code.length<=5 * m
  mem:∀ k:Int,0<=k/\k<b.nodes.length->(k ∈ a.order↔0<=at' a.s.pl k)
theorem ml {l:List fZ} {x:fZ} (h:x ∈ fw l):x ∈ l:=(dq.1 h).1
theorem tB {sig:cZ} {b:I} (hv:bA sig b) {m:Nat} (hm:m<=8) {a x:fZ} (h:wz b m a) (hx:x ∈ fL b a):wz b (m+1) x:=by
  simp only[fL,List.mem_map] at hx;obtain⟨k,hk,rfl⟩:=hx;have hr:=(cy.1 hk).1;refine⟨h.s.step hv hr hm,by simp[h.ord],?_,fun j hj=>?_⟩
  rotate_left
  · have hkl:0<=k/\k<a.s.pl.length:=by rw[h.s.pl];exact hr
    simp only[bJ,List.mem_append,List.mem_singleton,ic hj.1 hkl];have:=h.mem j hj;have hn:=h.s.num
    split
    · rename_i e;subst e;simp
    · rename_i e;rw[this];simp[e]
  have h3:=hv.ga hr;have h4:(bL b a.s.es (at' b.nodes k).links).1.length=(at' b.nodes k).links.length:=dJ _ _;have h5:=h.code;simp only[bt,List.length_append,List.length_cons];omega
theorem nw {sig:cZ} {b:I} (hv:bA sig b):∀ m≤b.nodes.length,∀ a ∈ bR b m,wz b m a
  | 0,_,a,ha=>by
    rw[List.mem_singleton.1 ha];refine⟨Hk b,rfl,by simp,fun k hk=>?_⟩;have e:at' (jj b).pl k = -1:=by
      obtain⟨h1,h2⟩:=xo (l:=(jj b).pl) (i:=k) (by simpa[jj] using hk);rw[h2];simp[jj]
    simp only[e,List.not_mem_nil,false_iff];omega
  | m+1,hm,a,ha=>by
    have hn:=hv.len;obtain⟨x,hx,h2⟩:=List.mem_flatMap.1 (ml ha);exact tB hv (by omega) (nw hv m (by omega) x hx) h2
theorem F7 {b:I} (hn:b.nodes.length<=8) (a:fZ):(fL b a).length<=8:=by
  have h1:(dW b a.s.pl).length<=b.nodes.length:=by
    refine Nat.le_trans (List.length_filter_le _ _) ?_;simp
  simp only[fL,List.length_map];omega
theorem np {b:I} (hn:b.nodes.length<=8):∀ l:List fZ,(l.flatMap (fL b)).length<=8 * l.length
  | []=>by simp
  | a::l=>by
    have h1:=np hn l;have h2:=F7 hn a;simp only[List.flatMap_cons,List.length_append,List.length_cons];omega
theorem yM:∀ l:List fZ,(fw l).length<=l.length:=by
  have:∀ (l out:List fZ),(l.foldl mi out).length<=out.length+l.length:=by
    intro l
    induction l with
    | nil=>intro out;simp
    | cons x l ih=>
      intro out;have h1:=ih (mi out x);have h2:(mi out x).length<=out.length+1:=by
        cases out with
        | nil=>simp[mi]
        | cons w t=>
          simp only[mi]
          split
          · simp
          · split<;>simp
      simp only[List.foldl_cons,List.length_cons];omega
  intro l;have h:=this l [];rw[List.length_nil,Nat.zero_add] at h;exact h
theorem ku {b:I} (hn:b.nodes.length<=8):∀ m,(bR b m).length<=8 ^ m
  | 0=>by simp[bR]
  | m+1=>by
    have h1:=ku hn m;have h2:=np hn (bR b m);have h3:=yM ((bR b m).flatMap (fL b));rw[bR,Nat.pow_succ];omega
theorem mH {b:I} (he:nJ b) (hd:fh b):∀ m≤b.nodes.length,Lay b (b.nodes.length - m) (bR b m)/\bR b m ≠ []
  | 0,_=>⟨lay0,by simp[bR]⟩
  | m+1,hm=>by
    obtain⟨h1,h2⟩:=mH he hd m (by omega);obtain⟨q,hq⟩:∃ q,b.nodes.length - m=q+1:=⟨b.nodes.length - (m+1),by omega⟩
    rw[hq] at h1;have hq2:b.nodes.length - (m+1)=q:=by omega
    rw[hq2];refine⟨sR hd (Ai he h1),kS ?_⟩;obtain⟨a,ha⟩:=List.exists_mem_of_ne_nil _ h2;obtain⟨k,hk⟩:=lk hd (h1.fit a ha);intro h;have:(⟨a.order++[k],bJ b a.s k,a.code++(bt b a.s k).1⟩:fZ) ∈ (bR b m).flatMap (fL b):=List.mem_flatMap.2 ⟨a,ha,List.mem_map.2 ⟨k,hk,rfl⟩⟩;rw[h] at this;cases this
theorem Gk {b:I} (he:nJ b) (hd:fh b) {m:Nat} (hm:m<b.nodes.length):(bR b m).flatMap (fL b) ≠ []:=fun h=>(mH he hd (m+1) hm).2 (by rw[bR,h];rfl)
end Go.Ab.Vg
namespace Go.Ab.Vg
def iv (b:I) (p:Int):List Int:=idxs b.nodes (fun x=>decide (x.parent=p)) b.nodes.length
def ff (b:I) (p:Int):List Int:=idxs b.sites (fun x=>decide (x=p)) b.sites.length
abbrev rq (b:I) (p:Int):=iv b p
abbrev fv (b:I) (_:Int):Prop:=b.nodes.length<=1048576
def ld (b:I) (parent:Int) (Z:(List Int)->Prop):Prop:=
  aO (σ:=Int × (List Int)) (fun (i14,l15) K19=>∀ len20:Int,len20=(b.nodes.length:Int)->∀ c22:Bool,c22=decide (i14<len20)->((c22=true->(0<=i14/\i14<b.nodes.length)/\∀ x25:az,x25=at' b.nodes i14->∀ c27:Bool,c27=decide (x25.parent=parent)->((c27=true->(l15.length+1<=1073741824)/\∀ l30:List Int,l30=l15++[i14]->(bB (i14+1))/\∀ v40:Int,v40=i14+1->K19 (v40,l30))/\(c27=false->(bB (i14+1))/\∀ v43:Int,v43=i14+1->K19 (v43,l15))))/\(c22=false->Z l15))) (0,([]:List Int))
theorem Bv (b:I) (p:Int) (h:fv b p):ld b p (fun y=>y=rq b p):=by
  unfold ld;refine aO.pN b.nodes.length (fun k out=>out=idxs b.nodes (fun x=>decide (x.parent=p)) k) [] rfl ?_;rintro k out K hk rfl IH;have hl:=xA b.nodes (fun x=>decide (x.parent=p)) k;simp only[fv] at h;simp only[forall_eq,decide_eq_true_eq,decide_eq_false_iff_not,bB];refine⟨fun h1=>⟨by omega,fun h2=>⟨by omega,by omega,?_⟩,fun h2=>⟨by omega,?_⟩⟩,fun h1=>?_⟩
  · exact IH (by omega) _ (wM _ _ (by simpa using h2)).symm
  · exact IH (by omega) _ (AQ _ _ (by simpa using h2)).symm
  · rw[show k=b.nodes.length by omega];rfl
abbrev mF (b:I) (p:Int):=ff b p
abbrev e9 (b:I) (_:Int):Prop:=b.sites.length<=1048576
def js (b:I) (parent:Int) (Z:(List Int)->Prop):Prop:=
  aO (σ:=Int × (List Int)) (fun (i14,l15) K19=>∀ len20:Int,len20=(b.sites.length:Int)->∀ c22:Bool,c22=decide (i14<len20)->((c22=true->(0<=i14/\i14<b.sites.length)/\∀ x25:Int,x25=at' b.sites i14->∀ c27:Bool,c27=decide (x25=parent)->((c27=true->(l15.length+1<=1073741824)/\∀ l30:List Int,l30=l15++[i14]->(bB (i14+1))/\∀ v40:Int,v40=i14+1->K19 (v40,l30))/\(c27=false->(bB (i14+1))/\∀ v43:Int,v43=i14+1->K19 (v43,l15))))/\(c22=false->Z l15))) (0,([]:List Int))
theorem zD (b:I) (p:Int) (h:e9 b p):js b p (fun y=>y=mF b p):=by
  unfold js;refine aO.pN b.sites.length (fun k out=>out=idxs b.sites (fun x=>decide (x=p)) k) [] rfl ?_;rintro k out K hk rfl IH;have hl:=xA b.sites (fun x=>decide (x=p)) k;simp only[e9] at h;simp only[forall_eq,decide_eq_true_eq,decide_eq_false_iff_not,bB];refine⟨fun h1=>⟨by omega,fun h2=>⟨by omega,by omega,?_⟩,fun h2=>⟨by omega,?_⟩⟩,fun h1=>?_⟩
  · exact IH (by omega) _ (wM _ _ (by simpa using h2)).symm
  · exact IH (by omega) _ (AQ _ _ (by simpa using h2)).symm
  · rw[show k=b.sites.length by omega];rfl
end Go.Ab.Vg
namespace Go.Ab.Vg
abbrev pw (a b:List Int):Bool:=decide (cmpL a b<0)
abbrev lB (a b:List Int):Prop:=a.length<=1048576/\b.length<=1048576
def nA (a:List Int) (b:List Int) (Z:Bool->Prop):Prop:=
  aO (σ:=Int) (fun i4 K7=>eU (fun (J8:Bool->Prop)=>∀ len42:Int,len42=(a.length:Int)->∀ c44:Bool,c44=decide (i4<len42)->((c44=true->∀ len46:Int,len46=(b.length:Int)->∀ c48:Bool,c48=decide (i4<len46)->J8 (c48))/\(c44=false->J8 (false)))) (fun b11=>((b11=true->(0<=i4/\i4<a.length)/\∀ x15:Int,x15=at' a i4->(0<=i4/\i4<b.length)/\∀ x18:Int,x18=at' b i4->∀ c20:Bool,c20=decide (x15 ≠ x18)->((c20=true->(0<=i4/\i4<a.length)/\∀ x23:Int,x23=at' a i4->(0<=i4/\i4<b.length)/\∀ x27:Int,x27=at' b i4->∀ c30:Bool,c30=decide (x15<x18)->Z c30)/\(c20=false->(bB (i4+1))/\∀ v34:Int,v34=i4+1->K7 (v34))))/\(b11=false->∀ len36:Int,len36=(a.length:Int)->∀ len38:Int,len38=(b.length:Int)->∀ c40:Bool,c40=decide (len36<len38)->Z c40)))) (0)
theorem Eu (a b:List Int) (h:lB a b):nA a b (fun y=>y=pw a b):=by
  unfold nA;obtain⟨h1,h2⟩:=h;refine aO.xj (min a.length b.length) (fun k=>k<=a.length/\k<=b.length/\cmpL a b=cmpL (a.drop k) (b.drop k)) ⟨by omega,by omega,rfl⟩ ?_;rintro k K hk ⟨ha,hb,hI⟩ IH;simp only[forall_eq,decide_eq_true_eq,decide_eq_false_iff_not,bB,pw];refine⟨fun c=>c=decide (k<a.length/\k<b.length),⟨fun h3=>by simp[show k<a.length by omega],fun h3=>by simp[show ¬ k<a.length by omega]⟩,?_⟩;rintro _ rfl;simp only[decide_eq_true_eq,decide_eq_false_iff_not];refine⟨fun h3=>⟨by omega,by omega,fun h4=>⟨by omega,by omega,?_⟩,fun h4=>⟨by omega,IH (by omega) ⟨by omega,by omega,?_⟩⟩⟩,fun h3=>?_⟩
  · rw[hI,drop_at h3.1,drop_at h3.2,cmpL]
    by_cases h5:at' a (k:Int)<at' b (k:Int)
    · simp[h5]
    · rw[if_neg h5,if_pos (by omega)];simp[h5]
  · rw[hI,drop_at h3.1,drop_at h3.2,cmpL,if_neg (by omega),if_neg (by omega)]
  · rw[hI]
    rcases Nat.lt_or_ge k a.length with h5 | h5
    · rw[show k=b.length by omega,List.drop_length,drop_at (by omega:b.length<a.length)]
      simp[cmpL,show ¬ (a.length:Int)<b.length by omega]
    · rw[show k=a.length by omega,List.drop_length]
      rcases Nat.lt_or_ge a.length b.length with h6 | h6
      · rw[drop_at h6];simp[cmpL,h6]
      · rw[List.drop_eq_nil_of_le h6];simp[cmpL,show ¬ (a.length:Int)<b.length by omega]
abbrev iq (a b:List Int):Bool:=decide (a=b)
abbrev eV (a b:List Int):Prop:=a.length<=1048576
def m7 (a:List Int) (b:List Int) (Z:Bool->Prop):Prop:=
  ∀ bh:Int,bh=(a.length:Int)->∀ cM:Int,cM=(b.length:Int)->∀ c6:Bool,c6=decide (bh ≠ cM)->((c6=true->Z false)/\(c6=false->aO (σ:=Int) (fun i10 K13=>∀ len14:Int,len14=(a.length:Int)->∀ c16:Bool,c16=decide (i10<len14)->((c16=true->(0<=i10/\i10<a.length)/\∀ x19:Int,x19=at' a i10->(0<=i10/\i10<b.length)/\∀ x22:Int,x22=at' b i10->∀ c24:Bool,c24=decide (x19 ≠ x22)->((c24=true->Z false)/\(c24=false->(bB (i10+1))/\∀ v27:Int,v27=i10+1->K13 (v27))))/\(c16=false->Z true))) (0)))
theorem EF (a b:List Int) (h:eV a b):m7 a b (fun y=>y=iq a b):=by
  unfold m7;simp only[forall_eq,decide_eq_true_eq,decide_eq_false_iff_not,iq];have h1:a.length<=1048576:=h;refine⟨fun h3=>(decide_eq_false (fun e=>h3 (by rw[e]))).symm,fun h3=>?_⟩;refine aO.xj a.length (fun k=>a.take k=b.take k) (by simp) ?_;rintro k K hk hI IH;simp only[bB];refine⟨fun h4=>⟨⟨by omega,by omega⟩,by omega,fun h5=>(decide_eq_false (fun e=>h5 (by rw[e]))).symm,fun h5=>⟨by omega,IH (by omega) ?_⟩⟩,fun h4=>?_⟩
  · rw[bp (show k<a.length by omega),bp (show k<b.length by omega)] at h5
    rw[<- List.take_append_getElem (show k<a.length by omega),<- List.take_append_getElem (show k<b.length by omega),hI,Classical.not_not.1 h5]
  · rw[show k=a.length by omega,List.take_length,List.take_of_length_le (by omega)] at hI
    exact (decide_eq_true hI).symm
abbrev w3 (b:I) (x y:Int):Bool:=eY b x y
abbrev oq (b:I) (x y:Int):Prop:=(∃ sig,bA sig b)/\(0<=x/\x<b.nodes.length)/\(0<=y/\y<b.nodes.length)
def m8 (b:I) (x:Int) (y:Int) (Z:Bool->Prop):Prop:=
  (0<=x/\x<b.nodes.length)/\∀ x5:az,x5=at' b.nodes x->(0<=y/\y<b.nodes.length)/\∀ x8:az,x8=at' b.nodes y->eU (fun (J13:Bool->Prop)=>∀ c49:Bool,c49=decide (x5.control ≠ x8.control)->((c49=true->J13 (true))/\(c49=false->∀ c51:Bool,c51=decide (x5.parent ≠ x8.parent)->((c51=true->J13 (true))/\(c51=false->(eV x5.links x8.links)/\∀ r54:Bool,r54=iq x5.links x8.links->J13 ((!r54))))))) (fun b16=>((b16=true->Z false)/\(b16=false->eU (fun (J19:Bool->Prop)=>(fv b x)/\∀ r26:List Int,r26=rq b x->∀ len27:Int,len27=(r26.length:Int)->∀ c29:Bool,c29=decide (len27=0)->((c29=true->(fv b y)/\∀ r32:List Int,r32=rq b y->∀ len33:Int,len33=(r32.length:Int)->∀ c35:Bool,c35=decide (len33=0)->((c35=true->(e9 b x)/\∀ r38:List Int,r38=mF b x->∀ len39:Int,len39=(r38.length:Int)->∀ c41:Bool,c41=decide (len39=0)->((c41=true->(e9 b y)/\∀ r44:List Int,r44=mF b y->∀ len45:Int,len45=(r44.length:Int)->∀ c47:Bool,c47=decide (len45=0)->J19 (c47))/\(c41=false->J19 (false))))/\(c35=false->J19 (false))))/\(c29=false->J19 (false)))) (fun b22=>Z b22))))
theorem CW (b:I) (x:Int):(iv b x=[])↔∀ n ∈ b.nodes,n.parent ≠ x:=by
  constructor
  · intro h n hn e
    obtain⟨i,hi,rfl⟩:=List.getElem_of_mem hn;have:(i:Int) ∈ iv b x:=(nb _ _).2 ⟨by omega,by omega,by rw[bp hi];exact decide_eq_true e⟩;rw[h] at this;cases this
  · intro h
    rcases hq:iv b x with _ | ⟨y,t⟩
    · rfl
    · have hy:y ∈ iv b x:=by rw[hq];simp
      obtain⟨h1,h2,h3⟩:=(nb _ _).1 hy;exact absurd (of_decide_eq_true h3) (h _ (at_mem ⟨h1,h2⟩))
theorem yf (b:I) (x:Int):(ff b x=[])↔∀ p ∈ b.sites,p ≠ x:=by
  constructor
  · intro h n hn e
    obtain⟨i,hi,rfl⟩:=List.getElem_of_mem hn;have:(i:Int) ∈ ff b x:=(nb _ _).2 ⟨by omega,by omega,by rw[bp hi];exact decide_eq_true e⟩;rw[h] at this;cases this
  · intro h
    rcases hq:ff b x with _ | ⟨y,t⟩
    · rfl
    · have hy:y ∈ ff b x:=by rw[hq];simp
      obtain⟨h1,h2,h3⟩:=(nb _ _).1 hy;exact absurd (of_decide_eq_true h3) (h _ (at_mem ⟨h1,h2⟩))
theorem qv (b:I) (x y:Int):eY b x y=(decide ((at' b.nodes x).control=(at' b.nodes y).control) && decide ((at' b.nodes x).parent=(at' b.nodes y).parent) && decide ((at' b.nodes x).links=(at' b.nodes y).links) && (decide (iv b x=[]) && decide (iv b y=[]) && decide (ff b x=[]) && decide (ff b y=[]))):=by
  have e1:b.nodes.all (fun n=>decide (n.parent ≠ x) && decide (n.parent ≠ y))=(decide (iv b x=[]) && decide (iv b y=[])):=by
    rw[Bool.eq_iff_iff];simp only[List.all_eq_true,Bool.and_eq_true,decide_eq_true_eq,CW];exact⟨fun h=>⟨fun n hn=>(h n hn).1,fun n hn=>(h n hn).2⟩,fun h n hn=>⟨h.1 n hn,h.2 n hn⟩⟩
  have e2:b.sites.all (fun p=>decide (p ≠ x) && decide (p ≠ y))=(decide (ff b x=[]) && decide (ff b y=[])):=by
    rw[Bool.eq_iff_iff];simp only[List.all_eq_true,Bool.and_eq_true,decide_eq_true_eq,yf];exact⟨fun h=>⟨fun n hn=>(h n hn).1,fun n hn=>(h n hn).2⟩,fun h n hn=>⟨h.1 n hn,h.2 n hn⟩⟩
  rw[eY,e1,e2];simp only[Bool.and_assoc]
theorem FD (b:I) (x y:Int) (h:oq b x y):m8 b x y (fun z=>z=w3 b x y):=by
  unfold m8;obtain⟨⟨sig,hv⟩,hx,hy⟩:=h;have h3:=hv.ga hx;have hn:=hv.len;have hs:=hv.slen;simp only[forall_eq,decide_eq_true_eq,decide_eq_false_iff_not,ne_eq,Decidable.not_not,w3,rq,mF,fv,e9,eV];refine⟨hx,hy,fun c=>c = !(decide ((at' b.nodes x).control=(at' b.nodes y).control) && decide ((at' b.nodes x).parent=(at' b.nodes y).parent) && decide ((at' b.nodes x).links=(at' b.nodes y).links)),⟨fun h4=>by simp[h4],fun h4=>⟨fun h5=>by simp[h5],fun h5=>⟨by omega,by simp[h4,h5,iq]⟩⟩⟩,?_⟩;rintro _ rfl;refine⟨fun h4=>?_,fun h4=>?_⟩
  · rw[qv]
    simp only[Bool.not_eq_true'] at h4;rw[h4];rfl
  · simp only[Bool.not_eq_false'] at h4
    rw[qv,h4,Bool.true_and];have hl:∀ l:List Int,((l.length:Int)=0)=(l=[]):=fun l=>by rw[<- List.length_eq_zero_iff];simp
    simp only[hl];refine⟨fun c=>c=(decide (iv b x=[]) && decide (iv b y=[]) && decide (ff b x=[]) && decide (ff b y=[])),⟨by omega,fun h5=>⟨by omega,fun h6=>⟨by omega,fun h7=>⟨by omega,by simp[h5,h6,h7]⟩,fun h7=>by simp[h7]⟩,fun h6=>by simp[h6]⟩,fun h5=>by simp[h5]⟩,?_⟩;rintro _ rfl
    rfl
abbrev Aw (b:I) (places:List Int):List Int:=dT b places
abbrev oz (b:I) (places:List Int):Prop:=(∃ sig,bA sig b)/\places.length=b.nodes.length
def nk (b:I) (places:List Int) (Z:(List Int)->Prop):Prop:=
  aO (σ:=Int × (List Int)) (fun (i14,l15) K19=>∀ len20:Int,len20=(b.nodes.length:Int)->∀ c22:Bool,c22=decide (i14<len20)->((c22=true->eU (fun (J24:Bool->Prop)=>(0<=i14/\i14<places.length)/\∀ x82:Int,x82=at' places i14->∀ c84:Bool,c84=decide (x82<0)->((c84=true->(0<=i14/\i14<b.nodes.length)/\∀ x87:az,x87=at' b.nodes i14->∀ c89:Bool,c89=decide (x87.parent<0)->((c89=true->J24 (true))/\(c89=false->(0<=i14/\i14<b.nodes.length)/\∀ x92:az,x92=at' b.nodes i14->(0<=x87.parent/\x87.parent<places.length)/\∀ x96:Int,x96=at' places x87.parent->∀ c98:Bool,c98=decide (0<=x96)->J24 (c98))))/\(c84=false->J24 (false)))) (fun b27=>aO (σ:=Bool × Int) (fun (free35,k36) K40=>eU (fun (J41:Bool->Prop)=>∀ len77:Int,len77=(l15.length:Int)->∀ c79:Bool,c79=decide (k36<len77)->((c79=true->J41 (free35))/\(c79=false->J41 (false)))) (fun b44=>((b44=true->(0<=k36/\k36<l15.length)/\∀ x53:Int,x53=at' l15 k36->(oq b x53 i14)/\∀ r57:Bool,r57=w3 b x53 i14->(bB (k36+1))/\∀ v59:Int,v59=k36+1->K40 ((!r57),v59))/\(b44=false->((free35=true->(l15.length+1<=1073741824)/\∀ l62:List Int,l62=l15++[i14]->(bB (i14+1))/\∀ v72:Int,v72=i14+1->K19 (v72,l62))/\(free35=false->(bB (i14+1))/\∀ v75:Int,v75=i14+1->K19 (v75,l15))))))) (b27,0)))/\(c22=false->Z l15))) (0,([]:List Int))
theorem oU (tw:Int->Int->Bool) (i:Int):∀ (l out:List Int),thin tw out (l++[i])=if (thin tw out l).any (fun x=>tw x i) then thin tw out l else thin tw out l++[i]
  | [],out=>rfl
  | x::l,out=>by
    simp only[List.cons_append,thin];exact oU tw i l _
theorem qk (tw:Int->Int->Bool):∀ (l out:List Int),(thin tw out l).length<=out.length+l.length
  | [],out=>by simp[thin]
  | x::l,out=>by
    have h:=qk tw l (if out.any (fun y=>tw y x) then out else out++[x]);simp only[thin,List.length_cons] at h ⊢
    split at h
    · rename_i h1;rw[if_pos h1];omega
    · rename_i h1;rw[if_neg h1];simp only[List.length_append,List.length_cons,List.length_nil] at h;omega
def fq (b:I) (pl:List Int) (k:Nat):List Int:=((List.range k).map fun i:Nat=>(i:Int)).filter (dj b pl)
theorem xC (b:I) (pl:List Int) (k:Nat):fq b pl (k+1)=if dj b pl k then fq b pl k++[(k:Int)] else fq b pl k:=by
  simp only[fq,List.range_succ,List.map_append,List.filter_append,List.map_cons,List.map_nil,List.filter_cons,List.filter_nil]
  split<;>simp_all
theorem ru (b:I) (pl:List Int) (k:Nat):(fq b pl k).length<=k:=by
  have:=List.length_filter_le (dj b pl) ((List.range k).map fun i:Nat=>(i:Int));simpa[fq] using this
theorem yP {b:I} {pl:List Int} {k:Nat} {x:Int} (h:x ∈ fq b pl k):0<=x/\x<k:=by
  simp only[fq,List.mem_filter,List.mem_map,List.mem_range] at h;obtain⟨⟨i,hi,rfl⟩,_⟩:=h;omega
theorem EO (b:I) (places:List Int) (h:oz b places):nk b places (fun z=>z=Aw b places):=by
  unfold nk;obtain⟨⟨sig,hv⟩,hl⟩:=h;have hn:=hv.len;refine aO.pN b.nodes.length (fun k out=>out=thin (eY b) [] (fq b places k)) [] rfl ?_;rintro k _ K hk rfl IH;have hlen:=qk (eY b) (fq b places k) [];have hlen2:=ru b places k;have hin:∀ x ∈ thin (eY b) [] (fq b places k),0<=x/\x<k:=fun x hx=>yP ((qe _ hx).resolve_left (by simp))
  simp only[List.length_nil] at hlen;simp only[forall_eq,decide_eq_true_eq,decide_eq_false_iff_not];refine⟨fun h1=>?_,fun h1=>by rw[show k=b.nodes.length by omega];rfl⟩;have hkn:(0:Int)<=k/\(k:Int)<b.nodes.length:=⟨by omega,by omega⟩
  have hp:=hv.lN hkn;refine⟨fun c=>c=dj b places k,⟨⟨by omega,by omega⟩,fun h2=>⟨by omega,fun h3=>by simp[dj,h2,h3],fun h3=>⟨by omega,⟨by omega,by omega⟩,by simp[dj,h2,h3]⟩⟩,fun h2=>by simp[dj,h2]⟩,?_⟩;rintro _ rfl;have hsucc:=xC b places k;generalize ho:thin (eY b) [] (fq b places k)=out at hlen hin ⊢;refine aO.upR out.length (fun j f=>f=(dj b places k && !((out.take j).any fun x=>eY b x k))) _ (by simp) ?_;rintro j _ K2 hj rfl IH2;refine⟨fun c=>c=(decide (j<out.length) && (dj b places k && !((out.take j).any fun x=>eY b x k))),⟨fun h2=>by simp[show j<out.length by omega],fun h2=>by simp[show ¬ j<out.length by omega]⟩,?_⟩;rintro _ rfl;refine⟨fun h2=>?_,fun h2=>?_⟩
  · simp only[Bool.and_eq_true,decide_eq_true_eq,Bool.not_eq_true'] at h2
    obtain⟨h3,h4,h5⟩:=h2;dsimp only;have hm:=hin (at' out (j:Int)) (by rw[bp h3];exact List.getElem_mem h3);refine⟨by omega,⟨⟨sig,hv⟩,⟨hm.1,by omega⟩,hkn⟩,⟨by omega,by omega⟩,IH2 h3 _ ?_⟩;rw[<- List.take_append_getElem h3,List.any_append,h5,h4,bp h3];simp[w3]
  · have hnext:∀ r,(dj b places k && !((out.take j).any fun x=>eY b x k))=r->(r=true->j=out.length)->thin (eY b) [] (fq b places (k+1))=if r then out++[(k:Int)] else out:=fun r hr hj2=>by
      rw[hsucc];cases r with
      | true=>
        simp only[Bool.and_eq_true,Bool.not_eq_true'] at hr;have h6:=hr.2;rw[hj2 rfl,List.take_length] at h6;rw[if_pos hr.1,oU,ho,h6];rfl
      | false=>
        by_cases h6:dj b places k=true
        · rw[if_pos h6,oU,ho]
          simp only[h6,Bool.true_and,Bool.not_eq_false'] at hr;have:(out.any fun x=>eY b x k)=true:=by
            obtain⟨x,hx,hx2⟩:=List.any_eq_true.1 hr;exact List.any_eq_true.2 ⟨x,List.mem_of_mem_take hx,hx2⟩
          rw[this];rfl
        · rw[if_neg h6,ho];rfl
    have hjl:(dj b places k && !((out.take j).any fun x=>eY b x k))=true->j=out.length:=fun h6=>by
      rw[h6] at h2;simp only[Bool.and_true,decide_eq_false_iff_not] at h2;omega
    generalize hr:(dj b places k && !((out.take j).any fun x=>eY b x k))=r at hjl ⊢;have:=hnext r hr hjl;dsimp only;refine⟨fun h6=>⟨by omega,⟨by omega,by omega⟩,IH (by omega) _ ?_⟩,fun h6=>⟨⟨by omega,by omega⟩,IH (by omega) _ ?_⟩⟩
    · rw[this,h6];rfl
    · rw[this,h6];rfl
structure eJ (b:I) (places edges:List Int) (many:Int) (s:Cz):Prop where
  bfit:Fit b (b.nodes.length - many.toNat) s
  bcz:tS b many.toNat s
  bes:lT b s.es
  bpl:s.pl=places
  bed:cn b s.es=edges
  bnum:0<=many/\many<=b.nodes.length
noncomputable def jT (b:I) (places edges:List Int) (many:Int):List Int × List Int:=open Classical in if h:∃ s,eJ b places edges many s then dF b (b.nodes.length - many.toNat) h.choose else ([],[])
abbrev gH (b:I) (places edges:List Int) (many:Int):Prop:=(∃ sig,bA sig b)/\∃ s,eJ b places edges many s
abbrev iK (b:I) (_ _:List Int) (many:Int):Nat:=b.nodes.length - many.toNat
def nV (b:I) (places:List Int) (edges:List Int) (many:Int) (Z:((List Int) × (List Int))->Prop):Prop:=
  ∀ cM:Int,cM=(b.nodes.length:Int)->∀ c6:Bool,c6=decide (many=cM)->((c6=true->(iY b places edges)/\∀ r9:(List Int) × (List Int),r9=lH b places edges->Z (r9.1,([]:List Int)))/\(c6=false->(oz b places)/\∀ r30:List Int,r30=Aw b places->((0:Int)<=0/\(0:Int)<r30.length)/\∀ x47:Int,x47=at' r30 0->(eO b x47 places edges)/\∀ r51:(List Int) × (List Int),r51=ep b x47 places edges->aO (σ:=Int × (List Int)) (fun (i160,l161) K166=>∀ len167:Int,len167=(r30.length:Int)->∀ c169:Bool,c169=decide (i160<len167)->((c169=true->(0<=i160/\i160<r30.length)/\∀ x179:Int,x179=at' r30 i160->(eO b x179 places edges)/\∀ r183:(List Int) × (List Int),r183=ep b x179 places edges->(lB r183.1 l161)/\∀ r285:Bool,r285=pw r183.1 l161->((r285=true->(bB (i160+1))/\∀ v287:Int,v287=i160+1->K166 (v287,r183.1))/\(r285=false->(bB (i160+1))/\∀ v290:Int,v290=i160+1->K166 (v290,l161))))/\(c169=false->aO (σ:=Bool × Int × (List Int) × (List Int)) (fun (found315,i316,l317,l318) K325=>∀ len326:Int,len326=(r30.length:Int)->∀ c328:Bool,c328=decide (i316<len326)->((c328=true->(0<=i316/\i316<r30.length)/\∀ x340:Int,x340=at' r30 i316->(eO b x340 places edges)/\∀ r344:(List Int) × (List Int),r344=ep b x340 places edges->(eV r344.1 l161)/\∀ r449:Bool,r449=iq r344.1 l161->((r449=true->(fV places)/\∀ r454:List Int,r454=vm places->(0<=i316/\i316<r30.length)/\∀ x474:Int,x474=at' r30 i316->(0<=x474/\x474<r454.length)/\∀ x482:Int,x482=at' r454 x474->∀ l485:List Int,l485=r454.set x474.toNat many->(bB (many+1))/\∀ v497:Int,v497=many+1->(gH b l485 r344.2 v497/\iK b l485 r344.2 v497<iK b places edges many)/\∀ r500:(List Int) × (List Int),r500=jT b l485 r344.2 v497->eU (fun (J520:Bool->Prop)=>((found315=true->(lB r500.1 l318)/\∀ r568:Bool,r568=pw r500.1 l318->J520 (r568))/\(found315=false->J520 (true)))) (fun b523=>((b523=true->(0<=i316/\i316<r30.length)/\∀ x537:Int,x537=at' r30 i316->∀ l540:List Int,l540=[x537]->(l540.length+r500.2.length<=1073741824)/\∀ l549:List Int,l549=l540++r500.2->(bB (i316+1))/\∀ v562:Int,v562=i316+1->K325 (true,v562,l549,r500.1))/\(b523=false->(bB (i316+1))/\∀ v565:Int,v565=i316+1->K325 (found315,v565,l317,l318)))))/\(r449=false->(bB (i316+1))/\∀ v451:Int,v451=i316+1->K325 (found315,v451,l317,l318))))/\(c328=false->(l161.length+l318.length<=1073741824)/\∀ l570:List Int,l570=l161++l318->Z (l570,l317)))) (false,0,([]:List Int),([]:List Int))))) (1,r51.1)))
theorem Dz {b:I} {es es':List Int} (h:lT b es) (h':lT b es') (e:cn b es=cn b es'):es=es':=by
  have hl:es.length=es'.length:=by have h1:=iO h;have h2:=iO h';rw[e] at h1;omega
  refine List.ext_getElem hl fun i h1 h2=>?_
  have hm:es[i] ∈ es:=List.getElem_mem h1;have hr:=h.rng _ hm;have e1:=gN (es:=es) hr;rw[e,gN hr,if_pos hm,List.Nodup.idxOf_getElem h.nd] at e1
  by_cases h3:es[i] ∈ es'
  · rw[if_pos h3] at e1
    have h4:es'.idxOf es[i]=i:=by omega
    have h5:=List.getElem_idxOf (x:=es[i]) (xs:=es') (List.idxOf_lt_length_of_mem h3);simp only[h4] at h5;exact h5.symm
  · rw[if_neg h3] at e1;omega
theorem eJ.uniq {b:I} {pl ed:List Int} {many:Int} {s s':Cz} (h:eJ b pl ed many s) (h':eJ b pl ed many s'):s=s':=by
  have e1:=Dz h.bes h'.bes (h.bed.trans h'.bed.symm);have e2:=h.bpl.trans h'.bpl.symm;have e3:=h.bcz.num.trans h'.bcz.num.symm;cases s;cases s';simp_all
theorem mA {b:I} {pl ed:List Int} {many:Int} {s:Cz} (h:eJ b pl ed many s):jT b pl ed many=dF b (b.nodes.length - many.toNat) s:=by
  have hx:∃ s,eJ b pl ed many s:=⟨s,h⟩
  rw[jT,dif_pos hx,hx.choose_spec.uniq h]
theorem bA.tC {sig:cZ} {b:I} (h:bA sig b):fh b:=fun x hx=>(h.lN hx).2
theorem bA.even {sig:cZ} {b:I} (h:bA sig b):nJ b:=fun x y hx hy e=>by
  have h1:=h.uq hx;have h2:=h.uq hy;rw[e] at h1;omega
theorem eJ.rz {sig:cZ} {b:I} {pl ed:List Int} {many:Int} {s:Cz} (hv:bA sig b) (h:eJ b pl ed many s):ox b many.toNat ⟨[],ed,pl⟩:=by
  have h1:=iO h.bes;have h2:=hv.edges;have h3:=AJ (cn b s.es);have h4:(cn b s.es).length=b.edges.toNat:=by simp[cn]
  refine⟨⟨hv.edges,by simp only[<- h.bed,h4];omega,fun v hx=>?_⟩,by simp only[<- h.bpl];exact h.bcz.pl,fun v hx=>?_,by simp⟩
  · simp only[<- h.bed,cn,List.mem_map,List.mem_range] at hx
    obtain⟨l,hl,rfl⟩:=hx
    split
    · rename_i h5
      have:=List.idxOf_lt_length_of_mem h5;omega
    · omega
  · simp only[<- h.bpl] at hx
    exact h.bcz.lo v hx
theorem eJ.chunk {sig:cZ} {b:I} {pl ed:List Int} {many:Int} {s:Cz} (hv:bA sig b) (h:eJ b pl ed many s) {k:Int} (hk:0<=k/\k<b.nodes.length):ep b k pl ed=((bt b s k).1,cn b (bt b s k).2)/\lT b (bt b s k).2:=by
  have hl:=hv.kJ hk;obtain⟨t1,t2⟩:=dX (at' b.nodes k).links _ h.bes fun l hl2=>(hl l hl2).1
  rw[h.bed] at t1;refine⟨?_,t2⟩;simp only[ep,t1,bt,h.bpl]
theorem eJ.step {sig:cZ} {b:I} {pl ed:List Int} {many:Int} {s:Cz} (hv:bA sig b) (h:eJ b pl ed many s) (hm:many<b.nodes.length) {k:Int} (hk:k ∈ dW b s.pl) :
    eJ b (pl.set k.toNat many) (ep b k pl ed).2 (many+1) (bJ b s k):=by
  have hr:=(cy.1 hk).1;have hb:=h.bnum;have hn:=hv.len;obtain⟨e1,e2⟩:=h.chunk hv hr;have h1:=h.bfit;rw[show b.nodes.length - many.toNat=(b.nodes.length - (many+1).toNat)+1 by omega] at h1;have h2:=tS.step hv h.bcz hr (by omega);refine⟨h1.step hk,?_,e2,?_,by rw[e1];rfl,by omega⟩
  · rw[show (many+1).toNat=many.toNat+1 by omega];exact h2
  · have:=h.bcz.num
    simp only[bJ,h.bpl]
    congr 1;omega
theorem tp {b:I} (he:nJ b) (h3:∀ k:Int,0<=k/\k<b.nodes.length->(at' b.nodes k).links.length<=3):∀ {m:Nat} {s:Cz} {p:P2},p ∈ fp b m s->p.2.length=m/\p.1.length<=5 * m+(b.sites.length+b.inner.length)
  | 0,s,p,h=>by
    rw[List.mem_singleton.1 h];simp[iy,dJ]
  | m+1,s,p,h=>by
    obtain⟨k,hk,q,hq,rfl⟩:=ea.1 h;have hr:=(cy.1 hk).1;obtain⟨h4,h5⟩:=tp he h3 hq;have h6:=h3 k hr;have h7:(bt b s k).1.length<=5:=by simp[bt,dJ];omega
    simp only[List.length_cons,List.length_append];omega
theorem mG {b:I} {pl:List Int} {k:Int} (h:k ∈ dT b pl):k ∈ dW b pl:=(qe _ h).resolve_left (by simp)
theorem Dw {b:I} (hd:fh b) {m:Nat} {s:Cz} (h:Fit b (m+1) s):dT b s.pl ≠ []:=by
  have hhas:=qH (eY b) (l:=dW b s.pl) (out:=[]) (by simp) (oR s.pl);obtain⟨k,hk⟩:=lk hd h;rcases hhas k hk with h1 | ⟨x,h1,_⟩<;>intro e<;>rw[dT] at e<;>rw[e] at h1<;>cases h1
theorem D3 (b:I) (places edges:List Int) (many:Int) (h:gH b places edges many):nV b places edges many (fun z=>z=jT b places edges many):=by
  unfold nV;obtain⟨⟨sig,hv⟩,s,hs⟩:=h;have hn:=hv.len;have hsl:=hv.slen;have hil:=hv.inner;have hb:=hs.bnum;have hrz:=hs.rz hv;have hpl:places.length=b.nodes.length:=hrz.pl;simp only[forall_eq,decide_eq_true_eq,decide_eq_false_iff_not];refine⟨fun h1=>⟨hrz.tail hv,?_⟩,fun h1=>⟨⟨⟨sig,hv⟩,hpl⟩,?_⟩⟩
  · obtain⟨t1,t2⟩:=dX (b.inner.map fun w=>w.link) _ hs.bes fun l hl=>by
      obtain⟨w,hw,rfl⟩:=List.mem_map.1 hl;exact (hv.wires w hw).1
    rw[hs.bed] at t1;rw[mA hs,show b.nodes.length - many.toNat=0 by omega,dF];simp only[lH,t1,iy,hs.bpl]
  have hm:many<b.nodes.length:=by omega
  obtain⟨m,hmm⟩:∃ m,b.nodes.length - many.toNat=m+1:=⟨b.nodes.length - many.toNat - 1,by omega⟩
  have hfit:=hs.bfit;rw[hmm] at hfit;have hne:=Dw hv.tC hfit;have hin:∀ x ∈ dT b s.pl,0<=x/\x<b.nodes.length:=fun x hx=>(cy.1 (mG hx)).1
  have hfl:(dT b s.pl).length<=b.nodes.length:=by
    have h2:=qk (eY b) (dW b s.pl) [];have h3:(dW b s.pl).length<=b.nodes.length:=ru b s.pl b.nodes.length;simp only[List.length_nil] at h2;have h4:(dT b s.pl).length<=0+(dW b s.pl).length:=h2;omega
  have hch:∀ k:Int,0<=k/\k<b.nodes.length->(bt b s k).1.length<=5:=fun k hk=>by
    have:=hv.ga hk;simp[bt,dJ];omega
  rw[mA hs,hmm,show Aw b places=dT b s.pl by rw[hs.bpl]];have hrec:∀ k ∈ dT b s.pl,(jT b (places.set k.toNat many) (ep b k places edges).2 (many+1))=dF b m (bJ b s k)/\(dF b m (bJ b s k)).2.length<=8/\(dF b m (bJ b s k)).1.length<=100:=fun k hk=>by
    have h2:=hs.step hv hm (mG hk);have h3:=(lp hv.even hv.tC (fun p hp=>(hv.sites p hp).2) (hfit.step (mG hk))).1;have h4:=tp hv.even (fun k hk=>hv.ga hk) h3;rw[mA h2,show b.nodes.length - (many+1).toNat=m by omega];exact⟨rfl,by omega,by omega⟩
  rw[dF];generalize hF:dT b s.pl=an at hne hin hfl hrec;obtain⟨k0,t,hF2⟩:∃ k0 t,an=k0::t:=by
    cases an with
    | nil=>exact absurd rfl hne
    | cons k0 t=>exact⟨k0,t,rfl⟩
  have hF0:at' an (0:Int)=k0:=by rw[hF2];rfl
  have hlF:0<an.length:=by rw[hF2];simp
  have hk0:=hin k0 (by rw[hF2];simp);rw[hF0];have hc0:=hs.chunk hv hk0;refine⟨⟨by omega,by omega⟩,hrz.chunk hv hk0,?_⟩;rw[hc0.1];refine aO.up t.length (fun s=>s.1 - 1) (fun k l=>((k:Int)+1,l)) (fun k l=>by simp) (fun k l=>l=(t.take k).foldl (fun a k=>if cmpL (bt b s k).1 a<0 then (bt b s k).1 else a) (bt b s k0).1/\l.length<=5) _ rfl ⟨rfl,hch k0 hk0⟩ ?_;rintro i l K hi ⟨hl,hl5⟩ IH;have htl:an.length=t.length+1:=by rw[hF2];simp
  simp only[forall_eq,decide_eq_true_eq,decide_eq_false_iff_not];refine⟨fun h2=>?_,fun h2=>?_⟩
  · have hit:i<t.length:=by omega
    have hFi:at' an ((i:Int)+1)=t[i]:=by
      rw[hF2,show (i:Int)+1=((i+1:Nat):Int) by omega,bp (by simp;omega)];simp
    have hti:=hin t[i] (by rw[hF2];simp);have hci:=hs.chunk hv hti;have h5:=hch _ hti;rw[hFi,hci.1];refine⟨⟨by omega,by omega⟩,hrz.chunk hv hti,⟨by simp only;omega,by omega⟩,fun h6=>⟨⟨by omega,by omega⟩,?_⟩,fun h6=>⟨⟨by omega,by omega⟩,?_⟩⟩
    · refine IH hit _ ⟨?_,h5⟩
      rw[<- List.take_append_getElem hit,List.foldl_append,<- hl];simp only[pw,decide_eq_true_eq] at h6;simp[h6]
    · refine IH hit _ ⟨?_,hl5⟩
      rw[<- List.take_append_getElem hit,List.foldl_append,<- hl];simp only[pw,decide_eq_false_iff_not] at h6;simp[h6]
  · have hit:i=t.length:=by omega
    rw[hit,List.take_length] at hl;have hlc:l=iA b s an:=by rw[hl,hF2];rfl
    rw[<- hlc];clear IH K;refine aO.up (τ:=Bool × List Int × List Int) an.length (fun s=>s.2.1) (fun j x=>(x.1,(j:Int),x.2.1,x.2.2)) (fun _ _=>rfl) (fun j x=>(x.2.2,x.2.1,x.1)=(an.take j).foldl (iI (fun k=>decide ((bt b s k).1=l)) fun k=>dF b m (bJ b s k)) ([],[],false)/\x.2.1.length<=9/\x.2.2.length<=100) (false,[],[]) rfl ⟨rfl,by simp,by simp⟩ ?_;rintro j ⟨found,ord,code⟩ K hj ⟨hI,ho9,hc100⟩ IH;simp only at hI ho9 hc100;simp only[forall_eq,decide_eq_true_eq,decide_eq_false_iff_not];refine⟨fun h3=>?_,fun h3=>?_⟩
    · have hjF:j<an.length:=by omega
      have hFj:at' an (j:Int)=an[j]:=bp hjF;have hmem:an[j] ∈ an:=List.getElem_mem hjF;have hfj:=hin _ hmem;have hcj:=hs.chunk hv hfj;have h5:=hch _ hfj;obtain⟨r1,r2,r3⟩:=hrec _ hmem;have hst:=hs.step hv hm (mG (by rw[hF];exact hmem):an[j] ∈ dW b s.pl);have hfold:∀ x,x=iI (fun k=>decide ((bt b s k).1=l)) (fun k=>dF b m (bJ b s k)) (code,ord,found) an[j]->x=(an.take (j+1)).foldl (iI (fun k=>decide ((bt b s k).1=l)) fun k=>dF b m (bJ b s k)) ([],[],false):=fun x hx=>by
        rw[<- List.take_append_getElem hjF,List.foldl_append,<- hI,hx];rfl
      rw[hFj];rw[hcj.1] at r1 hst ⊢;refine⟨⟨by omega,by omega⟩,hrz.chunk hv hfj,by simp only[eV];omega,fun h6=>?_,fun h6=>?_⟩
      · simp only[iq,decide_eq_true_eq] at h6
        have hat:∃ y,at' (vm places) an[j]=y:=⟨_,rfl⟩
        refine⟨by simp only[fV];omega,⟨by omega,by omega⟩,⟨hfj.1,by simp only[vm];omega⟩,⟨by omega,by omega⟩,⟨⟨⟨sig,hv⟩,_,hst⟩,by simp only[iK];omega⟩,?_⟩;simp only[vm];rw[r1];refine⟨fun c=>c=(found=false\/cmpL (dF b m (bJ b s an[j])).1 code<0:Bool),⟨fun h7=>⟨⟨by omega,by omega⟩,?_⟩,fun h7=>by simp[h7]⟩,?_⟩
        · simp[h7,pw]
        · rintro _ rfl
          simp only[decide_eq_true_eq,decide_eq_false_iff_not];refine⟨fun h7=>⟨⟨by omega,by omega⟩,by simp;omega,⟨by omega,by omega⟩,IH hjF (_,_,_) ⟨hfold _ ?_,by simp;omega,r3⟩⟩,fun h7=>⟨⟨by omega,by omega⟩,IH hjF (_,_,_) ⟨hfold _ ?_,ho9,hc100⟩⟩⟩
          · simp only[iI,h6,decide_true,if_true]
            rw[if_pos h7];simp
          · simp only[iI,h6,decide_true,if_true]
            rw[if_neg h7]
      · simp only[iq,decide_eq_false_iff_not] at h6
        refine⟨⟨by omega,by omega⟩,IH hjF (_,_,_) ⟨hfold _ ?_,ho9,hc100⟩⟩;simp[iI,h6]
    · rw[show j=an.length by omega,List.take_length] at hI
      refine⟨by omega,?_⟩;rw[<- hI]
end Go.Ab.Vg
namespace Go.Ab
section
variable {P:Program} {N:Nat} {O:Env} {H:ax} {n:Nat} {Ty:Types} {d:Option Tmp} {ty:TypeId} {pos:String} {af:Array Edge} {gu:Option (Nat × Bool)}
theorem aN.boxI {k:Nat} {t:TypeId} {x:Operand} {cs:List au} (hc:aE (O.ev x)=some cs):aN P N ⟨some k,.box t x,ty,pos,af,gu⟩ O H n (rX (.iptr true cs) H n):=by
  refine aN.dA fun c a hH hn g r=>?_
  obtain⟨vs,hvs,hl⟩:=kD (r.ev x) hc;have hk:=rF g (.cells vs.toArray t);refine⟨.iptr true cs,.pointer (some ⟨c.w.heap.size,0,none⟩),{ c with w:={ c.w with heap:=c.w.heap.push (.cells vs.toArray t) } },?_,⟨rfl,hH,hn⟩,?_,hk.2,hk.1⟩
  · simp[execOp,Instr.box,newVar,newRow,hvs]
  · refine .iptr true cs _ (fun j=>vs.getD j Go.undef) rfl ?_ (by simp) (fun _=>g.Bsize) (fun j y hy=>?_) (fun j y hy=>?_)
    · rintro⟨id,o,ho,hb⟩
      have:=g.lt ho;simp only at hb;omega
    · have hj:=(List.getElem?_eq_some_iff.1 hy).1
      have hlen:=hl.1;simp only[World.cell?,Array.getElem?_push_size];simp[List.getElem?_eq_getElem (show j<vs.length by omega)]
    · have hj:=(List.getElem?_eq_some_iff.1 hy).1
      have hlen:=hl.1;have hv:vs[j]?=some (vs[j]'(by omega)):=List.getElem?_eq_getElem (by omega);have:=(hl.2 _ _ _ hy hv).keeps hk.1;simpa[hv] using this
theorem aN.uS (hT:aW P Ty) {t:TypeId} {x:Operand} {len:Nat} {j:TI} {fr:Bool} {cs:List au} (hk:kd Ty t = .arr len j) (hj:j.size=1) (hx:O.ev x = .iptr fr cs) (hl:cs.length=len) (h0:len ≠ 0) :
    aN P N ⟨d,.slice t x none none none,ty,pos,af,gu⟩ O H n (rX (.list fr (cs.map fun a=>[a])) H n):=
  aN.pure fun c a hH g r=>by
    obtain⟨i,e,hi,hd,hje⟩:=rf hk;have hde:=(hT t i hi).bI c.w;have hsz:=(hT e j hje).cF c.w;have rx:=r.ev x;rw[hx] at rx;generalize hvx:a.eval x=vx at rx;cases rx with
    | iptr fr cs ad cell hs hm hb hf hc h=>
      refine⟨.slice (some ad) len len,?_,?_⟩
      · simp[execOp,Instr.sliceAt,hde,hd,hvx,Instr.sliceBounds,hsz,h0,Instr.sureAddr,Addr.add]
      · have:=bW.list (c:=c) fr (cs.map fun a=>[a]) ad len 1 (fun i _=>cell i) (fun _=>hs) (by simp[hl]) (fun _=>⟨hm,hb,hf⟩) (fun i e he=>by
            simp only[List.getElem?_map,Option.map_eq_some_iff] at he;obtain⟨_,_,rfl⟩:=he
            rfl) (fun i e q y he hq=>by
            simp only[List.getElem?_map,Option.map_eq_some_iff] at he;obtain⟨z,hz,rfl⟩:=he;cases q with
            | zero=>simpa using hc i z hz
            | succ q=>simp at hq) (fun i e q y he hq=>by
            simp only[List.getElem?_map,Option.map_eq_some_iff] at he;obtain⟨z,hz,rfl⟩:=he;cases q with
            | zero=>simp at hq;subst hq;exact h i z hz
            | succ q=>simp at hq)
        simpa[hl] using this
end
section
variable {P:Program} {f:FuncId} {N:Nat} {k:List Item} {Q:au->ax->Nat->Prop} {Ty:Types} {l:List Oper} {O:Env} {H:ax} {n:Nat} {d:Option Tmp} {ty:TypeId} {pos:String} {af:Array Edge}
theorem J.seqK (hT:aW P Ty) {id:Nat} {ops:List Oper} {y:Code} (hN:ops.all (fun o=>dC N o.dst)=true) (h:∀ k':List Item,(∀ O H n,J P f N (.code y::k) O H n Q->J P f N k' O H n Q)->bz P f N k' Q ops.toArray ops O H n) :
    J P f N (.code (.seq (.region id ops.toArray false) y)::k) O H n Q:=
  J.seq (J.region (h (.code y::k) fun _ _ _ h=>h))
theorem bz.ofE (hT:aW P Ty) {ops:List Oper} (hN:ops.all (fun o=>dC N o.dst)=true) (hl:l.all (fun o=>dC N o.dst)=true) (h:cd P f N k Q Ty ops.toArray l O H n):bz P f N k Q ops.toArray l O H n:=dY (ops:=ops.toArray) hT (by simpa using hN) l O H n hl h
theorem bz.boxK {ops:Array Oper} {q:Nat} {t:TypeId} {x:Operand} (cs:List au) (hd:dC N (some q)=true) (hc:aE (O.ev x)=some cs) (h:bz P f N k Q ops l (O.put (some q) (.iptr true cs)) H n):bz P f N k Q ops (⟨some q,.box t x,ty,pos,af,none⟩::l) O H n:=
  fA.op rfl hd ((aN.boxI hc).mono fun _ _ _ ⟨e1,e2,e3⟩=>by subst e1 e2 e3;exact h)
theorem bf.uS (hT:aW P Ty) {ops:Array Oper} {t:TypeId} {x:Operand} {len:Nat} {j:TI} {fr:Bool} {cs:List au} (hk:kd Ty t = .arr len j) (hj:j.size=1) (hx:O.ev x = .iptr fr cs) (hcl:cs.length=len) (h0:len ≠ 0)
    (h:dv P f N k Q Ty bV ops l (O.put d (.list fr (cs.map fun a=>[a]))) H n):bf P f N k Q bV ops (⟨d,.slice t x none none none,ty,pos,af,none⟩::l) O H n:=by
  have e:(loc (.slice t x none none none) O).ev x=O.ev x:=dm (by simp[Op.operands]);have hop:∀ H n,aN P N ⟨d,.slice t x none none none,ty,pos,af,none⟩ (loc (.slice t x none none none) O) H n (rX (.list fr (cs.map fun a=>[a])) H n):=fun H n=>aN.uS hT hk hj (by rw[e];exact hx) hcl h0
  exact⟨(O.put d (.list fr (cs.map fun a=>[a])),H,n),.inl ⟨by simp[fm],_,rfl,fun _=>⟨rfl,hop⟩,fun _=>rfl,hop H n⟩,df hT aA l _ _ _ h⟩
end
end Go.Ab
