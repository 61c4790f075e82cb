/- Merged texts (8 of 17) of the proof that ends in Coy: Kd Kf Kh Kk Kkw Kl Ko L2k Kq Sf. -/
import Derived.Test.YtkocdlgoncmdbaaGreatDoorAbQco7
open Go.Proofs.Tryz
set_option linter.unusedSectionVars false
set_option linter.unusedSimpArgs false
set_option linter.unusedVariables false
namespace Go.Ab.Vg
open Go.Proofs
def cJ (o:Option I) (b:aG) (es pl c:I):List I:=o.toList++(aG.cells false b++[es,pl,c])
def dn (o:Option I):Nat:=o.toList.length
theorem dY {o:Option I} {b:aG} {es pl c:I} (k:Nat):(cJ o b es pl c)[dn o+k]?=(aG.cells false b++[es,pl,c])[k]?:=by rw[cJ,dn,List.getElem?_append_right (Nat.le_add_right _ _),Nat.add_sub_cancel_left]
theorem gb {o:Option I} {b:aG} {es pl c:I} (k:Nat):(cJ o b es pl c).take (dn o+k)=o.toList++(aG.cells false b++[es,pl,c]).take k:=by rw[cJ,dn,List.take_length_add_append]
theorem fp {o:Option I} {b:aG} {es pl c:I} (k:Nat):(cJ o b es pl c).drop (dn o+k)=(aG.cells false b++[es,pl,c]).drop k:=by rw[cJ,dn,List.drop_length_add_append]
theorem gW {o:Option I} {b:aG} {es pl c:I} (k:Nat):(cJ o b es pl c).drop (dn o+k+1)=(aG.cells false b++[es,pl,c]).drop (k+1):=fp (k+1)
theorem yX (o:Option I):(dn o+8+1<=9+dn o)=True:=by simp;omega
theorem E5 (o:Option I):(dn o+7+1<=9+dn o)=True:=by simp;omega
theorem qg {H:av} {X:Id} {sz idx:Nat} {els:List (List I)} {e:List I} (hX:H X=some ⟨sz,els⟩) (he:els[idx]?=some e):H.set X ⟨sz,els.set idx e⟩=H:=by
  funext i
  rw[av.aW]
  split
  · rename_i h
    subst h;obtain⟨hi,he⟩:=List.getElem?_eq_some_iff.1 he;rw[hX,<- he,List.set_getElem_self]
  · rfl
section
variable {H:av} {n:Nat} {X:Id} {g idx:Nat} {els:List (List I)} {o:Option I} {b:aG}
theorem yZ {es c:I} {t:Bool} {pl:List Int} (hX:H X=some ⟨9+dn o,els⟩) (hg:els.length=g) (he:els[idx]?=some (cJ o b es (.list t (pl.map au)) c)) {p:Int} (hp:p<pl.length) (h1:bP (-1 - p)) (h2:0<=p->bP (4+at' pl p)) :
    cU prog 159 [.ptr X g idx (dn o),int p] H n (fun r=>r=int (cA pl p)):=by
  refine bt.of func159 rfl ntmps159 (by simp) fun Q hQ=>?_
  subst hg;obtain⟨hi,he⟩:=List.getElem?_eq_some_iff.1 he;cases o
  all_goals
    refine zE fun _ V=>?_
    simp[dn];apply V;refine zS fun _ V=>?_
    simp;apply V;refine J.ite rfl (fun hc1=>?_) (fun hc1=>?_)
    · have hp0:0<=p:=by simpa using hc1
      have hb:0<=p/\p<pl.length:=⟨hp0,hp⟩
      have hI:=h2 hp0;refine zE fun _ V=>?_
      have f1:=fun H=>aU (H:=H) (fr:=t) (f:=au) (k:=.i64) aP (fun _=>rfl) hb rfl
      have f2:=aR hI rfl;simp[hX,he,hi,cJ,dn,aG.cells,f1,f2,au,-ar,-ax];apply V;exact J.bG (v:=int (4+at' pl p)) func159 results159 (by simp) (hQ _ _ _ ⟨by rw[cA,if_neg (by omega)],rfl,rfl⟩)
    · have hp0:p<0:=by simpa using hc1
      apply J.skip;refine zE fun _ V=>?_
      have f2:=tV h1 rfl;simp[f2,-ax];apply V;exact J.bG (v:=int (-1 - p)) func159 results159 (by simp) (hQ _ _ _ ⟨by rw[cA,if_pos hp0],rfl,rfl⟩)
end
theorem bA.EI {P:Program} {N:Nat} {f:FuncId} {k:List Item} {Q:I->av->Nat->Prop} {Ty:Types} {κ:Op->Nat} {ops:Array Oper} {L:List Oper} {O:Env} {H:av} {n dd:Nat} {ty:TypeId} {pos:String} {af:Array Edge} {t:TypeId} {s x:Operand} {j:TI} {fr t':Bool} {l m:List Int}
    (hT:aV P Ty) (hκ:CM κ) (h2:κ (.call ⟨.builtin .append,#[s,x],#[t,t]⟩)=2) (hk:kd Ty t = .slice j) (hz:j.size=1/\j.zero.length=1/\j.bytes<=131072) (hs:O.ev s = .clip fr (l.map nb)) (hx:O.ev x = .list t' (m.map au)) (hne:m ≠ []) (hm:l.length+m.length<=1073741824)
    (h:dF P f N k Q Ty κ ops L (O.put (some dd) (.arr (n,dd) (l.length+m.length) 0 (l.length+m.length))) (H.set (n,dd) ⟨1,(l++m).map au⟩) (n+1)):bA P f N k Q κ ops (⟨some dd,.call ⟨.builtin .append,#[s,x],#[t,t]⟩,ty,pos,af,none⟩::L) O H n:=by
  refine bA.op hT hκ (v:=.arr (n,dd) (l.length+m.length) 0 (l.length+m.length)) (H':=H.set (n,dd) ⟨1,(l++m).map au⟩) (n':=n+1) rfl (by simp only[h2];decide) (fun h=>by simp only[h2] at h;cases h) ?_ h;have e1:(loc (.call ⟨.builtin .append,#[s,x],#[t,t]⟩) O).ev s=O.ev s:=dK (by simp[Op.operands,Call.operands]);have e2:(loc (.call ⟨.builtin .append,#[s,x],#[t,t]⟩) O).ev x=O.ev x:=dK (by simp[Op.operands,Call.operands]);have:=aK.EG (P:=P) (N:=N) (O:=loc (.call ⟨.builtin .append,#[s,x],#[t,t]⟩) O) (H:=H) (n:=n) (dd:=dd) (ty:=ty) (pos:=pos) (af:=af) (gu:=none) hT hk (s:=s) (x:=x) (vs:=l.map nb) (els:=m.map au) (e1.trans hs) (by rw[e2,hx];rfl) (by simp[hz.1,nb]) (by simp[hz.1,au]) (by simpa using hne) ⟨by omega,hz.2.2⟩ (by simpa using hm);rw[nm,<- List.map_append] at this;show aK P N _ _ H n (fun v1 H1 U=>v1 = .arr (n,dd) (l.length+m.length) 0 (l.length+m.length)/\H1=H.set (n,dd) ⟨1,(l++m).map au⟩/\U=n+1);simpa[hz.1] using this
theorem Sep.addI {H:av} {n:Nat} {K:List bW} {ids:List Id} {d:Nat} (l:List Int) (h:Sep H n K ids):Sep (H.set (n,d) ⟨1,l.map au⟩) (n+1) (oI (.arr (n,d) l.length 0 l.length) l::K) ids:=by
  have:=Sep.rE (l:=[.c]) (d:=d) (els:=l.map au) (es:=l.map au) h (bK.fresh (by intro e he;obtain⟨a,_,rfl⟩:=List.mem_map.1 he;simp[au]) (by simp));simpa using this
section
variable {H:av} {n:Nat} {X:Id} {g idx:Nat} {els:List (List I)} {o:Option I} {b:aG}
def cE (b:aG) (es:List Int) (l:Int):Int × List Int:=if l >= b.edges then (l - b.edges,es) else if l ∈ es then (16+((es.idxOf l:Nat):Int),es) else (16+((es.length:Nat):Int),es++[l])
theorem e159:a8 prog 159:=a8.of func159 (by kernel_rfl) rfl
theorem B5 {pl c:I} {es:List Int} (hX:H X=some ⟨9+dn o,els⟩) (hg:els.length=g) (he:els[idx]?=some (cJ o b (.list true (es.map au)) pl c)) {l:Int} (hl:bP (l - b.edges)) (hE:es.length<=1048576) :
    bt prog 160 [.ptr X g idx (dn o),int l] H n (fun r H1 U=>r=int (cE b es l).1/\H1=H.set X ⟨9+dn o,els.set idx (cJ o b (.list true ((cE b es l).2.map au)) pl c)⟩/\U=n):=by
  refine bt.of func160 rfl ntmps160 (by simp) fun Q hQ=>?_
  subst hg;have hsame:=qg hX he;obtain⟨hi,he⟩:=List.getElem?_eq_some_iff.1 he;cases o
  all_goals
    refine zE fun _ V=>?_
    simp[dn];apply V;refine zS fun _ V=>?_
    simp[hX,he,hi,cJ,dn,aG.cells];apply V;refine J.ite rfl (fun hc1=>?_) (fun hc1=>?_)
    · have hp0:b.edges<=l:=by simpa using hc1
      refine zE fun _ V=>?_
      have f2:=tV hl rfl;simp[hX,he,hi,cJ,dn,aG.cells,f2,-ax];apply V;exact J.bG (v:=int (l - b.edges)) func160 results160 (by simp) (hQ _ _ _ ⟨by rw[cE,if_pos hp0],by rw[cE,if_pos hp0];exact hsame.symm,rfl⟩)
    · have hp0:¬ b.edges<=l:=by simpa using hc1
      apply J.skip;refine zE fun _ V=>?_
      simp[hX,he,hi,cJ,dn,aG.cells];refine zA (sK es l hE) Ea (.cons (aN.qI (fr:=true) (els:=es.map au) (by simp[au])) (.cons (.v _ _ _) .nil)) (by simp) ?_;rintro _ rfl;simp;apply V;refine zS fun _ V=>?_
      simp;apply V;have hidx:=Br es l;refine J.ite rfl (fun hc2=>?_) (fun hc2=>?_)
      · have hp1:dA es l<0:=by simpa using hc2
        have hm:l ∉ es:=fun h=>by have:=hidx.2.2.2 h;omega
        have hk:cE b es l=(16+((es.length:Nat):Int),es++[l]):=by rw[cE,if_neg hp0,if_neg hm]
        refine zE fun _ V=>?_
        have f1:=fun H=>aQ (H:=H) (fr:=true) (f:=au) (l:=es) aP rfl
        simp[hX,he,hi,cJ,dn,aG.cells,f1,-aL];apply V;refine zF fun _ V=>?_
        simp[hX,he,hi,cJ,dn,aG.cells];refine bq.j0 aw (rC true es _ _) e142 (by decide) (by decide) rfl (by simp) ?_;rintro _ rfl;simp;refine bq.Em (fr:=true) (t':=true) (l:=es) (m:=[l]) aw (by decide) (by decide) aP ⟨rfl,rfl,by decide⟩ (by simp) (by simp[au]) (by simp) (by simp;omega) ?_;simp[hX,he,hi,cJ,dn,aG.cells];apply V;refine zE fun _ V=>?_
        have f3:=aR (show bP (16+(es.length:Int)) by simp only[bP];omega) rfl;simp[f3,-ax];apply V;refine J.bG (v:=int (16+((es.length:Nat):Int))) func160 results160 (by simp) (hQ _ _ _ ⟨by rw[hk],?_,rfl⟩);rw[hk];simp[cJ,dn,aG.cells]
      · have hp1:¬ dA es l<0:=by simpa using hc2
        have hm:l ∈ es:=hidx.2.2.1 (by omega);have hk:cE b es l=(16+((es.idxOf l:Nat):Int),es):=by rw[cE,if_neg hp0,if_pos hm]
        have hz:dA es l=((es.idxOf l:Nat):Int):=by rw[dA,if_pos hm]
        apply J.skip;refine zE fun _ V=>?_
        have f3:=aR (show bP (16+dA es l) by simp only[bP];omega) rfl;simp[f3,-ax];apply V;exact J.bG (v:=int (16+dA es l)) func160 results160 (by simp) (hQ _ _ _ ⟨by rw[hk,hz],by rw[hk];exact hsame.symm,rfl⟩)
theorem e160:a8 prog 160:=a8.of func160 (by kernel_rfl) rfl
theorem fU (b:aG):∀ (l es:List Int) (a:Int),bJ b es (l++[a])=((bJ b es l).1++[(cE b (bJ b es l).2 a).1],(cE b (bJ b es l).2 a).2)
  | [],es,a=>by
    by_cases h1:a >= b.edges
    · simp[bJ,cE,h1]
    · by_cases h2:a ∈ es<;>simp[bJ,cE,h1,h2]
  | x::l,es,a=>by
    simp only[List.cons_append,bJ]
    split
    · rw[fU b l];rfl
    · split
      · rw[fU b l];rfl
      · rw[fU b l];rfl
theorem eV (b:aG):∀ (l es:List Int),(bJ b es l).2.length<=es.length+l.length
  | [],es=>by simp[bJ]
  | x::l,es=>by
    simp only[bJ]
    split
    · have:=eV b l es;simp;omega
    · split
      · have:=eV b l es;simp;omega
      · have:=eV b l (es++[x]);simp at this ⊢;omega
set_option maxRecDepth 100000 in
theorem node_c {es pl code:List Int} {cv:I} {K:List bW} {ids:List Id} (hX:H X=some ⟨9+dn o,els⟩) (hg:els.length=g) (he:els[idx]?=some (cJ o b (.list true (es.map au)) (.list true (pl.map au)) cv)) (hcv:Sub cv (.list true (code.map au)))
    {k num:Int} (hk:0<=k/\k<b.nodes.length) (hkp:k<pl.length) (hpp:(at' b.nodes k).parent<pl.length) (hp1:bP (-1 - (at' b.nodes k).parent)) (hp2:0<=(at' b.nodes k).parent->bP (4+at' pl (at' b.nodes k).parent))
    (hlk:∀ l ∈ (at' b.nodes k).links,bP (l - b.edges)) (hsz:es.length+(at' b.nodes k).links.length<=1048576) (hcz:code.length+(at' b.nodes k).links.length<=1048576) (hpz:pl.length<=1048576) (hxi:X ∉ ids) (M:Sep H n K (X::ids)) :
    bt prog 143 [.ptr X g idx (dn o),int k,int num] H n (fun r H1 U=>∃ vp vc,H1 X=some ⟨9+dn o,els.set idx (cJ o b (.list true ((bJ b es (at' b.nodes k).links).2.map au)) vp vc)⟩ /\
      Sep H1 U (oI vp (pl.set k.toNat num)::oI vc (code++(at' b.nodes k).control::cA pl (at' b.nodes k).parent::(bJ b es (at' b.nodes k).links).1)::K) (X::ids)/\(∀ i ∈ ids,H1 i=H i)/\n<=U):=by
  refine bt.of func143 rfl ntmps143 (by simp) fun Q hQ=>?_
  subst hg;have he0:=he;obtain⟨hi,he⟩:=List.getElem?_eq_some_iff.1 he;have h00:=M.1;have lX:X.1<n:=h00 X (by simp);have neX:∀ m d,n<=m->(X=(m,d))=False:=fun m d hm=>by simp only[eq_iff_iff,iff_false];rintro rfl;simp at lX;omega
  have neI:∀ i ∈ ids,i ≠ (n,6):=fun i hi h=>by have:=h00 i (by simp[hi]);rw[h] at this;simp at this
  have nX0:=neX n 6 (Nat.le_refl _);have nX1:=neX (n+1) 30 (by omega);have nX2:∀ d,(X=(n+1,d))=False:=fun d=>neX (n+1) d (by omega)
  generalize hx:at' b.nodes k=x at *;refine zE fun _ V=>?_
  have f1:=fun H=>aU (H:=H) (fr:=false) (f:=ay.cells false) (k:=.i64) cG (fun _=>rfl) hk hx.symm
  simp[hX,he,hi,dY,gb,fp,aG.cells,bE,f1,ay.cells,encI,-ar];apply V;refine J.cut (fun O H1 U=>O 0 = .ptr X els.length idx (dn o)/\O 1=int k/\O 2=int num/\O 6 = .ptr (n,6) 1 0 0/\H1 (n,6)=some ⟨3,[ay.cells false x]⟩/\H1 X=some ⟨9+dn o,els⟩/\U=n+1/\Sep H1 (n+1) K ((n,6)::X::ids)/\∀ i ∈ ids,H1 i=H i)
    ⟨by simp,by simp,by simp,by simp,by simp[ay.cells,encI],by simp[nX0,hX],rfl,Sep.var M,fun i hi=>by rw[av.aD _ _ (neI i hi)]⟩ ?_
  clear V f1;rintro O H1 _ ⟨r0,r1,r2,r6,m6,mX,rfl,sp1,fr1⟩;refine J.gr aw aH bY (by decide) (by kernel_rfl) fun _ V=>?_
  simp[r0,r6,mX,he,hi,dY,gb,fp,aG.cells];refine bA.j0 aw aH (bt.sub (.cons hcv .nil) (rC true code _ _)) e142 (by decide) rfl (by simp) ?_;simp[r0,r6,m6,ay.cells];refine bA.j0 aw aH (yZ mX rfl he0 hpp hp1 hp2) e159 (by decide) rfl (by simp[r0]) ?_;simp[List.range_succ];have nR:∀ i ∈ (n,6)::X::ids,i ≠ (n+1,30):=fun i hi h=>by have:=sp1.1 i hi;rw[h] at this;simp at this
  have sp2:=Sep.addI (d:=30) (code++[x.control,cA pl x.parent]) sp1;refine bA.EI (fr:=true) (t':=true) (l:=code) (m:=[x.control,cA pl x.parent]) aw aH (by decide) aP ⟨rfl,rfl,by decide⟩ (by simp) (by simp[au]) (by simp) (by simp;omega) ?_;simp[r0,mX,he,hi,dY,gb,fp,gW,yX,aG.cells,nX2];apply V;have mX1:((H1.set (n+1,30) ⟨1,(code++[x.control,cA pl x.parent]).map au⟩).set X ⟨9+dn o,els.set idx (cJ o b (.list true (es.map au)) (.list true (pl.map au)) (.arr (n+1,30) (code.length+2) 0 (code.length+2)))⟩) X=some ⟨9+dn o,els.set idx (cJ o b (.list true (es.map au)) (.list true (pl.map au)) (.arr (n+1,30) (code.length+2) 0 (code.length+2)))⟩:=av.bb _ _ _;refine J.cut (fun O H2 n2=>∃ vc,O 0 = .ptr X els.length idx (dn o)/\O 1=int k/\O 2=int num/\O 6 = .ptr (n,6) 1 0 0/\H2 (n,6)=some ⟨3,[ay.cells false x]⟩/\H2 X=some ⟨9+dn o,els.set idx (cJ o b (.list true (es.map au)) (.list true (pl.map au)) vc)⟩/\n<=n2/\Sep H2 n2 (oI vc (code++[x.control,cA pl x.parent])::K) (X::ids)/\∀ i ∈ ids,H2 i=H i)
    ⟨.arr (n+1,30) (code.length+2) 0 (code.length+2),by simp[r0],by simp[r1],by simp[r2],by simp[r6],?_,by simp[cJ,aG.cells],by omega,?_,fun i hi=>?_⟩ ?_
  · rw[av.aD _ _ (fun h=>by simp[h] at nX0),av.aD _ _ (by simp)];exact m6
  · have:=Sep.sub (dQ:=X::ids) (Sep.bD (w:=X) (o:=⟨9+dn o,els.set idx (cJ o b (.list true (es.map au)) (.list true (pl.map au)) (.arr (n+1,30) (code.length+2) 0 (code.length+2)))⟩) sp2 (by simp)) (by simp +contextual)
    simpa[cJ,aG.cells] using this
  · rw[av.aD _ _ (show i ≠ X from fun h=>hxi (h ▸ hi)),av.aD _ _ (nR i (by simp[hi]))];exact fr1 i hi
  clear V mX1 sp2 nR r0 r1 r2 r6 m6 mX sp1 fr1;rintro O H2 n2 ⟨vc,r0,r1,r2,r6,m6,mX,hn2,sp2,fr2⟩;refine zS fun _ V=>?_
  have f1:=fun H=>aQ (H:=H) (fr:=false) (f:=au) (l:=x.links) aP rfl
  simp[r6,m6,ay.cells,encI,f1,-aL];apply V;refine J.block (J.bS x.links.length (fun i O H3 n3=>∃ vc,O 0 = .ptr X els.length idx (dn o)/\O 1=int k/\O 2=int num/\O 34 = .list false (x.links.map au)/\O 35=int x.links.length/\O 36=int i /\
    H3 X=some ⟨9+dn o,els.set idx (cJ o b (.list true ((bJ b es (x.links.take i)).2.map au)) (.list true (pl.map au)) vc)⟩/\n<=n3/\Sep H3 n3 (oI vc (code++x.control::cA pl x.parent::(bJ b es (x.links.take i)).1)::K) (X::ids)/\∀ i ∈ ids,H3 i=H i)
    ⟨vc,by simp[r0],by simp[r1],by simp[r2],by simp,by simp,by simp,by simpa[bJ] using mX,hn2,by simpa[bJ] using sp2,fr2⟩ ?_)
  clear V f1 r0 r1 r2 r6 m6 mX hn2 sp2 fr2;rintro i O H3 n3 hi3 ⟨vc,r0,r1,r2,c,j,r36,mX,hn3,sp3,fr3⟩ IH;refine zE fun _ V=>?_
  simp[j,r36];apply V;apply J.seq;refine J.ite rfl (fun hc1=>?_) (fun hc1=>?_)
  · have hc1:i<x.links.length:=by simpa using hc1
    apply zK;apply J.block;refine zE fun _ V=>?_
    have f1:=fun H=>aU (H:=H) (fr:=false) (f:=au) (l:=x.links) (k:=.i64) (i:=(i:Int)) aP (fun _=>rfl) ⟨by omega,by omega⟩ rfl
    simp[c,r36,f1,au,-ar];apply V;have hl8:at' x.links (i:Int) ∈ x.links:=by rw[bo hc1];exact List.getElem_mem hc1
    generalize ha:at' x.links (i:Int)=a at hl8;have htk:x.links.take (i+1)=x.links.take i++[a]:=by rw[<- List.take_append_getElem hc1,<- ha,bo hc1]
    have hsn:=fU b (x.links.take i) es a;have hE1:=eV b (x.links.take i) es;have hE2:(bJ b es (x.links.take i)).1.length=(x.links.take i).length:=dN _ _;rw[<- htk] at hsn;generalize bJ b es (x.links.take i)=L at hsn hE1 hE2 mX sp3;have hti:(x.links.take i).length=i:=by simp;omega
    rw[hti] at hE1 hE2;refine J.Dh (fun H n=>∃ es':List Int,H X=some ⟨9+dn o,els.set idx (cJ o b (.list true (es'.map au)) (.list true (pl.map au)) vc)⟩) [7,9,12] (.free 0 (.free 1 (.free 2 (.free 3 (.free 4 (.free 5 (.free 6 (.aS 7 (.free 8 (.aS 9 (.free 10 (.free 11 (.aS 12 .fin .stop))) .stop)) .stop))))))))
      (fun O H3 n3=>∃ vc,O 0 = .ptr X els.length idx (dn o)/\O 1=int k/\O 2=int num/\O 34 = .list false (x.links.map au)/\O 35=int x.links.length/\O 36=int i /\
        H3 X=some ⟨9+dn o,els.set idx (cJ o b (.list true ((bJ b es (x.links.take (i+1))).2.map au)) (.list true (pl.map au)) vc)⟩/\n<=n3/\Sep H3 n3 (oI vc (code++x.control::cA pl x.parent::(bJ b es (x.links.take (i+1))).1)::K) (X::ids)/\∀ i ∈ ids,H3 i=H i) bY (by decide) (by kernel_rfl) ?_ ?_
    · have hgX:∀ es':List Int,(els.set idx (cJ o b (.list true (es'.map au)) (.list true (pl.map au)) vc))[idx]?=some (cJ o b (.list true (es'.map au)) (.list true (pl.map au)) vc):=fun es'=>by rw[List.getElem?_set_self hi]
      refine RunT.free (.ptr X els.length idx (dn o)) rfl rfl ⟨_,mX⟩ (fun H n ⟨es',hS⟩=>aC aw (by rw[aA];simp[r0])) ?_;refine RunT.free (.ptr X els.length idx (dn o)) rfl rfl ⟨_,mX⟩ (fun H n ⟨es',hS⟩=>aC aw (by rw[aA];simp[r0])) ?_;refine RunT.free (.ptr X els.length idx (dn o)) rfl rfl ⟨_,mX⟩ (fun H n ⟨es',hS⟩=>aC aw (by rw[aA];simp[hS,hi])) ?_;refine RunT.free (.ptr X els.length idx (dn o+8)) rfl rfl ⟨_,mX⟩ (fun H n ⟨es',hS⟩=>aC aw (by rw[aA];simp[hS,hi])) ?_;refine RunT.free vc rfl rfl ⟨_,mX⟩ (fun H n ⟨es',hS⟩=>aC aw (by rw[aA];simp[hS,hi,dY,aG.cells])) ?_;refine RunT.free (.ptr X els.length idx (dn o)) rfl rfl ⟨_,mX⟩ (fun H n ⟨es',hS⟩=>aC aw (by rw[aA];simp[r0])) ?_;refine RunT.free (int a) rfl rfl ⟨_,mX⟩ (fun H n ⟨es',hS⟩=>aC aw (by rw[aA];simp)) ?_;refine⟨?_,trivial⟩;refine RunT.zD (fun r H1 U=>r=int (cE b L.2 a).1/\H1=H3.set X ⟨9+dn o,(els.set idx (cJ o b (.list true (L.2.map au)) (.list true (pl.map au)) vc)).set idx (cJ o b (.list true ((cE b L.2 a).2.map au)) (.list true (pl.map au)) vc)⟩/\U=n3) rfl rfl
        (aK.call (first:=[]) (captured:=[]) (by rw[eZ.2];rfl) e160 (by rw[eZ.1];simp[r0];simpa using B5 (n:=n3) mX (by simp) (hgX _) (hlk a hl8) (by omega))) ?_
      rintro _ _ _ ⟨rfl,rfl,rfl⟩;rw[List.set_set];have mX2:=av.bb H3 X ⟨9+dn o,els.set idx (cJ o b (.list true ((cE b L.2 a).2.map au)) (.list true (pl.map au)) vc)⟩;have sp4:=Sep.bD (w:=X) (o:=⟨9+dn o,els.set idx (cJ o b (.list true ((cE b L.2 a).2.map au)) (.list true (pl.map au)) vc)⟩) sp3 (by simp);have fr4:∀ i ∈ ids,(H3.set X ⟨9+dn o,els.set idx (cJ o b (.list true ((cE b L.2 a).2.map au)) (.list true (pl.map au)) vc)⟩) i=H i:=fun i hi=>by rw[av.aD _ _ (show i ≠ X from fun h=>hxi (h ▸ hi))];exact fr3 i hi
      generalize H3.set X ⟨9+dn o,els.set idx (cJ o b (.list true ((cE b L.2 a).2.map au)) (.list true (pl.map au)) vc)⟩=H4 at mX2 sp4 fr4;refine⟨fun _=>⟨_,mX2⟩,?_⟩;refine RunT.free (.list true [[int (cE b L.2 a).1]]) rfl rfl ⟨_,mX2⟩ (fun H n ⟨es',hS⟩=>aC aw (by rw[aA];simp[List.range_succ])) ?_;refine⟨?_,trivial⟩;refine RunT.append (v:=vc) (xv:=.list true [[int (cE b L.2 a).1]]) aw [] K [[int (cE b L.2 a).1]] [au (cE b L.2 a).1] rfl rfl (by simp) (by simp) sp4 aP (by simp) (by simp) (by simp[cy]) (by simp) (cr (aT.v _ aT.nil)) (by simp) (by simp;omega) ?_;rintro vn H5 n5 sp5 fr5 hn5;have mX5:H5 X=some ⟨9+dn o,els.set idx (cJ o b (.list true ((cE b L.2 a).2.map au)) (.list true (pl.map au)) vc)⟩:=(fr5 X (by simp)).trans mX2;refine⟨fun _=>⟨_,mX5⟩,?_⟩;refine RunT.free (.ptr X els.length idx (dn o)) rfl rfl ⟨_,mX5⟩ (fun H n ⟨es',hS⟩=>aC aw (by rw[aA];simp[hS,hi])) ?_;refine RunT.free (.ptr X els.length idx (dn o+8)) rfl rfl ⟨_,mX5⟩ (fun H n ⟨es',hS⟩=>aC aw (by rw[aA];simp[hS,hi])) ?_;refine⟨?_,trivial⟩;have ho:=Sep.oc sp5;refine RunT.step (v:=.undef) (H':=H5.set X ⟨9+dn o,els.set idx (cJ o b (.list true ((cE b L.2 a).2.map au)) (.list true (pl.map au)) vn)⟩) (n':=n5) aw rfl rfl ?_ (fun hl=>absurd (hl.symm.trans (show bh _ _ _=true by kernel_rfl)) (by decide)) ?_
      · simp[mX5,hi,dY,gb,fp,gW,yX,aG.cells,ho,-az,-aE,bB,bf]
        simp[cJ,aG.cells]
      refine RunT.fin ⟨vn,by simp[r0],by simp[r1],by simp[r2],by simp[c],by simp[j],by simp[r36],by rw[hsn];exact av.bb _ _ _,by omega,?_,fun i hi=>?_⟩
      · rw[hsn]
        have:=Sep.bD (w:=X) (o:=⟨9+dn o,els.set idx (cJ o b (.list true ((cE b L.2 a).2.map au)) (.list true (pl.map au)) vn)⟩) sp5 (by simp);simpa[oI,oE] using this
      · rw[av.aD _ _ (show i ≠ X from fun h=>hxi (h ▸ hi)),fr5 i (by simp[hi])];exact fr4 i hi
    · rintro O H4 n4 ⟨vc,r0,r1,r2,c,j,r36,mX,hn3,sp3,fr3⟩
      refine zI fun _ V=>?_
      have f2:=aR (show bP ((i:Int)+1) by simp only[bP];omega) (show ((i+1:Nat):Int)=(i:Int)+1 by omega);simp[r36,f2,-ax];apply V;exact IH hc1 _ _ _ ⟨vc,by simp[r0],by simp[r1],by simp[r2],by simp[c],by simp[j],by simp,mX,hn3,sp3,fr3⟩
  · have hc2:¬ i<x.links.length:=by simpa using hc1
    have hc1:i=x.links.length:=by omega
    subst hc1;refine J.exit rfl ?_;rw[List.take_length] at mX sp3;refine zE fun _ V=>?_
    generalize bJ b es x.links=L at mX sp3 hQ;have hgX:∀ e,(els.set idx e)[idx]?=some e:=fun e=>by rw[List.getElem?_set_self hi]
    simp[r0,mX,hi,dY,aG.cells];refine zW (sf pl hpz) e106 (.cons (aN.qI (fr:=true) (els:=pl.map au) (by simp[au])) .nil) sp3 (by simp) ?_;rintro vp H4 n4 _ sp4 rfl hn4 fr4;have mX4:=(fr4 X (by simp)).trans mX;have ho:=Sep.oc sp4;simp[r0,mX4,hi,dY,gb,fp,gW,E5,aG.cells,ho,-az,-aE,bB,bf];apply V;refine J.cut (fun O H5 n5=>O 0 = .ptr X els.length idx (dn o)/\O 1=int k/\O 2=int num/\H5 X=some ⟨9+dn o,els.set idx (cJ o b (.list true (L.2.map au)) vp vc)⟩/\n<=n5/\Sep H5 n5 (oI vp pl::oI vc (code++x.control::cA pl x.parent::L.1)::K) (X::ids)/\∀ i ∈ ids,H5 i=H i)
      ⟨by simp[r0],by simp[r1],by simp[r2],by simp[cJ,aG.cells],by omega,Sep.bD sp4 (by simp),fun i hi=>by rw[av.aD _ _ (show i ≠ X from fun h=>hxi (h ▸ hi)),fr4 i (by simp[hi])];exact fr3 i hi⟩ ?_
    clear V mX4 ho sp4 fr4 r0 r1 r2 mX sp3 fr3 hn4 hn3 c j r36;rintro O H5 n5 ⟨r0,r1,r2,mX,hn5,sp5,fr5⟩;have hkb:0<=k/\k<pl.length:=⟨hk.1,hkp⟩
    obtain⟨id,rfl,mo,ln,ni⟩:=Sep.di sp5 (by simp) hkb;refine zF fun _ V=>?_
    have f1:=fun H (hm:H id=some ⟨1,pl.map au⟩)=>b7 (H:=H) (k:=.i64) (off:=0) (len:=pl.length) (g:=pl.length) aP hm (by simp) rfl hkb
    simp[r0,r1,r2,mX,hi,dY,gb,fp,gW,E5,aG.cells,f1 _ mo,-ar,-bM];refine cV (q:=k.toNat) (news:=au num) [] (oI vc (code++x.control::cA pl x.parent::L.1)::K) sp5 (by simp) (by simp;omega) (by simp) (by simp[-aE,bf]) (aT.v _ aT.nil) ?_;rintro H6 sp6 fr6;simp;apply V;refine J.fin func143 (aM.zero results143) (hQ _ _ _ ⟨_,vc,(fr6 X (by simp)).trans mX,?_,fun i hi=>(fr6 i (by simp[hi])).trans (fr5 i hi),hn5⟩);have:=sp6;rw[<- List.map_set] at this;exact this
theorem e143:a8 prog 143:=a8.of func143 (by kernel_rfl) rfl
set_option maxRecDepth 100000 in
theorem rest_c {es pl code:List Int} {cv:I} {K:List bW} {ids:List Id} (hX:H X=some ⟨9+dn o,els⟩) (hg:els.length=g) (he:els[idx]?=some (cJ o b (.list true (es.map au)) (.list true (pl.map au)) cv))
    (hp:∀ p ∈ b.sites,p<pl.length/\bP (-1 - p)/\(0<=p->bP (4+at' pl p))) (hlk:∀ w ∈ b.inner,bP (w.link - b.edges)) (hsz:es.length+b.inner.length<=1048576) (hcz:code.length+b.sites.length+b.inner.length<=1048576) (hxi:X ∉ ids) (M:Sep H n (oI cv code::K) (X::ids)) :
    bt prog 145 [.ptr X g idx (dn o)] H n (fun r H1 U=>∃ vc,H1 X=some ⟨9+dn o,els.set idx (cJ o b (.list true ((bJ b es (b.inner.map fun w=>w.link)).2.map au)) (.list true (pl.map au)) vc)⟩ /\
      Sep H1 U (oI vc (code++(b.sites.map (cA pl)++(bJ b es (b.inner.map fun w=>w.link)).1))::K) (X::ids)/\(∀ i ∈ ids,H1 i=H i)/\n<=U):=by
  refine bt.of func145 rfl ntmps145 (by simp) fun Q hQ=>?_
  subst hg;have he0:=he;obtain⟨hi,he⟩:=List.getElem?_eq_some_iff.1 he;have hgX:∀ e,(els.set idx e)[idx]?=some e:=fun e=>by rw[List.getElem?_set_self hi]
  have neX0:∀ (H3:av) (n3:Nat),(∀ i ∈ X::ids,i.1<n3)->X ≠ (n3,5):=fun _ n3 h e=>by have:=h X (by simp);rw[e] at this;simp at this
  refine zS fun _ V=>?_
  have f1:=fun H=>aQ (H:=H) (fr:=false) (f:=au) (l:=b.sites) aP rfl
  simp[hX,he,hi,dY,aG.cells,encI,f1,-aL];apply V;refine J.block (J.bS b.sites.length (fun i O H3 n3=>∃ vc,O 0 = .ptr X els.length idx (dn o)/\O 10 = .list false (b.sites.map au)/\O 11=int b.sites.length/\O 12=int i /\
    H3 X=some ⟨9+dn o,els.set idx (cJ o b (.list true (es.map au)) (.list true (pl.map au)) vc)⟩/\n<=n3/\Sep H3 n3 (oI vc (code++(b.sites.take i).map (cA pl))::K) (X::ids)/\∀ i ∈ ids,H3 i=H i)
    ⟨cv,by simp,by simp,by simp,by simp,by rw[<- he,List.set_getElem_self];exact hX,Nat.le_refl _,by simpa using M,fun _ _=>rfl⟩ ?_)
  clear V f1 he0 hX M;rintro i O H3 n3 hi3 ⟨vc,r0,u,y,j,mX,hn3,sp3,fr3⟩ IH;refine zE fun _ V=>?_
  simp[y,j];apply V;apply J.seq;refine J.ite rfl (fun hc1=>?_) (fun hc1=>?_)
  · have hc1:i<b.sites.length:=by simpa using hc1
    apply zK;apply J.block;refine zE fun _ V=>?_
    have f1:=fun H=>aU (H:=H) (fr:=false) (f:=au) (l:=b.sites) (k:=.i64) (i:=(i:Int)) aP (fun _=>rfl) ⟨by omega,by omega⟩ rfl
    simp[u,j,f1,au,-ar];apply V;have hl8:at' b.sites (i:Int) ∈ b.sites:=by rw[bo hc1];exact List.getElem_mem hc1
    generalize ha:at' b.sites (i:Int)=a at hl8;have htk:b.sites.take (i+1)=b.sites.take i++[a]:=by rw[<- List.take_append_getElem hc1,<- ha,bo hc1]
    obtain⟨hp1,hp2,hp3⟩:=hp a hl8;refine J.gx aw aH bY (by decide) (by kernel_rfl) fun _ V=>?_
    simp[r0,mX,hi,dY,aG.cells];refine bA.j0 aw aH (yZ (g:=els.length) mX (by simp) (hgX _) hp1 hp2 hp3) e159 (by decide) rfl (by simp[r0]) ?_;simp[List.range_succ,-bj];refine dj [] K [[int (cA pl a)]] [au (cA pl a)] sp3 aP (by simp) (by simp) (by simp[cy]) (by simp) (cr (aT.v _ aT.nil)) (by simp) (by simp;omega) ?_;rintro vn H4 n4 sp4 fr4 hn4;have mX4:=(fr4 X (by simp)).trans mX;have ho:=Sep.oc sp4;simp[r0,mX4,hi,dY,gb,fp,gW,yX,aG.cells,ho,-az,-aE,bB,bf];apply V;refine zI fun _ V=>?_
    have f2:=aR (show bP ((i:Int)+1) by simp only[bP];omega) (show ((i+1:Nat):Int)=(i:Int)+1 by omega);simp[j,f2,-ax];apply V;refine IH hc1 _ _ _ ⟨vn,by simp[r0],by simp[u],by simp[y],by simp,by simp[cJ,aG.cells],by omega,?_,fun i hi=>by rw[av.aD _ _ (show i ≠ X from fun h=>hxi (h ▸ hi)),fr4 i (by simp[hi])];exact fr3 i hi⟩;rw[htk];have:=Sep.bD (w:=X) (o:=⟨9+dn o,els.set idx (cJ o b (.list true (es.map au)) (.list true (pl.map au)) vn)⟩) sp4 (by simp);simpa[oI,oE,cJ,aG.cells] using this
  · have hc2:¬ i<b.sites.length:=by simpa using hc1
    have hc1:i=b.sites.length:=by omega
    subst hc1;refine J.exit rfl ?_;rw[List.take_length] at sp3;clear IH hi3 u y j;refine zE fun _ V=>?_
    have f1:=fun H=>aQ (H:=H) (fr:=false) (f:=aI.cells) (l:=b.inner) fh rfl
    simp[r0,mX,hi,dY,aG.cells,bO,f1,-aL];apply V;refine J.block (J.bS b.inner.length (fun i O H3 n3=>∃ vc,O 0 = .ptr X els.length idx (dn o)/\O 33 = .list false (b.inner.map aI.cells)/\O 34=int b.inner.length/\O 35=int i /\
      H3 X=some ⟨9+dn o,els.set idx (cJ o b (.list true ((bJ b es ((b.inner.map fun w=>w.link).take i)).2.map au)) (.list true (pl.map au)) vc)⟩/\n<=n3/\Sep H3 n3 (oI vc (code++(b.sites.map (cA pl)++(bJ b es ((b.inner.map fun w=>w.link).take i)).1))::K) (X::ids)/\∀ i ∈ ids,H3 i=H i)
      ⟨vc,by simp[r0],by simp,by simp,by simp,by simpa[bJ] using mX,hn3,by simpa[bJ] using sp3,fr3⟩ ?_)
    clear V f1 r0 mX hn3 sp3 fr3;rintro i O H3 n3 hi3 ⟨vc,r0,q,t,c,mX,hn3,sp3,fr3⟩ IH;refine zE fun _ V=>?_
    simp[t,c];apply V;apply J.seq;refine J.ite rfl (fun hc1=>?_) (fun hc1=>?_)
    · have hc1:i<b.inner.length:=by simpa using hc1
      apply zK;apply J.block;refine zE fun _ V=>?_
      have f1:=fun H=>aU (H:=H) (fr:=false) (f:=aI.cells) (l:=b.inner) (k:=.i64) (i:=(i:Int)) fh (fun _=>rfl) ⟨by omega,by omega⟩ rfl
      simp[q,c,f1,aI.cells,-ar];apply V;have hl8:at' b.inner (i:Int) ∈ b.inner:=by rw[bo hc1];exact List.getElem_mem hc1
      have hlw:=hlk _ hl8;generalize ha:at' b.inner (i:Int)=w at hl8 hlw;have htk:(b.inner.map fun w=>w.link).take (i+1)=(b.inner.map fun w=>w.link).take i++[w.link]:=by
        have hcm:i<(b.inner.map fun w=>w.link).length:=by simpa using hc1
        rw[<- List.take_append_getElem hcm,<- ha,bo hc1];simp
      have hsn:=fU b ((b.inner.map fun w=>w.link).take i) es w.link;have hE1:=eV b ((b.inner.map fun w=>w.link).take i) es;have hE2:(bJ b es ((b.inner.map fun w=>w.link).take i)).1.length=((b.inner.map fun w=>w.link).take i).length:=dN _ _;rw[<- htk] at hsn;generalize bJ b es ((b.inner.map fun w=>w.link).take i)=L at hsn hE1 hE2 mX sp3;have hti:((b.inner.map fun w=>w.link).take i).length=i:=by simp;omega
      rw[hti] at hE1 hE2;have nX:=neX0 H3 n3 sp3.1;have spv:=Sep.var (d:=5) (o:=⟨2,[[str w.name,int w.link]]⟩) sp3;have mXv:(H3.set (n3,5) ⟨2,[[str w.name,int w.link]]⟩) X=some ⟨9+dn o,els.set idx (cJ o b (.list true (L.2.map au)) (.list true (pl.map au)) vc)⟩:=by rw[av.aD _ _ nX];exact mX
      have mWv:(H3.set (n3,5) ⟨2,[[str w.name,int w.link]]⟩) (n3,5)=some ⟨2,[[str w.name,int w.link]]⟩:=av.bb _ _ _;have frv:∀ i ∈ ids,(H3.set (n3,5) ⟨2,[[str w.name,int w.link]]⟩) i=H i:=fun i hi=>by rw[av.aD _ _ (fun h=>by have:=sp3.1 i (by simp[hi]);rw[h] at this;simp at this)];exact fr3 i hi
      generalize H3.set (n3,5) ⟨2,[[str w.name,int w.link]]⟩=H3v at spv mXv mWv frv;refine J.Dh (fun H n=>(∃ es':List Int,H X=some ⟨9+dn o,els.set idx (cJ o b (.list true (es'.map au)) (.list true (pl.map au)) vc)⟩)/\H (n3,5)=some ⟨2,[[str w.name,int w.link]]⟩) [8,10,13] (.free 0 (.free 1 (.free 2 (.free 3 (.free 4 (.free 5 (.free 6 (.free 7 (.aS 8 (.free 9 (.aS 10 (.free 11 (.free 12 (.aS 13 .fin .stop))) .stop)) .stop)))))))))
        (fun O H3 n3=>∃ vc,O 0 = .ptr X els.length idx (dn o)/\O 33 = .list false (b.inner.map aI.cells)/\O 34=int b.inner.length/\O 35=int i /\
          H3 X=some ⟨9+dn o,els.set idx (cJ o b (.list true ((bJ b es ((b.inner.map fun w=>w.link).take (i+1))).2.map au)) (.list true (pl.map au)) vc)⟩/\n<=n3/\Sep H3 n3 (oI vc (code++(b.sites.map (cA pl)++(bJ b es ((b.inner.map fun w=>w.link).take (i+1))).1))::K) (X::ids)/\∀ i ∈ ids,H3 i=H i) bY (by decide) (by kernel_rfl) ?_ ?_
      · refine RunT.free (.ptr X els.length idx (dn o)) rfl rfl ⟨⟨_,mXv⟩,mWv⟩ (fun H n ⟨⟨es',hS⟩,hW⟩=>aC aw (by rw[aA];simp[r0])) ?_
        refine RunT.free (.ptr X els.length idx (dn o)) rfl rfl ⟨⟨_,mXv⟩,mWv⟩ (fun H n ⟨⟨es',hS⟩,hW⟩=>aC aw (by rw[aA];simp[r0])) ?_;refine RunT.free (.ptr X els.length idx (dn o)) rfl rfl ⟨⟨_,mXv⟩,mWv⟩ (fun H n ⟨⟨es',hS⟩,hW⟩=>aC aw (by rw[aA];simp[hS,hi])) ?_;refine RunT.free (.ptr X els.length idx (dn o+8)) rfl rfl ⟨⟨_,mXv⟩,mWv⟩ (fun H n ⟨⟨es',hS⟩,hW⟩=>aC aw (by rw[aA];simp[hS,hi])) ?_;refine RunT.free vc rfl rfl ⟨⟨_,mXv⟩,mWv⟩ (fun H n ⟨⟨es',hS⟩,hW⟩=>aC aw (by rw[aA];simp[hS,hi,dY,aG.cells])) ?_;refine RunT.free (.ptr X els.length idx (dn o)) rfl rfl ⟨⟨_,mXv⟩,mWv⟩ (fun H n ⟨⟨es',hS⟩,hW⟩=>aC aw (by rw[aA];simp[r0])) ?_;refine RunT.free (.ptr (n3,5) 1 0 1) rfl rfl ⟨⟨_,mXv⟩,mWv⟩ (fun H n ⟨⟨es',hS⟩,hW⟩=>aC aw (by rw[aA];simp[hW])) ?_;refine RunT.free (int w.link) rfl rfl ⟨⟨_,mXv⟩,mWv⟩ (fun H n ⟨⟨es',hS⟩,hW⟩=>aC aw (by rw[aA];simp[hW])) ?_;refine⟨?_,trivial⟩;refine RunT.zD (fun r H1 U=>r=int (cE b L.2 w.link).1/\H1=H3v.set X ⟨9+dn o,(els.set idx (cJ o b (.list true (L.2.map au)) (.list true (pl.map au)) vc)).set idx (cJ o b (.list true ((cE b L.2 w.link).2.map au)) (.list true (pl.map au)) vc)⟩/\U=n3+1) rfl rfl
          (aK.call (first:=[]) (captured:=[]) (by rw[eZ.2];rfl) e160 (by rw[eZ.1];simp[r0];simpa using B5 (n:=n3+1) mXv (by simp) (hgX _) hlw (by omega))) ?_
        rintro _ _ _ ⟨rfl,rfl,rfl⟩;rw[List.set_set];have mX2:=av.bb H3v X ⟨9+dn o,els.set idx (cJ o b (.list true ((cE b L.2 w.link).2.map au)) (.list true (pl.map au)) vc)⟩;have mW2:(H3v.set X ⟨9+dn o,els.set idx (cJ o b (.list true ((cE b L.2 w.link).2.map au)) (.list true (pl.map au)) vc)⟩) (n3,5)=some ⟨2,[[str w.name,int w.link]]⟩:=by rw[av.aD _ _ (fun h=>nX h.symm)];exact mWv
        have sp4:=Sep.bD (w:=X) (o:=⟨9+dn o,els.set idx (cJ o b (.list true ((cE b L.2 w.link).2.map au)) (.list true (pl.map au)) vc)⟩) spv (by simp);have fr4:∀ i ∈ ids,(H3v.set X ⟨9+dn o,els.set idx (cJ o b (.list true ((cE b L.2 w.link).2.map au)) (.list true (pl.map au)) vc)⟩) i=H i:=fun i hi=>by rw[av.aD _ _ (show i ≠ X from fun h=>hxi (h ▸ hi))];exact frv i hi
        generalize H3v.set X ⟨9+dn o,els.set idx (cJ o b (.list true ((cE b L.2 w.link).2.map au)) (.list true (pl.map au)) vc)⟩=H4 at mX2 sp4 fr4 mW2;refine⟨fun _=>⟨⟨_,mX2⟩,mW2⟩,?_⟩;refine RunT.free (.list true [[int (cE b L.2 w.link).1]]) rfl rfl ⟨⟨_,mX2⟩,mW2⟩ (fun H n ⟨⟨es',hS⟩,hW⟩=>aC aw (by rw[aA];simp[List.range_succ])) ?_;refine⟨?_,trivial⟩;refine RunT.append (v:=vc) (xv:=.list true [[int (cE b L.2 w.link).1]]) aw [] K [[int (cE b L.2 w.link).1]] [au (cE b L.2 w.link).1] rfl rfl (by simp) (by simp) sp4 aP (by simp) (by simp) (by simp[cy]) (by simp) (cr (aT.v _ aT.nil)) (by simp) (by simp;omega) ?_;rintro vn H5 n5 sp5 fr5 hn5;have mX5:H5 X=some ⟨9+dn o,els.set idx (cJ o b (.list true ((cE b L.2 w.link).2.map au)) (.list true (pl.map au)) vc)⟩:=(fr5 X (by simp)).trans mX2;have mW5:=(fr5 (n3,5) (by simp)).trans mW2;refine⟨fun _=>⟨⟨_,mX5⟩,mW5⟩,?_⟩;refine RunT.free (.ptr X els.length idx (dn o)) rfl rfl ⟨⟨_,mX5⟩,mW5⟩ (fun H n ⟨⟨es',hS⟩,hW⟩=>aC aw (by rw[aA];simp[hS,hi])) ?_;refine RunT.free (.ptr X els.length idx (dn o+8)) rfl rfl ⟨⟨_,mX5⟩,mW5⟩ (fun H n ⟨⟨es',hS⟩,hW⟩=>aC aw (by rw[aA];simp[hS,hi])) ?_;refine⟨?_,trivial⟩;have ho:=Sep.oc sp5;refine RunT.step (v:=.undef) (H':=H5.set X ⟨9+dn o,els.set idx (cJ o b (.list true ((cE b L.2 w.link).2.map au)) (.list true (pl.map au)) vn)⟩) (n':=n5) aw rfl rfl ?_ (fun hl=>absurd (hl.symm.trans (show bh _ _ _=true by kernel_rfl)) (by decide)) ?_
        · simp[mX5,hi,dY,gb,fp,gW,yX,aG.cells,ho,-az,-aE,bB,bf]
          simp[cJ,aG.cells]
        refine RunT.fin ⟨vn,by simp[r0],by simp[q],by simp[t],by simp[c],by rw[hsn];exact av.bb _ _ _,by omega,?_,fun i hi=>?_⟩
        · rw[hsn]
          have:=Sep.sub (dQ:=X::ids) (Sep.bD (w:=X) (o:=⟨9+dn o,els.set idx (cJ o b (.list true ((cE b L.2 w.link).2.map au)) (.list true (pl.map au)) vn)⟩) sp5 (by simp)) (by simp +contextual);simpa[oI,oE] using this
        · rw[av.aD _ _ (show i ≠ X from fun h=>hxi (h ▸ hi)),fr5 i (by simp[hi])];exact fr4 i hi
      · rintro O H4 n4 ⟨vc,r0,q,t,c,mX,hn3,sp3,fr3⟩
        refine zI fun _ V=>?_
        have f2:=aR (show bP ((i:Int)+1) by simp only[bP];omega) (show ((i+1:Nat):Int)=(i:Int)+1 by omega);simp[c,f2,-ax];apply V;exact IH hc1 _ _ _ ⟨vc,by simp[r0],by simp[q],by simp[t],by simp,mX,hn3,sp3,fr3⟩
    · have hc2:¬ i<b.inner.length:=by simpa using hc1
      have hc1:i=b.inner.length:=by omega
      subst hc1;refine J.exit rfl ?_;have htl:(b.inner.map fun w=>w.link).take b.inner.length=b.inner.map fun w=>w.link:=List.take_of_length_le (by simp)
      rw[htl] at sp3 mX;exact J.fin func145 (aM.zero results145) (hQ _ _ _ ⟨vc,mX,sp3,fr3,hn3⟩)
end
end Go.Ab.Vg
namespace Go.Ab.Vg
open Go.Proofs
section
variable {H:av} {n:Nat}
theorem e141:a8 prog 141:=a8.of func141 (by kernel_rfl) rfl
theorem e145:a8 prog 145:=a8.of func145 (by kernel_rfl) rfl
theorem yC {b:aG} {K:List bW} {ids:List Id} (hb:b.nodes.length<=1048576) (M:Sep H n K ids) :
    bt prog 141 [.agg (aG.cells false b)] H n (fun r H1 U=>∃ X,r = .ptr X 1 0 0/\X ∉ ids/\H1 X=some ⟨9,[cJ none b (.v (.slice none 0 0)) (.list true ((List.replicate b.nodes.length (-1:Int)).map au)) (.v (.slice none 0 0))]⟩ /\
      Sep H1 U K (X::ids)/\(∀ i ∈ ids,H1 i=H i)/\n<=U):=by
  refine bt.of func141 rfl ntmps141 (by simp) fun Q hQ=>?_
  refine zE fun _ V=>?_
  simp[aG.cells];apply V;refine J.gr aw aH bY (by decide) (by kernel_rfl) fun _ V=>?_
  have f1:=fun H=>aQ (H:=H) (fr:=false) (f:=ay.cells false) (l:=b.nodes) cG rfl
  simp[bE,f1,List.range_succ,-aL];refine bA.cY aw aH ((BI (-1) b.nodes.length ⟨by omega,by omega⟩).pure) e158 (.cons (aN.qI (fr:=true) (els:=[au (-1)]) (by simp[au])) (.cons (.v _ _ _) .nil)) (by decide) rfl (by simp[au]) ?_;simp;apply V;refine J.bG (v:=.ptr (n+1,10) 1 0 0) func141 results141 (by simp) (hQ _ _ _ ⟨(n+1,10),rfl,fun h=>by have:=M.1 _ h;simp at this;omega,by simp[cJ,aG.cells,bE],?_,fun i hi=>?_,by omega⟩)
  · exact Sep.sub (Sep.var (Sep.var M)) (by simp +contextual)
  · have h1:=M.1 i hi
    rw[av.aD _ _ (by rintro rfl;simp at h1;omega),av.aD _ _ (by rintro rfl;simp at h1)]
theorem zr {o:Option I} {b:aG} {ag P c:I} {φ:I->I} (hφ:∀ a,gm a->φ a=a) (hE:gm ag) (hP:φ P=P\/True):(cJ o b ag P c).map φ=cJ (o.map φ) b ag (φ P) (φ c):=by
  have h1:(aG.cells false b).map φ=aG.cells false b:=by
    conv=>rhs;rw[<- List.map_id (aG.cells false b)]
    exact List.map_congr_left fun a ha=>hφ a (pK false b a ha)
  simp only[cJ,List.map_append,h1,List.map_cons,List.map_nil,hφ ag hE];cases o<;>rfl
theorem BM (l:List Int):gm (.list true (l.map au)):=.list _ _ fun e he a ha=>by
  obtain⟨x,_,rfl⟩:=List.mem_map.1 he;simp only[au,List.mem_singleton] at ha;subst ha;exact .v _
structure tQ (b:aG) (m:Nat) (s:Cz):Prop where
  pl:s.pl.length=b.nodes.length
  es:s.es.length<=3 * m
  lo:∀ v ∈ s.pl,-1<=v/\v<=8
  num:s.num=m
theorem E1 (b:aG):tQ b 0 (jf b):=⟨by simp[jf],by simp[jf],fun v hv=>by have:=(List.mem_replicate.1 hv).2;omega,rfl⟩
theorem tQ.step {sig:dG} {b:aG} {m:Nat} {s:Cz} {k:Int} (hv:bn sig b) (h:tQ b m s) (hk:0<=k/\k<b.nodes.length) (hm:m<=8):tQ b (m+1) (bF b s k):=by
  have h3:=hv.gA hk;have h4:=eV b (at' b.nodes k).links s.es;refine⟨by simp[bF,h.pl],?_,fun v hx=>?_,by simp[bF,h.num]⟩
  · have:=h.es
    simp only[bF,bk];omega
  · have hn:=h.num
    simp only[bF] at hx;rcases List.mem_or_eq_of_mem_set hx with hx | rfl
    · exact h.lo v hx
    · omega
theorem tQ.at {b:aG} {m:Nat} {s:Cz} (h:tQ b m s) {p:Int} (hp:0<=p/\p<s.pl.length):bP (4+at' s.pl p):=by
  have:=h.lo _ (at_mem hp);exact⟨by omega,by omega⟩
theorem bn.i64par {sig:dG} {b:aG} (h:bn sig b) {i:Int} (hi:0<=i/\i<b.nodes.length):bP (-1 - (at' b.nodes i).parent):=by
  have h1:=h.lL hi;have h2:=h.roots;have h3:=h.len;exact⟨by omega,by omega⟩
theorem bn.i64lnk {sig:dG} {b:aG} (h:bn sig b) {i:Int} (hi:0<=i/\i<b.nodes.length):∀ l ∈ (at' b.nodes i).links,bP (l - b.edges):=fun l hl=>by
  have h1:=h.lB hi l hl;have h2:=h.edges;have h3:=h.outer;exact⟨by omega,by omega⟩
set_option maxRecDepth 100000 in
end
end Go.Ab.Vg
namespace Go.Ab.Vg
def cD (b:aG) (es:List Int):List Int:=(List.range b.edges.toNat).map fun l:Nat=>if (l:Int) ∈ es then ((es.idxOf (l:Int):Nat):Int) else -1
structure lT (b:aG) (es:List Int):Prop where
  ed:0<=b.edges/\b.edges<=8
  nd:es.Nodup
  rng:∀ x ∈ es,0<=x/\x<b.edges
theorem iy {b:aG} {es:List Int} {l:Int} (h:0<=l/\l<b.edges):at' (cD b es) l=if l ∈ es then ((es.idxOf l:Nat):Int) else -1:=by
  obtain⟨k,rfl⟩:∃ k:Nat,l=k:=⟨l.toNat,by omega⟩
  rw[bo (show k<(cD b es).length by simp[cD];omega)];simp[cD]
theorem jB {b:aG} {es:List Int} (h:lT b es):gK (cD b es)=(es.length:Int):=by
  have h1:(cD b es).filter (fun x=>decide (0<=x))=((List.range b.edges.toNat).filter fun l:Nat=>decide ((l:Int) ∈ es)).map fun l:Nat=>((es.idxOf (l:Int):Nat):Int):=by
    rw[cD,List.filter_map];generalize List.range b.edges.toNat=r
    induction r with
    | nil=>rfl
    | cons x r ih=>
      simp only[List.filter_cons,Function.comp]
      by_cases hx:(x:Int) ∈ es
      · have hx2:(0:Int)<=((es.idxOf (x:Int):Nat):Int):=by omega
        simp only[if_pos hx,hx,hx2,decide_true,if_true,List.map_cons];rw[ih]
      · have hx2:¬ (0:Int) <= -1:=by omega
        simp only[if_neg hx,hx,hx2,decide_false,Bool.false_eq_true,if_false];exact ih
  have h2:(((List.range b.edges.toNat).filter fun l:Nat=>decide ((l:Int) ∈ es)).map fun l:Nat=>(l:Int)).Perm es:=by
    refine (List.perm_ext_iff_of_nodup ?_ h.nd).2 fun a=>?_
    · exact List.Pairwise.map _ (fun a c hac=>by intro h;exact hac (by omega)) (List.Pairwise.filter _ List.nodup_range)
    · simp only[List.mem_map,List.mem_filter,List.mem_range,decide_eq_true_eq]
      refine⟨fun ⟨l,⟨_,h3⟩,h4⟩=>h4 ▸ h3,fun h3=>⟨a.toNat,⟨?_,?_⟩,?_⟩⟩
      · have:=h.rng a h3;omega
      · have:=h.rng a h3;rw[show ((a.toNat:Nat):Int)=a by omega];exact h3
      · have:=h.rng a h3;omega
  have h3:=h2.length_eq;rw[gK,h1];simp only[List.length_map] at h3 ⊢;omega
theorem Dn {b:aG} {es:List Int} (h:lT b es) {l:Int} (hl:0<=l/\l<b.edges) (hm:l ∉ es):(cD b es).set l.toNat (es.length:Int)=cD b (es++[l]):=by
  refine List.ext_getElem (by simp[cD]) fun i h1 h2=>?_
  simp only[cD,List.getElem_set,List.getElem_map,List.getElem_range,List.length_set,List.length_map,List.length_range] at h1 ⊢
  by_cases he:l.toNat=i
  · have hil:(i:Int)=l:=by omega
    rw[if_pos he,hil,if_pos (by simp),List.idxOf_append,if_neg hm];simp
  · rw[if_neg he]
    have hil:(i:Int) ≠ l:=by omega
    by_cases hi:(i:Int) ∈ es
    · rw[if_pos hi,if_pos (by simp[hi]),List.idxOf_append,if_pos hi]
    · rw[if_neg hi,if_neg (by simp[hi,hil])]
theorem lT.add {b:aG} {es:List Int} (h:lT b es) {l:Int} (hl:0<=l/\l<b.edges) (hm:l ∉ es):lT b (es++[l]):=by
  refine⟨h.ed,?_,fun x hx=>?_⟩
  · rw[List.nodup_append]
    exact⟨h.nd,by simp,fun a ha c hc=>by simp only[List.mem_singleton] at hc;subst hc;exact fun e=>hm (e ▸ ha)⟩
  · rcases List.mem_append.1 hx with hx | hx
    · exact h.rng x hx
    · simp only[List.mem_singleton] at hx;subst hx;exact hl
theorem ei {b:aG}:∀ (links es:List Int),lT b es->(∀ l ∈ links,0<=l)->eY b (cD b es) links=((bJ b es links).1,cD b (bJ b es links).2)/\lT b (bJ b es links).2
  | [],es,h,_=>⟨rfl,h⟩
  | l::t,es,h,hl=>by
    have hl0:=hl l (by simp);have ht:∀ x ∈ t,0<=x:=fun x hx=>hl x (by simp[hx])
    simp only[eY,bJ]
    by_cases h1:l >= b.edges
    · rw[if_pos h1,if_pos h1]
      obtain⟨e1,e2⟩:=ei t es h ht;exact⟨by rw[e1],e2⟩
    · have hr:0<=l/\l<b.edges:=⟨hl0,by omega⟩
      rw[if_neg h1,if_neg h1,iy hr]
      by_cases h2:l ∈ es
      · rw[if_pos h2,if_pos h2,if_neg (by omega)]
        obtain⟨e1,e2⟩:=ei t es h ht;exact⟨by rw[e1,iy hr,if_pos h2],e2⟩
      · rw[if_neg h2,if_neg h2,if_pos (by omega),jB h,Dn h hr h2]
        obtain⟨e1,e2⟩:=ei t (es++[l]) (h.add hr h2) ht;refine⟨?_,e2⟩;rw[e1,iy hr,if_pos (by simp),List.idxOf_append,if_neg h2];simp
def rG (b:aG) (order:List Int):Nat->List Int × Cz
  | 0=>([],jf b)
  | i+1=>((rG b order i).1++(bk b (rG b order i).2 (at' order (i:Int))).1,bF b (rG b order i).2 (at' order (i:Int)))
theorem DG {sig:dG} {b:aG} {order:List Int} (hv:bn sig b) (ho:∀ k ∈ order,0<=k/\k<b.nodes.length):∀ i≤order.length,lI b order i=⟨(rG b order i).1,cD b (rG b order i).2.es,(rG b order i).2.pl⟩/\lT b (rG b order i).2.es/\(rG b order i).2.num=i
  | 0,_=>by
    refine⟨?_,⟨hv.edges,by simp[rG,jf],by simp[rG,jf]⟩,rfl⟩;simp only[lI,rG,jf,iu,cD,Rz.mk.injEq,true_and];refine⟨?_,by simp⟩;simp only[List.not_mem_nil,if_false];rw[List.map_const',List.length_range]
  | i+1,h=>by
    obtain⟨e1,e2,e3⟩:=DG hv ho i (by omega);have hm:=ho (at' order (i:Int)) (by rw[bo (show i<order.length by omega)];exact List.getElem_mem _);have hl:=hv.lB hm;obtain⟨t1,t2⟩:=ei (at' b.nodes (at' order (i:Int))).links _ e2 fun l hl2=>(hl l hl2).1
    refine⟨?_,t2,by simp[rG,bF,e3]⟩;simp only[lI,rG,nJ,e1,ek,t1,bk,bF,e3]
theorem Be {sig:dG} {b:aG} {order:List Int} (hv:bn sig b) (ho:∀ k ∈ order,0<=k/\k<b.nodes.length) :
    lZ b order=((rG b order order.length).1++(iN b (rG b order order.length).2).1,cD b (iN b (rG b order order.length).2).2):=by
  obtain⟨e1,e2,e3⟩:=DG hv ho order.length (Nat.le_refl _);obtain⟨t1,t2⟩:=ei (b.inner.map fun w=>w.link) _ e2 fun l hl=>by
    obtain⟨w,hw,rfl⟩:=List.mem_map.1 hl;exact (hv.wires w hw).1
  simp only[lZ,e1,lP,t1,iN]
end Go.Ab.Vg
namespace Go.Ab.Vg
section
variable {P:Program} {N:Nat} {Ty:Types} {O:Env} {H:av} {n:Nat}
variable {d:Option Tmp} {ty:TypeId} {pos:String} {af:Array Edge} {gu:Option (Nat × Bool)}
theorem aK.D6 (hT:aV P Ty) {t:TypeId} {x hi mx:Operand} {j:TI} {L:Id} {gn sz:Nat} {els:List (List I)} (hk:kd Ty t = .slice j) (hx:O.ev x = .arr L gn 0 gn) (hL:H L=some ⟨sz,els⟩) (hg:els.length=gn)
    (E:O.ev hi=int 0) (hm:O.ev mx=int 0) :
    aK P N ⟨d,.slice t x none (some hi) (some mx),ty,pos,af,gu⟩ O H n fun v1 H1 U=>v1 = .list true []/\H1=H/\U=n:=
  aK.pure fun c a hH g r=>by
    obtain⟨i,e,hi',hd,hj⟩:=ct hk;have hde:=(hT t i hi').bH c.w;have hsz:=(hT e j hj).cO c.w;have rx:=r.ev x;rw[hx] at rx;have e1:=mR r E;have e2:=mR r hm;have hb:∀ len cap:Nat,len<=cap->(Instr.sliceBounds true len cap none (some (a.eval hi)) (some (a.eval mx))).run P c.w = .ok (0,0,0) c.w:=fun len cap eC=>by
      have b1:∀ cap code,(Instr.sliceBound (.int .i64 0) cap code).run P c.w = .ok 0 c.w:=fun cap code=>jg (by omega) (by omega)
      simp[Instr.sliceBounds,e1,e2,b1]
    generalize hvx:a.eval x=vx at rx;cases rx with
    | arr _ _ _ _ _ hone hn hgl hp=>
      obtain⟨p1,ad,cap,rfl,hab,hsp,hlc,eS,hcl⟩:=hp _ (by rw[hH];exact hL) hg;have h1:=hb gn cap hlc;refine⟨.slice (some ad) 0 0,?_,?_⟩
      · simp[execOp,Instr.sliceAt,Instr.slice,hde,hd,hvx,h1,hsz]
      · exact .list true [] ad 0 0 (fun _ _=>Go.undef) (fun h=>absurd rfl h) (Nat.le_refl _) (fun h=>absurd rfl h) (fun i e he=>by simp at he) (fun i e j x he=>by simp at he) (fun i e j x he=>by simp at he)
end
abbrev qp (_:Int):Bool:=false
def k6 (x:Int) (Z:Bool->Prop):Prop:=
  ∀ c2:Bool,c2=decide (x ≠ x)->Z c2
theorem AX (x:Int):k6 x (fun y=>y=qp x):=by
  unfold k6;simp
def oD (a b:Int):Int:=if a<b then -1 else if b<a then 1 else 0
def nC (x:Int) (y:Int) (Z:Int->Prop):Prop:=
  ∀ r2:Bool,r2=qp x->∀ r3:Bool,r3=qp y->((r2=true->((r3=true->Z 0)/\(r3=false->Z (-1))))/\(r2=false->((r3=true->Z 1)/\(r3=false->∀ c4:Bool,c4=decide (x<y)->((c4=true->Z (-1))/\(c4=false->∀ c6:Bool,c6=decide (y<x)->((c6=true->Z 1)/\(c6=false->Z 0))))))))
theorem CL (x y:Int):nC x y (fun z=>z=oD x y):=by
  unfold nC;simp only[forall_eq,decide_eq_true_eq,decide_eq_false_iff_not,qp];refine⟨fun h=>(by cases h),fun _=>⟨fun h=>(by cases h),fun _=>⟨fun h=>by rw[oD,if_pos h],fun h=>⟨fun h2=>by rw[oD,if_neg h,if_pos h2],fun h2=>by rw[oD,if_neg h,if_neg h2]⟩⟩⟩⟩
abbrev vY (a b:List Int):Prop:=a.length<=1048576/\b.length<=1048576
abbrev AL (a b:List Int):Int:=cmpL a b
def pB (s1:List Int) (s2:List Int) (Z:Int->Prop):Prop:=
  ∀ b6:Int,b6=(s1.length:Int)->aO (σ:=Int) (fun v6 K9=>∀ c10:Bool,c10=decide (v6<b6)->((c10=true->(0<=v6/\v6<s1.length)/\∀ x13:Int,x13=at' s1 v6->∀ len15:Int,len15=(s2.length:Int)->∀ c17:Bool,c17=decide (len15<=v6)->((c17=true->Z 1)/\(c17=false->(0<=v6/\v6<s2.length)/\∀ x20:Int,x20=at' s2 v6->∀ r23:Int,r23=oD x13 x20->∀ c24:Bool,c24=decide (r23 ≠ 0)->((c24=true->Z r23)/\(c24=false->(bP (v6+1))/\∀ v27:Int,v27=v6+1->K9 (v27))))))/\(c10=false->∀ len29:Int,len29=(s1.length:Int)->∀ len31:Int,len31=(s2.length:Int)->∀ c33:Bool,c33=decide (len29<len31)->((c33=true->Z (-1))/\(c33=false->Z 0))))) (0)
theorem EH (a b:List Int) (h:vY a b):pB a b (fun z=>z=AL a b):=by
  unfold pB;obtain⟨h1,h2⟩:=h;simp only[forall_eq,decide_eq_true_eq,decide_eq_false_iff_not];refine aO.up1 a.length (fun i=>i<=b.length/\cmpL (a.drop i) (b.drop i)=cmpL a b) ⟨by omega,rfl⟩ ?_;rintro i K hi ⟨hib,hI⟩ IH;refine⟨fun h3=>⟨⟨by omega,by omega⟩,fun h4=>?_,fun h4=>⟨⟨by omega,by omega⟩,fun h5=>?_,fun h5=>⟨by simp only[bP];omega,IH (by omega) ⟨by omega,?_⟩⟩⟩⟩,fun h3=>⟨fun h4=>?_,fun h4=>?_⟩⟩
  · rw[AL,<- hI,List.drop_of_length_le (l:=b) (by omega),List.drop_eq_getElem_cons (show i<a.length by omega)];rfl
  · rw[AL,<- hI,List.drop_eq_getElem_cons (show i<a.length by omega),List.drop_eq_getElem_cons (show i<b.length by omega)]
    rw[bo (show i<a.length by omega),bo (show i<b.length by omega)] at h5 ⊢;simp only[cmpL,oD] at h5 ⊢
    repeat' split
    all_goals first | rfl | omega | (exfalso;simp_all)
  · rw[<- hI,List.drop_eq_getElem_cons (show i<a.length by omega),List.drop_eq_getElem_cons (show i<b.length by omega)]
    rw[bo (show i<a.length by omega),bo (show i<b.length by omega)] at h5;have h6:=Classical.not_not.1 h5;simp only[oD] at h6;simp only[cmpL]
    split
    · rename_i h7;rw[if_pos h7] at h6;omega
    · rename_i h7
      rw[if_neg h7] at h6
      split
      · rename_i h8;rw[if_pos h8] at h6;omega
      · rfl
  · rw[AL,<- hI,List.drop_of_length_le (l:=a) (by omega),List.drop_eq_getElem_cons (show i<b.length by omega)];rfl
  · rw[AL,<- hI,List.drop_of_length_le (l:=a) (by omega),List.drop_of_length_le (l:=b) (by omega)];rfl
end Go.Ab.Vg
namespace Go.Ab.Vg
open Go.Proofs
set_option maxRecDepth 100000
attribute [local simp] au
theorem e175:a8 prog 175:=a8.of func175 (by kernel_rfl) rfl
theorem vT (x:Int) (Z:Bool->Prop) (h:k6 x Z):aF prog 175 [int x] (fun r=>∃ y:Bool,Z y/\r=bool y):=by
  unfold k6 at h;refine aF.of func175 rfl ntmps175 (by simp) fun Q hQ=>?_
  refine J.cut (fun O H n=>O 0=int x) (by simp[]) ?_;rintro O H U E;refine zE fun _ V=>?_
  simp[E];apply V;refine zE fun _ V=>?_
  obtain⟨c2,ec2,h⟩:=aJ h;have f3:=fH (k:=.i64) ec2;simp[E,f3,-ax];apply V;exact J.bG (v:=bool c2) func175 results175 (by simp[E]) (hQ _ _ _ _ (.of (.v _)) ⟨c2,h,rfl⟩)
theorem sn (x:Int)  : aF prog 175 [int x] (fun r=>r=bool (qp x)):=(vT x _ (AX x )).mono (by rintro _ ⟨_,rfl,rfl⟩;rfl)
theorem e161:a8 prog 161:=a8.of func161 (by kernel_rfl) rfl
theorem xL (x:Int) (y:Int) (Z:Int->Prop) (h:nC x y Z):aF prog 161 [int x,int y] (fun r=>∃ y:Int,Z y/\r=int y):=by
  unfold nC at h;refine aF.of func161 rfl ntmps161 (by simp) fun Q hQ=>?_
  refine J.cut (fun O H n=>(O 0=int x/\O 1=int y)) (by simp[]) ?_;rintro O H U E;refine zE fun _ V=>?_
  simp[E];apply V;refine zE fun _ V=>?_
  obtain⟨r2,er2,h⟩:=aJ h;simp[E];refine zA (sn x ) e175 (.cons (.v _ _ _) .nil) (by simp[E]) ?_;rintro _ rfl;rw[<- er2];simp[E];apply V;refine zE fun _ V=>?_
  obtain⟨r3,er3,h⟩:=aJ h;simp[E];refine zA (sn y ) e175 (.cons (.v _ _ _) .nil) (by simp[E]) ?_;rintro _ rfl;rw[<- er3];simp[E];apply V;refine zS fun _ V=>?_
  simp[E];apply V;refine J.ite (b:=r2) (by simp[E]) (fun dr2=>?_) (fun dr2=>?_)
  · replace h:=h.1 dr2
    refine zS fun _ V=>?_
    simp[E,dr2];apply V;refine J.ite (b:=r3) (by simp[E,dr2]) (fun dr3=>?_) (fun dr3=>?_)
    · replace h:=h.1 dr3
      refine zE fun _ V=>?_
      simp[E,dr2,dr3];apply V;exact J.bG (v:=int 0) func161 results161 (by simp[E,dr2,dr3]) (hQ _ _ _ _ (.of (.v _)) ⟨0,h,rfl⟩)
    replace h:=h.2 dr3;apply J.skip;refine zE fun _ V=>?_
    simp[E,dr2,dr3];apply V;exact J.bG (v:=int (-1)) func161 results161 (by simp[E,dr2,dr3]) (hQ _ _ _ _ (.of (.v _)) ⟨(-1),h,rfl⟩)
  replace h:=h.2 dr2;apply J.skip;refine zS fun _ V=>?_
  simp[E,dr2];apply V;refine J.ite (b:=r3) (by simp[E,dr2]) (fun dr3=>?_) (fun dr3=>?_)
  · replace h:=h.1 dr3
    refine zE fun _ V=>?_
    simp[E,dr2,dr3];apply V;exact J.bG (v:=int 1) func161 results161 (by simp[E,dr2,dr3]) (hQ _ _ _ _ (.of (.v _)) ⟨1,h,rfl⟩)
  replace h:=h.2 dr3;apply J.skip;refine zS fun _ V=>?_
  obtain⟨c4,ec4,h⟩:=aJ h;have f5:=bc (k:=.i64) ec4;simp[E,f5,dr2,dr3,-ax];apply V;refine J.ite (b:=c4) (by simp[E,dr2,dr3]) (fun dc4=>?_) (fun dc4=>?_)
  · replace h:=h.1 dc4
    refine zE fun _ V=>?_
    simp[E,dr2,dr3,dc4];apply V;exact J.bG (v:=int (-1)) func161 results161 (by simp[E,dr2,dr3,dc4]) (hQ _ _ _ _ (.of (.v _)) ⟨(-1),h,rfl⟩)
  replace h:=h.2 dc4;apply J.skip;refine zS fun _ V=>?_
  obtain⟨c6,ec6,h⟩:=aJ h;have f7:=ib_gtr (k:=.i64) ec6;simp[E,f7,dr2,dr3,dc4,-ax];apply V;refine J.cut (fun O H n=>O 19=bool c6) (by simp[E,f7,dr2,dr3,dc4,-ax]) ?_;clear E;rintro O H n8 E;refine J.ite (b:=c6) (by simp[E]) (fun dc6=>?_) (fun dc6=>?_)
  · replace h:=h.1 dc6
    refine zE fun _ V=>?_
    simp[E,dc6];apply V;exact J.bG (v:=int 1) func161 results161 (by simp[E,dc6]) (hQ _ _ _ _ (.of (.v _)) ⟨1,h,rfl⟩)
  replace h:=h.2 dc6;apply J.skip;refine zE fun _ V=>?_
  simp[E,dc6];apply V;exact J.bG (v:=int 0) func161 results161 (by simp[E,dc6]) (hQ _ _ _ _ (.of (.v _)) ⟨0,h,rfl⟩)
theorem CS (x:Int) (y:Int)  : aF prog 161 [int x,int y] (fun r=>r=int (oD x y)):=(xL x y _ (CL x y )).mono (by rintro _ ⟨_,rfl,rfl⟩;rfl)
theorem e146:a8 prog 146:=a8.of func146 (by kernel_rfl) rfl
theorem A3 (s1:List Int) (s2:List Int) (Z:Int->Prop) (h:pB s1 s2 Z):aF prog 146 [.list false (s1.map au),.list false (s2.map au)] (fun r=>∃ y:Int,Z y/\r=int y):=by
  unfold pB at h;refine aF.of func146 rfl ntmps146 (by simp) fun Q hQ=>?_
  refine J.cut (fun O H n=>(O 0 = .list false (s1.map au)/\O 1 = .list false (s2.map au))) (by simp) ?_;rintro O H U E;refine zE fun _ V=>?_
  simp[E];apply V;refine zS fun _ V=>?_
  obtain⟨b6,elen2,h⟩:=aJ h;have f3:=fun H=>aQ (H:=H) (fr:=false) (f:=au) aP elen2
  simp[E,f3,-aL];apply V;apply J.block;refine J.aO h (fun (sJ:Int) O H n=>match sJ with | v6=>(O 0 = .list false (s1.map au)/\O 1 = .list false (s2.map au)/\O 9 = .list false (s1.map au)/\O 10=int b6/\O 11=int v6)) (by simp[E]) ?_;clear E;rintro v6 O H n7 K h E IH8;refine zE fun _ V=>?_
  obtain⟨l,o,h⟩:=aJ h;have f11:=bc (k:=.i64) o;simp[E,f11,-ax];apply V;apply J.seq;refine J.ite (b:=l) (by simp[E]) (fun a=>?_) (fun a=>?_)
  · replace h:=h.1 a
    apply zK;apply J.block;refine zE fun _ V=>?_
    obtain⟨p,h⟩:=h;obtain⟨g,q,h⟩:=aJ h;have f14:=fun H=>aU (H:=H) (fr:=false) (f:=au) (k:=.i64) aP (fun _=>rfl) p q
    simp[E,f14,a,-ar];apply V;refine zS fun _ V=>?_
    obtain⟨ab,t,h⟩:=aJ h;have f16:=fun H=>aQ (H:=H) (fr:=false) (f:=au) aP t
    obtain⟨u,A,h⟩:=aJ h;have f18:=lR (k:=.i64) A;simp[E,f16,f18,a,-ax,-aL];apply V;refine J.ite (b:=u) (by simp[E,a]) (fun c=>?_) (fun c=>?_)
    · replace h:=h.1 c
      refine zE fun _ V=>?_
      simp[E,a,c];apply V;exact J.bG (v:=int 1) func146 results146 (by simp[E,a,c]) (hQ _ _ _ _ (.of (.v _)) ⟨1,h,rfl⟩)
    replace h:=h.2 c;apply J.skip;refine zE fun _ V=>?_
    obtain⟨B,h⟩:=h;obtain⟨i,C,h⟩:=aJ h;have f21:=fun H=>aU (H:=H) (fr:=false) (f:=au) (k:=.i64) aP (fun _=>rfl) B C
    simp[E,f21,a,c,-ar];apply V;refine J.cut (fun O H n=>(O 0 = .list false (s1.map au)/\O 1 = .list false (s2.map au)/\O 6=int g/\O 7=int i/\O 9 = .list false (s1.map au)/\O 10=int b6/\O 11=int v6)) (by simp[E,f21,a,c,-ar]) ?_;clear E;rintro O H n22 E;refine zE fun _ V=>?_
    obtain⟨j,D,h⟩:=aJ h;simp[E];refine zA (CS g i ) e161 (.cons (.v _ _ _) (.cons (.v _ _ _) .nil)) (by simp[E]) ?_;rintro _ rfl;rw[<- D];simp[E];apply V;refine zE fun _ V=>?_
    obtain⟨F,G,h⟩:=aJ h;have f25:=fH (k:=.i64) G;simp[E,f25,-ax];apply V;refine J.ite (b:=F) (by simp[E]) (fun d=>?_) (fun d=>?_)
    · replace h:=h.1 d
      refine zE fun _ V=>?_
      simp[E,d];apply V;exact J.bG (v:=int j) func146 results146 (by simp[E,d]) (hQ _ _ _ _ (.of (.v _)) ⟨j,h,rfl⟩)
    replace h:=h.2 d;apply J.skip;refine zI fun _ V=>?_
    obtain⟨L,h⟩:=h;obtain⟨N,R,h⟩:=aJ h;have f28:=aR L R;simp[E,f28,d,-ax];apply V;refine IH8 (N) _ _ _ h (by simp[E,d])
  replace h:=h.2 a;refine J.exit rfl ?_;refine zS fun _ V=>?_
  obtain⟨ac,T,h⟩:=aJ h;have f30:=fun H=>aQ (H:=H) (fr:=false) (f:=au) aP T
  obtain⟨ad,W,h⟩:=aJ h;have f32:=fun H=>aQ (H:=H) (fr:=false) (f:=au) aP W
  obtain⟨X,Y,h⟩:=aJ h;have f34:=bc (k:=.i64) Y;simp[E,f30,f32,f34,a,-ax,-aL];apply V;refine J.ite (b:=X) (by simp[E,a]) (fun e=>?_) (fun e=>?_)
  · replace h:=h.1 e
    refine zE fun _ V=>?_
    simp[E,a,e];apply V;exact J.bG (v:=int (-1)) func146 results146 (by simp[E,a,e]) (hQ _ _ _ _ (.of (.v _)) ⟨(-1),h,rfl⟩)
  replace h:=h.2 e;apply J.skip;refine zE fun _ V=>?_
  simp[E,a,e];apply V;exact J.bG (v:=int 0) func146 results146 (by simp[E,a,e]) (hQ _ _ _ _ (.of (.v _)) ⟨0,h,rfl⟩)
theorem zl (s1:List Int) (s2:List Int) (hp:vY s1 s2):aF prog 146 [.list false (s1.map au),.list false (s2.map au)] (fun r=>r=int (AL s1 s2)):=(A3 s1 s2 _ (EH s1 s2 hp)).mono (by rintro _ ⟨_,rfl,rfl⟩;rfl)
end Go.Ab.Vg
namespace Go.Ab.Vg
open Go.Proofs
abbrev dz:=gl × I
def bV (b:aG) (p:dz):List I:=cJ (some (.list true (p.1.order.map au))) b (.list true (p.1.s.es.map au)) (.list true (p.1.s.pl.map au)) p.2
def et (ps:List dz):List bW:=ps.map fun p=>oI p.2 p.1.code
def dP (out:List dz) (x:dz):List dz:=
  match out with
  | []=>[x]
  | w::t=>if cmpL x.1.code w.1.code<0 then [x] else if cmpL x.1.code w.1.code=0 then (w::t)++[x] else w::t
def dB (ps:List dz):List dz:=ps.foldl dP []
theorem DQ (out:List dz) (x:dz):dP out x ≠ []:=by
  cases out with
  | nil=>simp[dP]
  | cons w t=>
    simp only[dP]
    split
    · simp
    · split<;>simp
theorem Cj (out:List dz) (x:dz):(dP out x).map (·.1)=mi (out.map (·.1)) x.1:=by
  cases out with
  | nil=>rfl
  | cons w t=>
    simp only[dP,mi,List.map_cons]
    split
    · rfl
    · split
      · simp
      · rfl
theorem q7 (ps:List dz):(dB ps).map (·.1)=fA (ps.map (·.1)):=by
  have:∀ (ps out:List dz),(ps.foldl dP out).map (·.1)=(ps.map (·.1)).foldl mi (out.map (·.1)):=by
    intro ps
    induction ps with
    | nil=>intro out;rfl
    | cons p ps ih=>intro out;simp only[List.foldl_cons,List.map_cons];rw[ih,Cj]
  exact this ps []
theorem C3 {out:List dz} {x:dz}:∀ p ∈ dP out x,p ∈ out\/p=x:=by
  intro p hp;cases out with
  | nil=>simp only[dP,List.mem_singleton] at hp;exact .inr hp
  | cons w t=>
    simp only[dP] at hp
    split at hp
    · simp only[List.mem_singleton] at hp;exact .inr hp
    · split at hp
      · simp only[List.mem_append,List.mem_singleton] at hp;exact hp
      · exact .inl hp
theorem Sep.wD {H:av} {n:Nat} {K:List bW} {ids:List Id} (h:Sep H n K ids) {v:I} {l:List Int} (he:oI v l ∈ K):Ab.aE v=true/\az v=some [v]/\aN H n v (.list false (l.map au)):=by
  obtain⟨K1,K2,rfl⟩:=List.append_of_mem he;have h1:=Sep.front (x:=oI v l) h;exact⟨h1.aE,h1.cells,Sep.bl h1 (aX (by intro e he a ha;obtain⟨x,_,rfl⟩:=List.mem_map.1 he;simp only[au,List.mem_singleton] at ha;subst ha;rfl))⟩
theorem J.EU {P:Program} {f:FuncId} {N:Nat} {k:List Item} {Q:I->av->Nat->Prop} {O:Env} {H:av} {n:Nat} {id:Nat} {ops:List Oper} (h:∀ k':List Item,(∀ O H n,J P f N k O H n Q->J P f N k' O H n Q)->bq P f N k' Q ops.toArray ops O H n) :
    J P f N (.code (.region id ops.toArray false)::k) O H n Q:=J.region (h k fun _ _ _ h=>h)
theorem uV (b:aG) (p:dz):(bV b p).length=10:=by simp[bV,cJ,aG.cells]
section
variable {H:av} {n:Nat}
set_option maxRecDepth 100000 in
theorem sl {b:aG} {ps:List dz} {K:List bW} {ids:List Id} {L:Id} (hne:ps ≠ []) (hL:H L=some ⟨10,ps.map (bV b)⟩) (hc:∀ p ∈ ps,p.1.code.length<=1048576) (hlen:ps.length<=536870912) (M:Sep H n (et ps++K) (L::ids)) (hLi:L ∉ ids) :
    bt prog 144 [.arr L ps.length 0 ps.length] H n (fun r H1 U=>∃ ae,r = .arr ae (dB ps).length 0 (dB ps).length/\H1 ae=some ⟨10,(dB ps).map (bV b)⟩/\ae ∉ L::ids /\
      Sep H1 U (et ps++K) (ae::L::ids)/\(∀ i ∈ L::ids,H1 i=H i)/\n<=U):=by
  refine bt.of func144 rfl ntmps144 (by simp) fun Q hQ=>?_
  refine zE fun _ V=>?_
  simp;apply V;refine zE fun _ V=>?_
  simp;refine bq.op aw (by decide) (by decide) rfl (aK.D6 aw (L:=L) (gn:=ps.length) DL (by simp) hL (by simp) (by simp) (by simp)) ?_;rintro _ H n ⟨rfl,rfl,rfl⟩;simp;apply V;refine zS fun _ V=>?_
  simp[hL];apply V;refine J.block (J.bS ps.length (fun i O Hi ni=>O 9 = .arr L ps.length 0 ps.length/\O 10=int ps.length/\O 11=int i/\n<=ni/\(∀ j ∈ L::ids,Hi j=H j) /\
      (((ps.take i).foldl dP []=[]/\O 3 = .list true []/\Sep Hi ni (et ps++K) (L::ids)) \/
       ∃ ae,(ps.take i).foldl dP [] ≠ []/\O 3 = .arr ae ((ps.take i).foldl dP []).length 0 ((ps.take i).foldl dP []).length/\Hi ae=some ⟨10,((ps.take i).foldl dP []).map (bV b)⟩/\ae ∉ L::ids/\Sep Hi ni (et ps++K) (ae::L::ids)))
    ⟨by simp,by simp,by simp,Nat.le_refl _,fun _ _=>rfl,.inl ⟨by simp,by simp,M⟩⟩ ?_)
  clear V M;rintro i O Hi ni hi ⟨r9,c,a,hni,fri,hout⟩ IH;refine zE fun _ V=>?_
  simp[c,a];apply V;apply J.seq;refine J.ite rfl (fun hc1=>?_) (fun hc1=>?_)
  · have hc1:i<ps.length:=by simpa using hc1
    apply zK;apply J.block;have htk:(ps.take (i+1)).foldl dP []=dP ((ps.take i).foldl dP []) ps[i]:=by rw[<- List.take_append_getElem hc1,List.foldl_append];rfl
    have hpm:ps[i] ∈ ps:=List.getElem_mem hc1;have hLi2:Hi L=some ⟨10,ps.map (bV b)⟩:=(fri L (by simp)).trans hL;have hoc:Ab.aE ps[i].2=true/\az ps[i].2=some [ps[i].2]:=by
      rcases hout with ⟨_,_,M⟩ | ⟨ae,_,_,_,_,M⟩
      · have:=Sep.wD M (v:=ps[i].2) (l:=ps[i].1.code) (List.mem_append_left _ (List.mem_map.2 ⟨_,hpm,rfl⟩));exact⟨this.1,this.2.1⟩
      · have:=Sep.wD M (v:=ps[i].2) (l:=ps[i].1.code) (List.mem_append_left _ (List.mem_map.2 ⟨_,hpm,rfl⟩));exact⟨this.1,this.2.1⟩
    generalize hp:ps[i]=p at htk hpm hoc;have hrow:(ps.map (bV b))[i]?=some (bV b p):=by rw[List.getElem?_map,List.getElem?_eq_getElem hc1,hp];rfl
    refine zE fun _ V=>?_
    have hX1:∀ i ∈ L::ids,i.1<ni:=by
      rcases hout with ⟨_,_,M⟩ | ⟨ae,_,_,_,_,M⟩
      · exact M.1
      · exact fun i hi=>M.1 i (List.mem_cons_of_mem _ hi)
    simp[r9,a,hLi2,hc1,hrow,hp,bV,cJ,aG.cells,bE,encI,encS,bO,hoc,-az,-aE,bB,bf];apply V;refine zE fun _ V=>?_
    simp;apply V;generalize hout0:(ps.take i).foldl dP []=outs at hout htk;refine J.cut (fun O Hi nj=>O 5 = .ptr (ni,5) 1 0 0/\O 6=int (-1)/\O 9 = .arr L ps.length 0 ps.length/\O 10=int ps.length/\O 11=int i/\n<=nj/\Hi (ni,5)=some ⟨10,[bV b p]⟩/\(∀ j ∈ L::ids,Hi j=H j) /\
      ((outs=[]/\O 3 = .list true []/\Sep Hi nj (et ps++K) ((ni,5)::L::ids)) \/
       ∃ ae,outs ≠ []/\O 3 = .arr ae outs.length 0 outs.length/\Hi ae=some ⟨10,outs.map (bV b)⟩/\ae ∉ L::ids/\ae ≠ (ni,5)/\Sep Hi nj (et ps++K) ((ni,5)::ae::L::ids)))
      ⟨by simp,by simp,by simp[r9],by simp[c],by simp[a],by omega,by simp[bV,cJ,aG.cells,bE,encI,encS,bO],fun j hj=>?_,?_⟩ ?_
    · rw[av.aD _ _ (by rintro rfl;have:=hX1 _ hj;simp at this)];exact fri j hj
    · rcases hout with ⟨h0,r3,M⟩ | ⟨ae,h0,r3,mO,hO,M⟩
      · exact .inl ⟨h0,by simp[r3],Sep.var M⟩
      · have hOn:ae ≠ (ni,5):=by rintro rfl;have:=M.1 (ni,5) (by simp);simp at this
        exact .inr ⟨ae,h0,by simp[r3],by rw[av.aD _ _ hOn];exact mO,hO,hOn,Sep.var M⟩
    clear V r9 c a hLi2 fri hout hni;rintro O Hi nj ⟨r5,r6,r9,c,a,hni,mX,fri,hout⟩;cases outs with
    | nil=>
      rcases hout with ⟨_,r3,M⟩ | ⟨ae,h0,_⟩
      · refine zS fun _ V=>?_
        simp[r3];apply V;refine J.ite rfl (fun hc3=>?_) (fun _=>?_)
        · cases hc3
        apply J.skip;apply J.block;refine zE fun _ V=>?_
        simp[r6];apply V;refine J.ite rfl (fun _=>?_) (fun hc3=>?_)
        · have hput:dP [] p=[p]:=rfl
          refine J.EU fun _ V=>?_
          refine bq.lK (v:=.agg (bV b p)) aw (by decide) rfl (by simp[r5,mX,uV,List.take_of_length_le]) ?_;refine bq.op aw (by decide) (by decide) rfl (nc (v:=.arr (nj,31) 1 0 1) (H':=Hi.set (nj,31) ⟨10,[bV b p]⟩) (n':=nj+1) aw (by simp[jr,bV,cJ,aG.cells,bE,encI,encS,bO,List.range_succ])).1 ?_;rintro _ _ _ ⟨rfl,rfl,rfl⟩;simp;apply V;apply J.inBlock;refine zI fun _ V=>?_
          have f2:=aR (show bP ((i:Int)+1) by simp only[bP];omega) (show ((i+1:Nat):Int)=(i:Int)+1 by omega);simp[a,f2,-ax];apply V;have hOn:(nj,31) ∉ L::ids:=fun h=>by have:=M.1 (nj,31) (by simp only[List.mem_cons] at h ⊢;exact .inr h);simp at this
          refine IH hc1 _ _ _ ⟨by simp[r9],by simp[c],by simp,by omega,fun j hj=>by rw[av.aD _ _ (show j ≠ (nj,31) from fun h=>hOn (h ▸ hj))];exact fri j hj,.inr ⟨(nj,31),by rw[htk,hput];simp,by rw[htk,hput];simp,by rw[htk,hput];simp,hOn,?_⟩⟩;exact Sep.sub (Sep.var M) (by simp +contextual)
        · cases hc3
      · exact absurd rfl h0
    | cons w t=>
      rcases hout with ⟨h0,_⟩ | ⟨ae,_,r3,mO,hO,hOX,M⟩
      · cases h0
      · have hwm:w ∈ ps:=by
          have hs:∀ (l out:List dz),∀ q ∈ l.foldl dP out,q ∈ out\/q ∈ l:=by
            intro l
            induction l with
            | nil=>intro out q hq;exact .inl hq
            | cons x l ih=>
              intro out q hq;rcases ih _ q hq with h | h
              · rcases C3 q h with h | rfl
                · exact .inl h
                · exact .inr (by simp)
              · exact .inr (by simp[h])
          rcases hs (ps.take i) [] w (by rw[hout0];simp) with h | h
          · cases h
          · exact List.mem_of_mem_take h
        have hlt:(w::t).length<=i:=by
          have hs:∀ (l out:List dz),(l.foldl dP out).length<=out.length+l.length:=by
            intro l
            induction l with
            | nil=>intro out;simp
            | cons x l ih=>
              intro out;have h1:=ih (dP out x);have h2:(dP out x).length<=out.length+1:=by
                cases out with
                | nil=>simp[dP]
                | cons w t=>
                  simp only[dP]
                  split
                  · simp
                  · split<;>simp
              simp only[List.foldl_cons,List.length_cons];omega
          have:=hs (ps.take i) [];rw[hout0] at this;simp only[List.length_nil,List.length_take] at this;omega
        have hpe:=Sep.wD M (v:=p.2) (l:=p.1.code) (List.mem_append_left _ (List.mem_map.2 ⟨_,hpm,rfl⟩));have hwe:=Sep.wD M (v:=w.2) (l:=w.1.code) (List.mem_append_left _ (List.mem_map.2 ⟨_,hwm,rfl⟩));refine zS fun _ V=>?_
        simp[r3,mO];apply V;refine J.ite rfl (fun _=>?_) (fun hc3=>?_)
        · refine J.gx aw aH bY (by decide) (by kernel_rfl) fun _ V=>?_
          simp[r5,r3,mX,mO,bV,cJ,aG.cells];refine bA.cY aw aH (zl p.1.code w.1.code ⟨hc _ hpm,hc _ hwm⟩) e146 (.cons hpe.2.2 (.cons hwe.2.2 .nil)) (by decide) rfl (by simp) ?_;simp;apply V;apply J.block;refine zE fun _ V=>?_
          simp;apply V;refine J.ite rfl (fun hc4=>?_) (fun hc4=>?_)
          · have hc4:cmpL p.1.code w.1.code<0:=by simpa using hc4
            have hput:dP (w::t) p=[p]:=by simp only[dP];rw[if_pos hc4]
            refine J.EU fun _ V=>?_
            refine bq.lK (v:=.agg (bV b p)) aw (by decide) rfl (by simp[r5,mX,uV,List.take_of_length_le]) ?_;refine bq.op aw (by decide) (by decide) rfl (nc (v:=.arr (nj,31) 1 0 1) (H':=Hi.set (nj,31) ⟨10,[bV b p]⟩) (n':=nj+1) aw (by simp[jr,bV,cJ,aG.cells,bE,encI,encS,bO,List.range_succ])).1 ?_;rintro _ _ _ ⟨rfl,rfl,rfl⟩;simp;apply V;apply J.inBlock;refine zI fun _ V=>?_
            have f2:=aR (show bP ((i:Int)+1) by simp only[bP];omega) (show ((i+1:Nat):Int)=(i:Int)+1 by omega);simp[a,f2,-ax];apply V;have hOn:(nj,31) ∉ L::ids:=fun h=>by have:=M.1 (nj,31) (by simp only[List.mem_cons] at h ⊢;exact .inr (.inr h));simp at this
            refine IH hc1 _ _ _ ⟨by simp[r9],by simp[c],by simp,by omega,fun j hj=>by rw[av.aD _ _ (show j ≠ (nj,31) from fun h=>hOn (h ▸ hj))];exact fri j hj,.inr ⟨(nj,31),by rw[htk,hput];simp,by rw[htk,hput];simp,by rw[htk,hput];simp,hOn,?_⟩⟩;exact Sep.sub (Sep.var M) (by simp +contextual)
          · have hc4:¬ cmpL p.1.code w.1.code<0:=by simpa using hc4
            refine zE fun _ V=>?_
            simp;apply V;refine J.ite rfl (fun hc5=>?_) (fun hc5=>?_)
            · have hc5:cmpL p.1.code w.1.code=0:=by simpa using hc5
              have hput:dP (w::t) p=(w::t)++[p]:=by simp only[dP];rw[if_neg hc4,if_pos hc5]
              have hbig:t.length+1+1<=1073741824:=by simp only[List.length_cons] at hlt;omega
              refine zF fun _ V=>?_
              simp[r3,r5,mX,mO,bV,cJ,aG.cells,bE,encI,encS,bO,hpe.1,hpe.2.1,List.range_succ,hbig,-az,-aE,bB,bf];apply V;apply J.inBlock;refine zI fun _ V=>?_
              have f2:=aR (show bP ((i:Int)+1) by simp only[bP];omega) (show ((i+1:Nat):Int)=(i:Int)+1 by omega);simp[a,f2,-ax];apply V;refine IH hc1 _ _ _ ⟨by simp[r9],by simp[c],by simp,by omega,fun j hj=>by rw[av.aD _ _ (show j ≠ ae from fun h=>hO (h ▸ hj))];exact fri j hj,.inr ⟨ae,by rw[htk,hput];simp,by rw[htk,hput];simp,by rw[htk,hput];simp[bV,cJ,aG.cells,bE,encI,encS,bO],hO,?_⟩⟩;exact Sep.sub (Sep.bD M (by simp)) (by simp +contextual)
            · have hc5:¬ cmpL p.1.code w.1.code=0:=by simpa using hc5
              have hput:dP (w::t) p=w::t:=by simp only[dP];rw[if_neg hc4,if_neg hc5]
              apply J.skip;apply J.inBlock;refine zI fun _ V=>?_
              have f2:=aR (show bP ((i:Int)+1) by simp only[bP];omega) (show ((i+1:Nat):Int)=(i:Int)+1 by omega);simp[a,f2,-ax];apply V;refine IH hc1 _ _ _ ⟨by simp[r9],by simp[c],by simp,by omega,fri,.inr ⟨ae,by rw[htk,hput];simp,by rw[htk,hput];simp[r3],by rw[htk,hput];exact mO,hO,?_⟩⟩;exact Sep.sub M (by simp +contextual)
        · simp at hc3
  · have hc2:¬ i<ps.length:=by simpa using hc1
    have hc1:i=ps.length:=by omega
    subst hc1;refine J.exit rfl ?_;rw[List.take_length] at hout;refine zE fun _ V=>?_
    simp;apply V;rcases hout with ⟨h0,_,_⟩ | ⟨ae,h0,r3,mO,hO,M⟩
    · exfalso
      have:∀ l:List dz,l ≠ []->l.foldl dP [] ≠ []:=fun l hl=>by
        obtain⟨l',x,rfl⟩:∃ l' x,l=l'++[x]:=⟨l.dropLast,l.getLast hl,(List.dropLast_concat_getLast hl).symm⟩
        rw[List.foldl_append];exact DQ _ _
      exact this ps hne h0
    · exact J.bG (v:=.arr ae (dB ps).length 0 (dB ps).length) func144 results144 (by simp[r3,dB]) (hQ _ _ _ ⟨ae,rfl,mO,hO,M,fri,hni⟩)
end
end Go.Ab.Vg
namespace Go.Ab.Vg
theorem Sep.sublist {H:av} {n:Nat} {ids:List Id} {K K':List bW} (h:K'.Sublist K):∀ A:List bW,Sep H n (A++K) ids->Sep H n (A++K') ids:=by
  induction h with
  | slnil=>exact fun _ h=>h
  | cons a _ ih=>
    intro A hs;exact ih A (Sep.dr (Sep.front (x:=a) hs))
  | cons_cons a _ ih=>
    intro A hs;have:=ih (A++[a]) (by simpa using hs);simpa using this
theorem BV {l out:List dz} {x:dz} (h:out.Sublist l):(dP out x).Sublist (l++[x]):=by
  cases out with
  | nil=>simp[dP]
  | cons w t=>
    simp only[dP]
    split
    · simp
    · split
      · exact List.Sublist.append h (List.Sublist.refl _)
      · exact h.trans (List.sublist_append_left _ _)
theorem iL (ps:List dz):(dB ps).Sublist ps:=by
  have:∀ (l pre out:List dz),out.Sublist pre->(l.foldl dP out).Sublist (pre++l):=by
    intro l
    induction l with
    | nil=>intro pre out h;simpa using h
    | cons x l ih=>
      intro pre out h;have:=ih (pre++[x]) (dP out x) (BV h);simpa using this
  have h:=this ps [] [] (List.Sublist.refl _);rw[List.nil_append] at h;exact h
def bX (b:aG):Nat->List gl
  | 0=>[⟨[],jf b,[]⟩]
  | m+1=>fA ((bX b m).flatMap (fV b))
theorem nF (b:aG):∀ (m:Nat) (l:List gl),gJ b (m+1) l=fA ((gJ b m l).flatMap (fV b))
  | 0,l=>rfl
  | m+1,l=>by rw[gJ,nF b m];rfl
theorem zw (b:aG):∀ m,bX b m=gJ b m [⟨[],jf b,[]⟩]
  | 0=>rfl
  | m+1=>by rw[bX,zw b m,nF]
structure wE (b:aG) (m:Nat) (a:gl):Prop where
  s:tQ b m a.s
  ord:a.order.length=m
  code:a.code.length<=5 * m
  mem:∀ k:Int,0<=k/\k<b.nodes.length->(k ∈ a.order↔0<=at' a.s.pl k)
theorem lY {l:List gl} {x:gl} (h:x ∈ fA l):x ∈ l:=(du.1 h).1
theorem sZ {sig:dG} {b:aG} (hv:bn sig b) {m:Nat} (hm:m<=8) {a x:gl} (h:wE b m a) (hx:x ∈ fV b a):wE b (m+1) x:=by
  simp only[fV,List.mem_map] at hx;obtain⟨k,hk,rfl⟩:=hx;have hr:=(cF.1 hk).1;refine⟨h.s.step hv hr hm,by simp[h.ord],?_,fun j hj=>?_⟩
  rotate_left
  · have hkl:0<=k/\k<a.s.pl.length:=by rw[h.s.pl];exact hr
    simp only[bF,List.mem_append,List.mem_singleton,iK hj.1 hkl];have:=h.mem j hj;have hn:=h.s.num
    split
    · rename_i e;subst e;simp
    · rename_i e;rw[this];simp[e]
  have h3:=hv.gA hr;have h4:(bJ b a.s.es (at' b.nodes k).links).1.length=(at' b.nodes k).links.length:=dN _ _;have h5:=h.code;simp only[bk,List.length_append,List.length_cons];omega
theorem mz {sig:dG} {b:aG} (hv:bn sig b):∀ m≤b.nodes.length,∀ a ∈ bX b m,wE b m a
  | 0,_,a,ha=>by
    rw[List.mem_singleton.1 ha];refine⟨E1 b,rfl,by simp,fun k hk=>?_⟩;have e:at' (jf b).pl k = -1:=by
      obtain⟨h1,h2⟩:=uY (l:=(jf b).pl) (i:=k) (by simpa[jf] using hk);rw[h2];simp[jf]
    simp only[e,List.not_mem_nil,false_iff];omega
  | m+1,hm,a,ha=>by
    have hn:=hv.len;obtain⟨x,hx,h2⟩:=List.mem_flatMap.1 (lY ha);exact sZ hv (by omega) (mz hv m (by omega) x hx) h2
theorem Ek {b:aG} (hn:b.nodes.length<=8) (a:gl):(fV b a).length<=8:=by
  have h1:(dX b a.s.pl).length<=b.nodes.length:=by
    refine Nat.le_trans (List.length_filter_le _ _) ?_;simp
  simp only[fV,List.length_map];omega
theorem nG {b:aG} (hn:b.nodes.length<=8):∀ l:List gl,(l.flatMap (fV b)).length<=8 * l.length
  | []=>by simp
  | a::l=>by
    have h1:=nG hn l;have h2:=Ek hn a;simp only[List.flatMap_cons,List.length_append,List.length_cons];omega
theorem yS:∀ l:List gl,(fA l).length<=l.length:=by
  have:∀ (l out:List gl),(l.foldl mi out).length<=out.length+l.length:=by
    intro l
    induction l with
    | nil=>intro out;simp
    | cons x l ih=>
      intro out;have h1:=ih (mi out x);have h2:(mi out x).length<=out.length+1:=by
        cases out with
        | nil=>simp[mi]
        | cons w t=>
          simp only[mi]
          split
          · simp
          · split<;>simp
      simp only[List.foldl_cons,List.length_cons];omega
  intro l;have h:=this l [];rw[List.length_nil,Nat.zero_add] at h;exact h
theorem ks {b:aG} (hn:b.nodes.length<=8):∀ m,(bX b m).length<=8 ^ m
  | 0=>by simp[bX]
  | m+1=>by
    have h1:=ks hn m;have h2:=nG hn (bX b m);have h3:=yS ((bX b m).flatMap (fV b));rw[bX,Nat.pow_succ];omega
theorem mr {b:aG} (he:mG b) (hd:fu b):∀ m≤b.nodes.length,Lay b (b.nodes.length - m) (bX b m)/\bX b m ≠ []
  | 0,_=>⟨lay0,by simp[bX]⟩
  | m+1,hm=>by
    obtain⟨h1,h2⟩:=mr he hd m (by omega);obtain⟨q,hq⟩:∃ q,b.nodes.length - m=q+1:=⟨b.nodes.length - (m+1),by omega⟩
    rw[hq] at h1;have hq2:b.nodes.length - (m+1)=q:=by omega
    rw[hq2];refine⟨sr hd (zm he h1),lv ?_⟩;obtain⟨a,ha⟩:=List.exists_mem_of_ne_nil _ h2;obtain⟨k,hk⟩:=k9 hd (h1.fit a ha);intro h;have:(⟨a.order++[k],bF b a.s k,a.code++(bk b a.s k).1⟩:gl) ∈ (bX b m).flatMap (fV b):=List.mem_flatMap.2 ⟨a,ha,List.mem_map.2 ⟨k,hk,rfl⟩⟩;rw[h] at this;cases this
theorem DS {b:aG} (he:mG b) (hd:fu b) {m:Nat} (hm:m<b.nodes.length):(bX b m).flatMap (fV b) ≠ []:=fun h=>(mr he hd (m+1) hm).2 (by rw[bX,h];rfl)
end Go.Ab.Vg
namespace Go.Ab.Vg
def jk (b:aG) (p:Int):List Int:=idxs b.nodes (fun x=>decide (x.parent=p)) b.nodes.length
def gq (b:aG) (p:Int):List Int:=idxs b.sites (fun x=>decide (x=p)) b.sites.length
abbrev pQ (b:aG) (p:Int):=jk b p
abbrev fJ (b:aG) (_:Int):Prop:=b.nodes.length<=1048576
def lC (b:aG) (parent:Int) (Z:(List Int)->Prop):Prop:=
  aO (σ:=Int × (List Int)) (fun (i14,l15) K19=>∀ len20:Int,len20=(b.nodes.length:Int)->∀ c22:Bool,c22=decide (i14<len20)->((c22=true->(0<=i14/\i14<b.nodes.length)/\∀ x25:ay,x25=at' b.nodes i14->∀ c27:Bool,c27=decide (x25.parent=parent)->((c27=true->(l15.length+1<=1073741824)/\∀ l30:List Int,l30=l15++[i14]->(bP (i14+1))/\∀ v40:Int,v40=i14+1->K19 (v40,l30))/\(c27=false->(bP (i14+1))/\∀ v43:Int,v43=i14+1->K19 (v43,l15))))/\(c22=false->Z l15))) (0,([]:List Int))
theorem AQ (b:aG) (p:Int) (h:fJ b p):lC b p (fun y=>y=pQ b p):=by
  unfold lC;refine aO.qc b.nodes.length (fun k out=>out=idxs b.nodes (fun x=>decide (x.parent=p)) k) [] rfl ?_;rintro k out K hk rfl IH;have hl:=uJ b.nodes (fun x=>decide (x.parent=p)) k;simp only[fJ] at h;simp only[forall_eq,decide_eq_true_eq,decide_eq_false_iff_not,bP];refine⟨fun h1=>⟨by omega,fun h2=>⟨by omega,by omega,?_⟩,fun h2=>⟨by omega,?_⟩⟩,fun h1=>?_⟩
  · exact IH (by omega) _ (uP _ _ (by simpa using h2)).symm
  · exact IH (by omega) _ (zf _ _ (by simpa using h2)).symm
  · rw[show k=b.nodes.length by omega];rfl
abbrev mK (b:aG) (p:Int):=gq b p
abbrev fc (b:aG) (_:Int):Prop:=b.sites.length<=1048576
def jY (b:aG) (parent:Int) (Z:(List Int)->Prop):Prop:=
  aO (σ:=Int × (List Int)) (fun (i14,l15) K19=>∀ len20:Int,len20=(b.sites.length:Int)->∀ c22:Bool,c22=decide (i14<len20)->((c22=true->(0<=i14/\i14<b.sites.length)/\∀ x25:Int,x25=at' b.sites i14->∀ c27:Bool,c27=decide (x25=parent)->((c27=true->(l15.length+1<=1073741824)/\∀ l30:List Int,l30=l15++[i14]->(bP (i14+1))/\∀ v40:Int,v40=i14+1->K19 (v40,l30))/\(c27=false->(bP (i14+1))/\∀ v43:Int,v43=i14+1->K19 (v43,l15))))/\(c22=false->Z l15))) (0,([]:List Int))
theorem xD (b:aG) (p:Int) (h:fc b p):jY b p (fun y=>y=mK b p):=by
  unfold jY;refine aO.qc b.sites.length (fun k out=>out=idxs b.sites (fun x=>decide (x=p)) k) [] rfl ?_;rintro k out K hk rfl IH;have hl:=uJ b.sites (fun x=>decide (x=p)) k;simp only[fc] at h;simp only[forall_eq,decide_eq_true_eq,decide_eq_false_iff_not,bP];refine⟨fun h1=>⟨by omega,fun h2=>⟨by omega,by omega,?_⟩,fun h2=>⟨by omega,?_⟩⟩,fun h1=>?_⟩
  · exact IH (by omega) _ (uP _ _ (by simpa using h2)).symm
  · exact IH (by omega) _ (zf _ _ (by simpa using h2)).symm
  · rw[show k=b.sites.length by omega];rfl
end Go.Ab.Vg
namespace Go.Ab.Vg
abbrev pd (a b:List Int):Bool:=decide (cmpL a b<0)
abbrev ld (a b:List Int):Prop:=a.length<=1048576/\b.length<=1048576
def mn (a:List Int) (b:List Int) (Z:Bool->Prop):Prop:=
  aO (σ:=Int) (fun i4 K7=>nH (fun (J8:Bool->Prop)=>∀ len42:Int,len42=(a.length:Int)->∀ c44:Bool,c44=decide (i4<len42)->((c44=true->∀ len46:Int,len46=(b.length:Int)->∀ c48:Bool,c48=decide (i4<len46)->J8 (c48))/\(c44=false->J8 (false)))) (fun b11=>((b11=true->(0<=i4/\i4<a.length)/\∀ x15:Int,x15=at' a i4->(0<=i4/\i4<b.length)/\∀ x18:Int,x18=at' b i4->∀ c20:Bool,c20=decide (x15 ≠ x18)->((c20=true->(0<=i4/\i4<a.length)/\∀ x23:Int,x23=at' a i4->(0<=i4/\i4<b.length)/\∀ x27:Int,x27=at' b i4->∀ c30:Bool,c30=decide (x15<x18)->Z c30)/\(c20=false->(bP (i4+1))/\∀ v34:Int,v34=i4+1->K7 (v34))))/\(b11=false->∀ len36:Int,len36=(a.length:Int)->∀ len38:Int,len38=(b.length:Int)->∀ c40:Bool,c40=decide (len36<len38)->Z c40)))) (0)
theorem CG (a b:List Int) (h:ld a b):mn a b (fun y=>y=pd a b):=by
  unfold mn;obtain⟨h1,h2⟩:=h;refine aO.up1 (min a.length b.length) (fun k=>k<=a.length/\k<=b.length/\cmpL a b=cmpL (a.drop k) (b.drop k)) ⟨by omega,by omega,rfl⟩ ?_;rintro k K hk ⟨ha,hb,hI⟩ IH;simp only[forall_eq,decide_eq_true_eq,decide_eq_false_iff_not,bP,pd];refine⟨fun c=>c=decide (k<a.length/\k<b.length),⟨fun h3=>by simp[show k<a.length by omega],fun h3=>by simp[show ¬ k<a.length by omega]⟩,?_⟩;rintro _ rfl;simp only[decide_eq_true_eq,decide_eq_false_iff_not];refine⟨fun h3=>⟨by omega,by omega,fun h4=>⟨by omega,by omega,?_⟩,fun h4=>⟨by omega,IH (by omega) ⟨by omega,by omega,?_⟩⟩⟩,fun h3=>?_⟩
  · rw[hI,drop_at h3.1,drop_at h3.2,cmpL]
    by_cases h5:at' a (k:Int)<at' b (k:Int)
    · simp[h5]
    · rw[if_neg h5,if_pos (by omega)];simp[h5]
  · rw[hI,drop_at h3.1,drop_at h3.2,cmpL,if_neg (by omega),if_neg (by omega)]
  · rw[hI]
    rcases Nat.lt_or_ge k a.length with h5 | h5
    · rw[show k=b.length by omega,List.drop_length,drop_at (by omega:b.length<a.length)]
      simp[cmpL,show ¬ (a.length:Int)<b.length by omega]
    · rw[show k=a.length by omega,List.drop_length]
      rcases Nat.lt_or_ge a.length b.length with h6 | h6
      · rw[drop_at h6];simp[cmpL,h6]
      · rw[List.drop_eq_nil_of_le h6];simp[cmpL,show ¬ (a.length:Int)<b.length by omega]
abbrev oL (a b:List Int):Bool:=decide (a=b)
abbrev gZ (a b:List Int):Prop:=a.length<=1048576
def mE (a:List Int) (b:List Int) (Z:Bool->Prop):Prop:=
  ∀ b6:Int,b6=(a.length:Int)->∀ nk:Int,nk=(b.length:Int)->∀ c6:Bool,c6=decide (b6 ≠ nk)->((c6=true->Z false)/\(c6=false->aO (σ:=Int) (fun i10 K13=>∀ len14:Int,len14=(a.length:Int)->∀ c16:Bool,c16=decide (i10<len14)->((c16=true->(0<=i10/\i10<a.length)/\∀ x19:Int,x19=at' a i10->(0<=i10/\i10<b.length)/\∀ x22:Int,x22=at' b i10->∀ c24:Bool,c24=decide (x19 ≠ x22)->((c24=true->Z false)/\(c24=false->(bP (i10+1))/\∀ v27:Int,v27=i10+1->K13 (v27))))/\(c16=false->Z true))) (0)))
theorem C4 (a b:List Int) (h:gZ a b):mE a b (fun y=>y=oL a b):=by
  unfold mE;simp only[forall_eq,decide_eq_true_eq,decide_eq_false_iff_not,oL];have h1:a.length<=1048576:=h;refine⟨fun h3=>(decide_eq_false (fun e=>h3 (by rw[e]))).symm,fun h3=>?_⟩;refine aO.up1 a.length (fun k=>a.take k=b.take k) (by simp) ?_;rintro k K hk hI IH;simp only[bP];refine⟨fun h4=>⟨⟨by omega,by omega⟩,by omega,fun h5=>(decide_eq_false (fun e=>h5 (by rw[e]))).symm,fun h5=>⟨by omega,IH (by omega) ?_⟩⟩,fun h4=>?_⟩
  · rw[bo (show k<a.length by omega),bo (show k<b.length by omega)] at h5
    rw[<- List.take_append_getElem (show k<a.length by omega),<- List.take_append_getElem (show k<b.length by omega),hI,Classical.not_not.1 h5]
  · rw[show k=a.length by omega,List.take_length,List.take_of_length_le (by omega)] at hI
    exact (decide_eq_true hI).symm
abbrev uT (b:aG) (x y:Int):Bool:=e9 b x y
abbrev ot (b:aG) (x y:Int):Prop:=(∃ sig,bn sig b)/\(0<=x/\x<b.nodes.length)/\(0<=y/\y<b.nodes.length)
def nr (b:aG) (x:Int) (y:Int) (Z:Bool->Prop):Prop:=
  (0<=x/\x<b.nodes.length)/\∀ x5:ay,x5=at' b.nodes x->(0<=y/\y<b.nodes.length)/\∀ x8:ay,x8=at' b.nodes y->nH (fun (J13:Bool->Prop)=>∀ c49:Bool,c49=decide (x5.control ≠ x8.control)->((c49=true->J13 (true))/\(c49=false->∀ c51:Bool,c51=decide (x5.parent ≠ x8.parent)->((c51=true->J13 (true))/\(c51=false->(gZ x5.links x8.links)/\∀ r54:Bool,r54=oL x5.links x8.links->J13 ((!r54))))))) (fun b16=>((b16=true->Z false)/\(b16=false->nH (fun (J19:Bool->Prop)=>(fJ b x)/\∀ r26:List Int,r26=pQ b x->∀ len27:Int,len27=(r26.length:Int)->∀ c29:Bool,c29=decide (len27=0)->((c29=true->(fJ b y)/\∀ r32:List Int,r32=pQ b y->∀ len33:Int,len33=(r32.length:Int)->∀ c35:Bool,c35=decide (len33=0)->((c35=true->(fc b x)/\∀ r38:List Int,r38=mK b x->∀ len39:Int,len39=(r38.length:Int)->∀ c41:Bool,c41=decide (len39=0)->((c41=true->(fc b y)/\∀ r44:List Int,r44=mK b y->∀ len45:Int,len45=(r44.length:Int)->∀ c47:Bool,c47=decide (len45=0)->J19 (c47))/\(c41=false->J19 (false))))/\(c35=false->J19 (false))))/\(c29=false->J19 (false)))) (fun b22=>Z b22))))
theorem z7 (b:aG) (x:Int):(jk b x=[])↔∀ n ∈ b.nodes,n.parent ≠ x:=by
  constructor
  · intro h n hn e
    obtain⟨i,hi,rfl⟩:=List.getElem_of_mem hn;have:(i:Int) ∈ jk b x:=(mN _ _).2 ⟨by omega,by omega,by rw[bo hi];exact decide_eq_true e⟩;rw[h] at this;cases this
  · intro h
    rcases hq:jk b x with _ | ⟨y,t⟩
    · rfl
    · have hy:y ∈ jk b x:=by rw[hq];simp
      obtain⟨h1,h2,h3⟩:=(mN _ _).1 hy;exact absurd (of_decide_eq_true h3) (h _ (at_mem ⟨h1,h2⟩))
theorem w5 (b:aG) (x:Int):(gq b x=[])↔∀ p ∈ b.sites,p ≠ x:=by
  constructor
  · intro h n hn e
    obtain⟨i,hi,rfl⟩:=List.getElem_of_mem hn;have:(i:Int) ∈ gq b x:=(mN _ _).2 ⟨by omega,by omega,by rw[bo hi];exact decide_eq_true e⟩;rw[h] at this;cases this
  · intro h
    rcases hq:gq b x with _ | ⟨y,t⟩
    · rfl
    · have hy:y ∈ gq b x:=by rw[hq];simp
      obtain⟨h1,h2,h3⟩:=(mN _ _).1 hy;exact absurd (of_decide_eq_true h3) (h _ (at_mem ⟨h1,h2⟩))
theorem qh (b:aG) (x y:Int):e9 b x y=(decide ((at' b.nodes x).control=(at' b.nodes y).control) && decide ((at' b.nodes x).parent=(at' b.nodes y).parent) && decide ((at' b.nodes x).links=(at' b.nodes y).links) && (decide (jk b x=[]) && decide (jk b y=[]) && decide (gq b x=[]) && decide (gq b y=[]))):=by
  have e1:b.nodes.all (fun n=>decide (n.parent ≠ x) && decide (n.parent ≠ y))=(decide (jk b x=[]) && decide (jk b y=[])):=by
    rw[Bool.eq_iff_iff];simp only[List.all_eq_true,Bool.and_eq_true,decide_eq_true_eq,z7];exact⟨fun h=>⟨fun n hn=>(h n hn).1,fun n hn=>(h n hn).2⟩,fun h n hn=>⟨h.1 n hn,h.2 n hn⟩⟩
  have e2:b.sites.all (fun p=>decide (p ≠ x) && decide (p ≠ y))=(decide (gq b x=[]) && decide (gq b y=[])):=by
    rw[Bool.eq_iff_iff];simp only[List.all_eq_true,Bool.and_eq_true,decide_eq_true_eq,w5];exact⟨fun h=>⟨fun n hn=>(h n hn).1,fun n hn=>(h n hn).2⟩,fun h n hn=>⟨h.1 n hn,h.2 n hn⟩⟩
  rw[e9,e1,e2];simp only[Bool.and_assoc]
theorem CD (b:aG) (x y:Int) (h:ot b x y):nr b x y (fun z=>z=uT b x y):=by
  unfold nr;obtain⟨⟨sig,hv⟩,hx,hy⟩:=h;have h3:=hv.gA hx;have hn:=hv.len;have hs:=hv.slen;simp only[forall_eq,decide_eq_true_eq,decide_eq_false_iff_not,ne_eq,Decidable.not_not,uT,pQ,mK,fJ,fc,gZ];refine⟨hx,hy,fun c=>c = !(decide ((at' b.nodes x).control=(at' b.nodes y).control) && decide ((at' b.nodes x).parent=(at' b.nodes y).parent) && decide ((at' b.nodes x).links=(at' b.nodes y).links)),⟨fun h4=>by simp[h4],fun h4=>⟨fun h5=>by simp[h5],fun h5=>⟨by omega,by simp[h4,h5,oL]⟩⟩⟩,?_⟩;rintro _ rfl;refine⟨fun h4=>?_,fun h4=>?_⟩
  · rw[qh]
    simp only[Bool.not_eq_true'] at h4;rw[h4];rfl
  · simp only[Bool.not_eq_false'] at h4
    rw[qh,h4,Bool.true_and];have hl:∀ l:List Int,((l.length:Int)=0)=(l=[]):=fun l=>by rw[<- List.length_eq_zero_iff];simp
    simp only[hl];refine⟨fun c=>c=(decide (jk b x=[]) && decide (jk b y=[]) && decide (gq b x=[]) && decide (gq b y=[])),⟨by omega,fun h5=>⟨by omega,fun h6=>⟨by omega,fun h7=>⟨by omega,by simp[h5,h6,h7]⟩,fun h7=>by simp[h7]⟩,fun h6=>by simp[h6]⟩,fun h5=>by simp[h5]⟩,?_⟩;rintro _ rfl
    rfl
abbrev zt (b:aG) (places:List Int):List Int:=ec b places
abbrev nY (b:aG) (places:List Int):Prop:=(∃ sig,bn sig b)/\places.length=b.nodes.length
def nz (b:aG) (places:List Int) (Z:(List Int)->Prop):Prop:=
  aO (σ:=Int × (List Int)) (fun (i14,l15) K19=>∀ len20:Int,len20=(b.nodes.length:Int)->∀ c22:Bool,c22=decide (i14<len20)->((c22=true->nH (fun (J24:Bool->Prop)=>(0<=i14/\i14<places.length)/\∀ x82:Int,x82=at' places i14->∀ c84:Bool,c84=decide (x82<0)->((c84=true->(0<=i14/\i14<b.nodes.length)/\∀ x87:ay,x87=at' b.nodes i14->∀ c89:Bool,c89=decide (x87.parent<0)->((c89=true->J24 (true))/\(c89=false->(0<=i14/\i14<b.nodes.length)/\∀ x92:ay,x92=at' b.nodes i14->(0<=x87.parent/\x87.parent<places.length)/\∀ x96:Int,x96=at' places x87.parent->∀ c98:Bool,c98=decide (0<=x96)->J24 (c98))))/\(c84=false->J24 (false)))) (fun b27=>aO (σ:=Bool × Int) (fun (free35,k36) K40=>nH (fun (J41:Bool->Prop)=>∀ len77:Int,len77=(l15.length:Int)->∀ c79:Bool,c79=decide (k36<len77)->((c79=true->J41 (free35))/\(c79=false->J41 (false)))) (fun b44=>((b44=true->(0<=k36/\k36<l15.length)/\∀ x53:Int,x53=at' l15 k36->(ot b x53 i14)/\∀ r57:Bool,r57=uT b x53 i14->(bP (k36+1))/\∀ v59:Int,v59=k36+1->K40 ((!r57),v59))/\(b44=false->((free35=true->(l15.length+1<=1073741824)/\∀ l62:List Int,l62=l15++[i14]->(bP (i14+1))/\∀ v72:Int,v72=i14+1->K19 (v72,l62))/\(free35=false->(bP (i14+1))/\∀ v75:Int,v75=i14+1->K19 (v75,l15))))))) (b27,0)))/\(c22=false->Z l15))) (0,([]:List Int))
theorem od (tw:Int->Int->Bool) (i:Int):∀ (l out:List Int),thin tw out (l++[i])=if (thin tw out l).any (fun x=>tw x i) then thin tw out l else thin tw out l++[i]
  | [],out=>rfl
  | x::l,out=>by
    simp only[List.cons_append,thin];exact od tw i l _
theorem pR (tw:Int->Int->Bool):∀ (l out:List Int),(thin tw out l).length<=out.length+l.length
  | [],out=>by simp[thin]
  | x::l,out=>by
    have h:=pR tw l (if out.any (fun y=>tw y x) then out else out++[x]);simp only[thin,List.length_cons] at h ⊢
    split at h
    · rename_i h1;rw[if_pos h1];omega
    · rename_i h1;rw[if_neg h1];simp only[List.length_append,List.length_cons,List.length_nil] at h;omega
def fG (b:aG) (pl:List Int) (k:Nat):List Int:=((List.range k).map fun i:Nat=>(i:Int)).filter (dm b pl)
theorem wS (b:aG) (pl:List Int) (k:Nat):fG b pl (k+1)=if dm b pl k then fG b pl k++[(k:Int)] else fG b pl k:=by
  simp only[fG,List.range_succ,List.map_append,List.filter_append,List.map_cons,List.map_nil,List.filter_cons,List.filter_nil]
  split<;>simp_all
theorem qS (b:aG) (pl:List Int) (k:Nat):(fG b pl k).length<=k:=by
  have:=List.length_filter_le (dm b pl) ((List.range k).map fun i:Nat=>(i:Int));simpa[fG] using this
theorem yq {b:aG} {pl:List Int} {k:Nat} {x:Int} (h:x ∈ fG b pl k):0<=x/\x<k:=by
  simp only[fG,List.mem_filter,List.mem_map,List.mem_range] at h;obtain⟨⟨i,hi,rfl⟩,_⟩:=h;omega
theorem Ck (b:aG) (places:List Int) (h:nY b places):nz b places (fun z=>z=zt b places):=by
  unfold nz;obtain⟨⟨sig,hv⟩,hl⟩:=h;have hn:=hv.len;refine aO.qc b.nodes.length (fun k out=>out=thin (e9 b) [] (fG b places k)) [] rfl ?_;rintro k _ K hk rfl IH;have hlen:=pR (e9 b) (fG b places k) [];have hlen2:=qS b places k;have hin:∀ x ∈ thin (e9 b) [] (fG b places k),0<=x/\x<k:=fun x hx=>yq ((pN _ hx).resolve_left (by simp))
  simp only[List.length_nil] at hlen;simp only[forall_eq,decide_eq_true_eq,decide_eq_false_iff_not];refine⟨fun h1=>?_,fun h1=>by rw[show k=b.nodes.length by omega];rfl⟩;have hkn:(0:Int)<=k/\(k:Int)<b.nodes.length:=⟨by omega,by omega⟩
  have hp:=hv.lL hkn;refine⟨fun c=>c=dm b places k,⟨⟨by omega,by omega⟩,fun h2=>⟨by omega,fun h3=>by simp[dm,h2,h3],fun h3=>⟨by omega,⟨by omega,by omega⟩,by simp[dm,h2,h3]⟩⟩,fun h2=>by simp[dm,h2]⟩,?_⟩;rintro _ rfl;have hsucc:=wS b places k;generalize ho:thin (e9 b) [] (fG b places k)=out at hlen hin ⊢;refine aO.upR out.length (fun j f=>f=(dm b places k && !((out.take j).any fun x=>e9 b x k))) _ (by simp) ?_;rintro j _ K2 hj rfl IH2;refine⟨fun c=>c=(decide (j<out.length) && (dm b places k && !((out.take j).any fun x=>e9 b x k))),⟨fun h2=>by simp[show j<out.length by omega],fun h2=>by simp[show ¬ j<out.length by omega]⟩,?_⟩;rintro _ rfl;refine⟨fun h2=>?_,fun h2=>?_⟩
  · simp only[Bool.and_eq_true,decide_eq_true_eq,Bool.not_eq_true'] at h2
    obtain⟨h3,h4,h5⟩:=h2;dsimp only;have hm:=hin (at' out (j:Int)) (by rw[bo h3];exact List.getElem_mem h3);refine⟨by omega,⟨⟨sig,hv⟩,⟨hm.1,by omega⟩,hkn⟩,⟨by omega,by omega⟩,IH2 h3 _ ?_⟩;rw[<- List.take_append_getElem h3,List.any_append,h5,h4,bo h3];simp[uT]
  · have hnext:∀ r,(dm b places k && !((out.take j).any fun x=>e9 b x k))=r->(r=true->j=out.length)->thin (e9 b) [] (fG b places (k+1))=if r then out++[(k:Int)] else out:=fun r hr hj2=>by
      rw[hsucc];cases r with
      | true=>
        simp only[Bool.and_eq_true,Bool.not_eq_true'] at hr;have h6:=hr.2;rw[hj2 rfl,List.take_length] at h6;rw[if_pos hr.1,od,ho,h6];rfl
      | false=>
        by_cases h6:dm b places k=true
        · rw[if_pos h6,od,ho]
          simp only[h6,Bool.true_and,Bool.not_eq_false'] at hr;have:(out.any fun x=>e9 b x k)=true:=by
            obtain⟨x,hx,hx2⟩:=List.any_eq_true.1 hr;exact List.any_eq_true.2 ⟨x,List.mem_of_mem_take hx,hx2⟩
          rw[this];rfl
        · rw[if_neg h6,ho];rfl
    have hjl:(dm b places k && !((out.take j).any fun x=>e9 b x k))=true->j=out.length:=fun h6=>by
      rw[h6] at h2;simp only[Bool.and_true,decide_eq_false_iff_not] at h2;omega
    generalize hr:(dm b places k && !((out.take j).any fun x=>e9 b x k))=r at hjl ⊢;have:=hnext r hr hjl;dsimp only;refine⟨fun h6=>⟨by omega,⟨by omega,by omega⟩,IH (by omega) _ ?_⟩,fun h6=>⟨⟨by omega,by omega⟩,IH (by omega) _ ?_⟩⟩
    · rw[this,h6];rfl
    · rw[this,h6];rfl
structure eT (b:aG) (places edges:List Int) (many:Int) (s:Cz):Prop where
  bfit:Fit b (b.nodes.length - many.toNat) s
  bcz:tQ b many.toNat s
  bes:lT b s.es
  bpl:s.pl=places
  bed:cD b s.es=edges
  bnum:0<=many/\many<=b.nodes.length
noncomputable def j5 (b:aG) (places edges:List Int) (many:Int):List Int × List Int:=open Classical in if h:∃ s,eT b places edges many s then dH b (b.nodes.length - many.toNat) h.choose else ([],[])
abbrev hC (b:aG) (places edges:List Int) (many:Int):Prop:=(∃ sig,bn sig b)/\∃ s,eT b places edges many s
abbrev jv (b:aG) (_ _:List Int) (many:Int):Nat:=b.nodes.length - many.toNat
def ml (b:aG) (places:List Int) (edges:List Int) (many:Int) (Z:((List Int) × (List Int))->Prop):Prop:=
  ∀ nk:Int,nk=(b.nodes.length:Int)->∀ c6:Bool,c6=decide (many=nk)->((c6=true->(jq b places edges)/\∀ r9:(List Int) × (List Int),r9=lP b places edges->Z (r9.1,([]:List Int)))/\(c6=false->(nY b places)/\∀ r30:List Int,r30=zt b places->((0:Int)<=0/\(0:Int)<r30.length)/\∀ x47:Int,x47=at' r30 0->(eR b x47 places edges)/\∀ r51:(List Int) × (List Int),r51=ek b x47 places edges->aO (σ:=Int × (List Int)) (fun (i160,l161) K166=>∀ len167:Int,len167=(r30.length:Int)->∀ c169:Bool,c169=decide (i160<len167)->((c169=true->(0<=i160/\i160<r30.length)/\∀ x179:Int,x179=at' r30 i160->(eR b x179 places edges)/\∀ r183:(List Int) × (List Int),r183=ek b x179 places edges->(ld r183.1 l161)/\∀ r285:Bool,r285=pd r183.1 l161->((r285=true->(bP (i160+1))/\∀ v287:Int,v287=i160+1->K166 (v287,r183.1))/\(r285=false->(bP (i160+1))/\∀ v290:Int,v290=i160+1->K166 (v290,l161))))/\(c169=false->aO (σ:=Bool × Int × (List Int) × (List Int)) (fun (found315,i316,l317,l318) K325=>∀ len326:Int,len326=(r30.length:Int)->∀ c328:Bool,c328=decide (i316<len326)->((c328=true->(0<=i316/\i316<r30.length)/\∀ x340:Int,x340=at' r30 i316->(eR b x340 places edges)/\∀ r344:(List Int) × (List Int),r344=ek b x340 places edges->(gZ r344.1 l161)/\∀ r449:Bool,r449=oL r344.1 l161->((r449=true->(fT places)/\∀ r454:List Int,r454=uS places->(0<=i316/\i316<r30.length)/\∀ x474:Int,x474=at' r30 i316->(0<=x474/\x474<r454.length)/\∀ x482:Int,x482=at' r454 x474->∀ l485:List Int,l485=r454.set x474.toNat many->(bP (many+1))/\∀ v497:Int,v497=many+1->(hC b l485 r344.2 v497/\jv b l485 r344.2 v497<jv b places edges many)/\∀ r500:(List Int) × (List Int),r500=j5 b l485 r344.2 v497->nH (fun (J520:Bool->Prop)=>((found315=true->(ld r500.1 l318)/\∀ r568:Bool,r568=pd r500.1 l318->J520 (r568))/\(found315=false->J520 (true)))) (fun b523=>((b523=true->(0<=i316/\i316<r30.length)/\∀ x537:Int,x537=at' r30 i316->∀ l540:List Int,l540=[x537]->(l540.length+r500.2.length<=1073741824)/\∀ l549:List Int,l549=l540++r500.2->(bP (i316+1))/\∀ v562:Int,v562=i316+1->K325 (true,v562,l549,r500.1))/\(b523=false->(bP (i316+1))/\∀ v565:Int,v565=i316+1->K325 (found315,v565,l317,l318)))))/\(r449=false->(bP (i316+1))/\∀ v451:Int,v451=i316+1->K325 (found315,v451,l317,l318))))/\(c328=false->(l161.length+l318.length<=1073741824)/\∀ l570:List Int,l570=l161++l318->Z (l570,l317)))) (false,0,([]:List Int),([]:List Int))))) (1,r51.1)))
theorem BY {b:aG} {es es':List Int} (h:lT b es) (h':lT b es') (e:cD b es=cD b es'):es=es':=by
  have hl:es.length=es'.length:=by have h1:=jB h;have h2:=jB h';rw[e] at h1;omega
  refine List.ext_getElem hl fun i h1 h2=>?_
  have hm:es[i] ∈ es:=List.getElem_mem h1;have hr:=h.rng _ hm;have e1:=iy (es:=es) hr;rw[e,iy hr,if_pos hm,List.Nodup.idxOf_getElem h.nd] at e1
  by_cases h3:es[i] ∈ es'
  · rw[if_pos h3] at e1
    have h4:es'.idxOf es[i]=i:=by omega
    have h5:=List.getElem_idxOf (x:=es[i]) (xs:=es') (List.idxOf_lt_length_of_mem h3);simp only[h4] at h5;exact h5.symm
  · rw[if_neg h3] at e1;omega
theorem eT.uniq {b:aG} {pl ed:List Int} {many:Int} {s s':Cz} (h:eT b pl ed many s) (h':eT b pl ed many s'):s=s':=by
  have e1:=BY h.bes h'.bes (h.bed.trans h'.bed.symm);have e2:=h.bpl.trans h'.bpl.symm;have e3:=h.bcz.num.trans h'.bcz.num.symm;cases s;cases s';simp_all
theorem mT {b:aG} {pl ed:List Int} {many:Int} {s:Cz} (h:eT b pl ed many s):j5 b pl ed many=dH b (b.nodes.length - many.toNat) s:=by
  have hx:∃ s,eT b pl ed many s:=⟨s,h⟩
  rw[j5,dif_pos hx,hx.choose_spec.uniq h]
theorem bn.sm {sig:dG} {b:aG} (h:bn sig b):fu b:=fun x hx=>(h.lL hx).2
theorem bn.even {sig:dG} {b:aG} (h:bn sig b):mG b:=fun x y hx hy e=>by
  have h1:=h.tJ hx;have h2:=h.tJ hy;rw[e] at h1;omega
theorem eT.rz {sig:dG} {b:aG} {pl ed:List Int} {many:Int} {s:Cz} (hv:bn sig b) (h:eT b pl ed many s):ox b many.toNat ⟨[],ed,pl⟩:=by
  have h1:=jB h.bes;have h2:=hv.edges;have h3:=yW (cD b s.es);have h4:(cD b s.es).length=b.edges.toNat:=by simp[cD]
  refine⟨⟨hv.edges,by simp only[<- h.bed,h4];omega,fun v hx=>?_⟩,by simp only[<- h.bpl];exact h.bcz.pl,fun v hx=>?_,by simp⟩
  · simp only[<- h.bed,cD,List.mem_map,List.mem_range] at hx
    obtain⟨l,hl,rfl⟩:=hx
    split
    · rename_i h5
      have:=List.idxOf_lt_length_of_mem h5;omega
    · omega
  · simp only[<- h.bpl] at hx
    exact h.bcz.lo v hx
theorem eT.chunk {sig:dG} {b:aG} {pl ed:List Int} {many:Int} {s:Cz} (hv:bn sig b) (h:eT b pl ed many s) {k:Int} (hk:0<=k/\k<b.nodes.length):ek b k pl ed=((bk b s k).1,cD b (bk b s k).2)/\lT b (bk b s k).2:=by
  have hl:=hv.lB hk;obtain⟨t1,t2⟩:=ei (at' b.nodes k).links _ h.bes fun l hl2=>(hl l hl2).1
  rw[h.bed] at t1;refine⟨?_,t2⟩;simp only[ek,t1,bk,h.bpl]
theorem eT.step {sig:dG} {b:aG} {pl ed:List Int} {many:Int} {s:Cz} (hv:bn sig b) (h:eT b pl ed many s) (hm:many<b.nodes.length) {k:Int} (hk:k ∈ dX b s.pl) :
    eT b (pl.set k.toNat many) (ek b k pl ed).2 (many+1) (bF b s k):=by
  have hr:=(cF.1 hk).1;have hb:=h.bnum;have hn:=hv.len;obtain⟨e1,e2⟩:=h.chunk hv hr;have h1:=h.bfit;rw[show b.nodes.length - many.toNat=(b.nodes.length - (many+1).toNat)+1 by omega] at h1;have h2:=tQ.step hv h.bcz hr (by omega);refine⟨h1.step hk,?_,e2,?_,by rw[e1];rfl,by omega⟩
  · rw[show (many+1).toNat=many.toNat+1 by omega];exact h2
  · have:=h.bcz.num
    simp only[bF,h.bpl]
    congr 1;omega
theorem sQ {b:aG} (he:mG b) (h3:∀ k:Int,0<=k/\k<b.nodes.length->(at' b.nodes k).links.length<=3):∀ {m:Nat} {s:Cz} {p:P2},p ∈ fw b m s->p.2.length=m/\p.1.length<=5 * m+(b.sites.length+b.inner.length)
  | 0,s,p,h=>by
    rw[List.mem_singleton.1 h];simp[iN,dN]
  | m+1,s,p,h=>by
    obtain⟨k,hk,q,hq,rfl⟩:=eh.1 h;have hr:=(cF.1 hk).1;obtain⟨h4,h5⟩:=sQ he h3 hq;have h6:=h3 k hr;have h7:(bk b s k).1.length<=5:=by simp[bk,dN];omega
    simp only[List.length_cons,List.length_append];omega
theorem mF {b:aG} {pl:List Int} {k:Int} (h:k ∈ ec b pl):k ∈ dX b pl:=(pN _ h).resolve_left (by simp)
theorem C2 {b:aG} (hd:fu b) {m:Nat} {s:Cz} (h:Fit b (m+1) s):ec b s.pl ≠ []:=by
  have hhas:=qy (e9 b) (l:=dX b s.pl) (out:=[]) (by simp) (oz s.pl);obtain⟨k,hk⟩:=k9 hd h;rcases hhas k hk with h1 | ⟨x,h1,_⟩<;>intro e<;>rw[ec] at e<;>rw[e] at h1<;>cases h1
theorem Dl (b:aG) (places edges:List Int) (many:Int) (h:hC b places edges many):ml b places edges many (fun z=>z=j5 b places edges many):=by
  unfold ml;obtain⟨⟨sig,hv⟩,s,hs⟩:=h;have hn:=hv.len;have hsl:=hv.slen;have hil:=hv.inner;have hb:=hs.bnum;have hrz:=hs.rz hv;have hpl:places.length=b.nodes.length:=hrz.pl;simp only[forall_eq,decide_eq_true_eq,decide_eq_false_iff_not];refine⟨fun h1=>⟨hrz.tail hv,?_⟩,fun h1=>⟨⟨⟨sig,hv⟩,hpl⟩,?_⟩⟩
  · obtain⟨t1,t2⟩:=ei (b.inner.map fun w=>w.link) _ hs.bes fun l hl=>by
      obtain⟨w,hw,rfl⟩:=List.mem_map.1 hl;exact (hv.wires w hw).1
    rw[hs.bed] at t1;rw[mT hs,show b.nodes.length - many.toNat=0 by omega,dH];simp only[lP,t1,iN,hs.bpl]
  have hm:many<b.nodes.length:=by omega
  obtain⟨m,hmm⟩:∃ m,b.nodes.length - many.toNat=m+1:=⟨b.nodes.length - many.toNat - 1,by omega⟩
  have hfit:=hs.bfit;rw[hmm] at hfit;have hne:=C2 hv.sm hfit;have hin:∀ x ∈ ec b s.pl,0<=x/\x<b.nodes.length:=fun x hx=>(cF.1 (mF hx)).1
  have hfl:(ec b s.pl).length<=b.nodes.length:=by
    have h2:=pR (e9 b) (dX b s.pl) [];have h3:(dX b s.pl).length<=b.nodes.length:=qS b s.pl b.nodes.length;simp only[List.length_nil] at h2;have h4:(ec b s.pl).length<=0+(dX b s.pl).length:=h2;omega
  have hch:∀ k:Int,0<=k/\k<b.nodes.length->(bk b s k).1.length<=5:=fun k hk=>by
    have:=hv.gA hk;simp[bk,dN];omega
  rw[mT hs,hmm,show zt b places=ec b s.pl by rw[hs.bpl]];have hrec:∀ k ∈ ec b s.pl,(j5 b (places.set k.toNat many) (ek b k places edges).2 (many+1))=dH b m (bF b s k)/\(dH b m (bF b s k)).2.length<=8/\(dH b m (bF b s k)).1.length<=100:=fun k hk=>by
    have h2:=hs.step hv hm (mF hk);have h3:=(la hv.even hv.sm (fun p hp=>(hv.sites p hp).2) (hfit.step (mF hk))).1;have h4:=sQ hv.even (fun k hk=>hv.gA hk) h3;rw[mT h2,show b.nodes.length - (many+1).toNat=m by omega];exact⟨rfl,by omega,by omega⟩
  rw[dH];generalize hF:ec b s.pl=an at hne hin hfl hrec;obtain⟨k0,t,hF2⟩:∃ k0 t,an=k0::t:=by
    cases an with
    | nil=>exact absurd rfl hne
    | cons k0 t=>exact⟨k0,t,rfl⟩
  have hF0:at' an (0:Int)=k0:=by rw[hF2];rfl
  have hlF:0<an.length:=by rw[hF2];simp
  have hk0:=hin k0 (by rw[hF2];simp);rw[hF0];have hc0:=hs.chunk hv hk0;refine⟨⟨by omega,by omega⟩,hrz.chunk hv hk0,?_⟩;rw[hc0.1];refine aO.up t.length (fun s=>s.1 - 1) (fun k l=>((k:Int)+1,l)) (fun k l=>by simp) (fun k l=>l=(t.take k).foldl (fun a k=>if cmpL (bk b s k).1 a<0 then (bk b s k).1 else a) (bk b s k0).1/\l.length<=5) _ rfl ⟨rfl,hch k0 hk0⟩ ?_;rintro i l K hi ⟨hl,hl5⟩ IH;have htl:an.length=t.length+1:=by rw[hF2];simp
  simp only[forall_eq,decide_eq_true_eq,decide_eq_false_iff_not];refine⟨fun h2=>?_,fun h2=>?_⟩
  · have hit:i<t.length:=by omega
    have hFi:at' an ((i:Int)+1)=t[i]:=by
      rw[hF2,show (i:Int)+1=((i+1:Nat):Int) by omega,bo (by simp;omega)];simp
    have hti:=hin t[i] (by rw[hF2];simp);have hci:=hs.chunk hv hti;have h5:=hch _ hti;rw[hFi,hci.1];refine⟨⟨by omega,by omega⟩,hrz.chunk hv hti,⟨by simp only;omega,by omega⟩,fun h6=>⟨⟨by omega,by omega⟩,?_⟩,fun h6=>⟨⟨by omega,by omega⟩,?_⟩⟩
    · refine IH hit _ ⟨?_,h5⟩
      rw[<- List.take_append_getElem hit,List.foldl_append,<- hl];simp only[pd,decide_eq_true_eq] at h6;simp[h6]
    · refine IH hit _ ⟨?_,hl5⟩
      rw[<- List.take_append_getElem hit,List.foldl_append,<- hl];simp only[pd,decide_eq_false_iff_not] at h6;simp[h6]
  · have hit:i=t.length:=by omega
    rw[hit,List.take_length] at hl;have hlc:l=iT b s an:=by rw[hl,hF2];rfl
    rw[<- hlc];clear IH K;refine aO.up (τ:=Bool × List Int × List Int) an.length (fun s=>s.2.1) (fun j x=>(x.1,(j:Int),x.2.1,x.2.2)) (fun _ _=>rfl) (fun j x=>(x.2.2,x.2.1,x.1)=(an.take j).foldl (jx (fun k=>decide ((bk b s k).1=l)) fun k=>dH b m (bF b s k)) ([],[],false)/\x.2.1.length<=9/\x.2.2.length<=100) (false,[],[]) rfl ⟨rfl,by simp,by simp⟩ ?_;rintro j ⟨found,ord,code⟩ K hj ⟨hI,ho9,hc100⟩ IH;simp only at hI ho9 hc100;simp only[forall_eq,decide_eq_true_eq,decide_eq_false_iff_not];refine⟨fun h3=>?_,fun h3=>?_⟩
    · have hjF:j<an.length:=by omega
      have hFj:at' an (j:Int)=an[j]:=bo hjF;have hmem:an[j] ∈ an:=List.getElem_mem hjF;have hfj:=hin _ hmem;have hcj:=hs.chunk hv hfj;have h5:=hch _ hfj;obtain⟨r1,r2,r3⟩:=hrec _ hmem;have hst:=hs.step hv hm (mF (by rw[hF];exact hmem):an[j] ∈ dX b s.pl);have hfold:∀ x,x=jx (fun k=>decide ((bk b s k).1=l)) (fun k=>dH b m (bF b s k)) (code,ord,found) an[j]->x=(an.take (j+1)).foldl (jx (fun k=>decide ((bk b s k).1=l)) fun k=>dH b m (bF b s k)) ([],[],false):=fun x hx=>by
        rw[<- List.take_append_getElem hjF,List.foldl_append,<- hI,hx];rfl
      rw[hFj];rw[hcj.1] at r1 hst ⊢;refine⟨⟨by omega,by omega⟩,hrz.chunk hv hfj,by simp only[gZ];omega,fun h6=>?_,fun h6=>?_⟩
      · simp only[oL,decide_eq_true_eq] at h6
        have hat:∃ y,at' (uS places) an[j]=y:=⟨_,rfl⟩
        refine⟨by simp only[fT];omega,⟨by omega,by omega⟩,⟨hfj.1,by simp only[uS];omega⟩,⟨by omega,by omega⟩,⟨⟨⟨sig,hv⟩,_,hst⟩,by simp only[jv];omega⟩,?_⟩;simp only[uS];rw[r1];refine⟨fun c=>c=(found=false\/cmpL (dH b m (bF b s an[j])).1 code<0:Bool),⟨fun h7=>⟨⟨by omega,by omega⟩,?_⟩,fun h7=>by simp[h7]⟩,?_⟩
        · simp[h7,pd]
        · rintro _ rfl
          simp only[decide_eq_true_eq,decide_eq_false_iff_not];refine⟨fun h7=>⟨⟨by omega,by omega⟩,by simp;omega,⟨by omega,by omega⟩,IH hjF (_,_,_) ⟨hfold _ ?_,by simp;omega,r3⟩⟩,fun h7=>⟨⟨by omega,by omega⟩,IH hjF (_,_,_) ⟨hfold _ ?_,ho9,hc100⟩⟩⟩
          · simp only[jx,h6,decide_true,if_true]
            rw[if_pos h7];simp
          · simp only[jx,h6,decide_true,if_true]
            rw[if_neg h7]
      · simp only[oL,decide_eq_false_iff_not] at h6
        refine⟨⟨by omega,by omega⟩,IH hjF (_,_,_) ⟨hfold _ ?_,ho9,hc100⟩⟩;simp[jx,h6]
    · rw[show j=an.length by omega,List.take_length] at hI
      refine⟨by omega,?_⟩;rw[<- hI]
end Go.Ab.Vg
namespace Go.Ab
section
variable {P:Program} {N:Nat} {O:Env} {H:av} {n:Nat} {Ty:Types} {d:Option Tmp} {ty:TypeId} {pos:String} {af:Array Edge} {gu:Option (Nat × Bool)}
end
section
variable {P:Program} {f:FuncId} {N:Nat} {k:List Item} {Q:I->av->Nat->Prop} {Ty:Types} {l:List Oper} {O:Env} {H:av} {n:Nat} {d:Option Tmp} {ty:TypeId} {pos:String} {af:Array Edge}
theorem J.seqK (hT:aV P Ty) {id:Nat} {ops:List Oper} {y:Code} (hN:ops.all (fun o=>dL N o.dst)=true) (h:∀ k':List Item,(∀ O H n,J P f N (.code y::k) O H n Q->J P f N k' O H n Q)->bq P f N k' Q ops.toArray ops O H n) :
    J P f N (.code (.seq (.region id ops.toArray false) y)::k) O H n Q:=
  J.seq (J.region (h (.code y::k) fun _ _ _ h=>h))
end
end Go.Ab
