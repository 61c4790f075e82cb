/- Merged texts (9 of 16) of the proof that ends in Kyy: Kl Ko L2k Kq Sf Kp Ma Mb Mc Uj Uk. -/
import Derived.Test.YtkgmflihalaheaaGreatDoorAbQky8
import Derived.Laws.BytesString
open Go.Proofs.Tryz
set_option linter.unusedSectionVars false
set_option linter.unusedSimpArgs false
set_option linter.unusedVariables false
namespace Go.Ab.Vg
open Go.Proofs
abbrev dm:=fA × I
def bP (b:aG) (p:dm):List I:=cw (some (.list true (p.1.order.map au))) b (.list true (p.1.s.es.map au)) (.list true (p.1.s.pl.map au)) p.2
def dX (ps:List dm):List bS:=ps.map fun p=>oI p.2 p.1.code
def dB (out:List dm) (x:dm):List dm:=
  match out with
  | []=>[x]
  | w::t=>if cmpL x.1.code w.1.code<0 then [x] else if cmpL x.1.code w.1.code=0 then (w::t)++[x] else w::t
def dk (ps:List dm):List dm:=ps.foldl dB []
theorem DS (out:List dm) (x:dm):dB out x ≠ []:=by
  cases out with
  | nil=>simp[dB]
  | cons w t=>
    simp only[dB]
    split
    · simp
    · split<;>simp
theorem A0 (out:List dm) (x:dm):(dB out x).map (·.1)=k9 (out.map (·.1)) x.1:=by
  cases out with
  | nil=>rfl
  | cons w t=>
    simp only[dB,k9,List.map_cons]
    split
    · rfl
    · split
      · simp
      · rfl
theorem o6 (ps:List dm):(dk ps).map (·.1)=eW (ps.map (·.1)):=by
  have:∀ (ps out:List dm),(ps.foldl dB out).map (·.1)=(ps.map (·.1)).foldl k9 (out.map (·.1)):=by
    intro ps
    induction ps with
    | nil=>intro out;rfl
    | cons p ps ih=>intro out;simp only[List.foldl_cons,List.map_cons];rw[ih,A0]
  exact this ps []
theorem Cs {out:List dm} {x:dm}:∀ p ∈ dB out x,p ∈ out\/p=x:=by
  intro p hp;cases out with
  | nil=>simp only[dB,List.mem_singleton] at hp;exact .inr hp
  | cons w t=>
    simp only[dB] at hp
    split at hp
    · simp only[List.mem_singleton] at hp;exact .inr hp
    · split at hp
      · simp only[List.mem_append,List.mem_singleton] at hp;exact hp
      · exact .inl hp
theorem Sep.um {H:Heap} {n:Nat} {K:List bS} {ids:List Id} (h:Sep H n K ids) {v:I} {l:List Int} (he:oI v l ∈ K):Ab.aF v=true/\az v=some [v]/\aM H n v (.list false (l.map au)):=by
  obtain⟨K1,K2,rfl⟩:=List.append_of_mem he;have h1:=Sep.front (x:=oI v l) h;exact⟨h1.aF,h1.cells,Sep.cz h1 (bx (by intro e he a ha;obtain⟨x,_,rfl⟩:=List.mem_map.1 he;simp only[au,List.mem_singleton] at ha;subst ha;rfl))⟩
theorem J.Ej {P:Program} {f:FuncId} {N:Nat} {k:List Item} {Q:I->Heap->Nat->Prop} {O:Env} {H:Heap} {n:Nat} {id:Nat} {ops:List Oper} (h:∀ k':List Item,(∀ O H n,J P f N k O H n Q->J P f N k' O H n Q)->bw P f N k' Q ops.toArray ops O H n) :
    J P f N (.code (.region id ops.toArray false)::k) O H n Q:=J.region (h k fun _ _ _ h=>h)
theorem uI (b:aG) (p:dm):(bP b p).length=10:=by simp[bP,cw,aG.cells]
section
variable {H:Heap} {n:Nat}
set_option maxRecDepth 100000 in
theorem rS {b:aG} {ps:List dm} {K:List bS} {ids:List Id} {L:Id} (hne:ps ≠ []) (hL:H L=some ⟨10,ps.map (bP b)⟩) (hc:∀ p ∈ ps,p.1.code.length<=1048576) (hlen:ps.length<=536870912) (M:Sep H n (dX ps++K) (L::ids)) (hLi:L ∉ ids) :
    bz prog 118 [.arr L ps.length 0 ps.length] H n (fun r H1 U=>∃ ae,r = .arr ae (dk ps).length 0 (dk ps).length/\H1 ae=some ⟨10,(dk ps).map (bP b)⟩/\ae ∉ L::ids /\
      Sep H1 U (dX ps++K) (ae::L::ids)/\(∀ i ∈ L::ids,H1 i=H i)/\n<=U):=by
  refine bz.of func118 rfl ntmps118 (by simp) fun Q hQ=>?_
  refine zE fun _ V=>?_
  simp;apply V;refine zE fun _ V=>?_
  simp;refine bw.op av (by decide) (by decide) rfl (aI.Ea av (L:=L) (gn:=ps.length) CD (by simp) hL (by simp) (by simp) (by simp)) ?_;rintro _ H n ⟨rfl,rfl,rfl⟩;simp;apply V;refine zS fun _ V=>?_
  simp[hL];apply V;refine J.block (J.bM ps.length (fun i O Hi ni=>O 9 = .arr L ps.length 0 ps.length/\O 10=int ps.length/\O 11=int i/\n<=ni/\(∀ j ∈ L::ids,Hi j=H j) /\
      (((ps.take i).foldl dB []=[]/\O 3 = .list true []/\Sep Hi ni (dX ps++K) (L::ids)) \/
       ∃ ae,(ps.take i).foldl dB [] ≠ []/\O 3 = .arr ae ((ps.take i).foldl dB []).length 0 ((ps.take i).foldl dB []).length/\Hi ae=some ⟨10,((ps.take i).foldl dB []).map (bP b)⟩/\ae ∉ L::ids/\Sep Hi ni (dX ps++K) (ae::L::ids)))
    ⟨by simp,by simp,by simp,Nat.le_refl _,fun _ _=>rfl,.inl ⟨by simp,by simp,M⟩⟩ ?_)
  clear V M;rintro i O Hi ni hi ⟨r9,c,a,hni,fri,hout⟩ IH;refine zE fun _ V=>?_
  simp[c,a];apply V;apply J.seq;refine J.ite rfl (fun hc1=>?_) (fun hc1=>?_)
  · have hc1:i<ps.length:=by simpa using hc1
    apply zK;apply J.block;have htk:(ps.take (i+1)).foldl dB []=dB ((ps.take i).foldl dB []) ps[i]:=by rw[<- List.take_append_getElem hc1,List.foldl_append];rfl
    have hpm:ps[i] ∈ ps:=List.getElem_mem hc1;have hLi2:Hi L=some ⟨10,ps.map (bP b)⟩:=(fri L (by simp)).trans hL;have hoc:Ab.aF ps[i].2=true/\az ps[i].2=some [ps[i].2]:=by
      rcases hout with ⟨_,_,M⟩ | ⟨ae,_,_,_,_,M⟩
      · have:=Sep.um M (v:=ps[i].2) (l:=ps[i].1.code) (List.mem_append_left _ (List.mem_map.2 ⟨_,hpm,rfl⟩));exact⟨this.1,this.2.1⟩
      · have:=Sep.um M (v:=ps[i].2) (l:=ps[i].1.code) (List.mem_append_left _ (List.mem_map.2 ⟨_,hpm,rfl⟩));exact⟨this.1,this.2.1⟩
    generalize hp:ps[i]=p at htk hpm hoc;have hrow:(ps.map (bP b))[i]?=some (bP b p):=by rw[List.getElem?_map,List.getElem?_eq_getElem hc1,hp];rfl
    refine zE fun _ V=>?_
    have hX1:∀ i ∈ L::ids,i.1<ni:=by
      rcases hout with ⟨_,_,M⟩ | ⟨ae,_,_,_,_,M⟩
      · exact M.1
      · exact fun i hi=>M.1 i (List.mem_cons_of_mem _ hi)
    simp[r9,a,hLi2,hc1,hrow,hp,bP,cw,aG.cells,bB,encI,encS,bH,hoc,-az,-aF,bR,bl];apply V;refine zE fun _ V=>?_
    simp;apply V;generalize hout0:(ps.take i).foldl dB []=outs at hout htk;refine J.cut (fun O Hi nj=>O 5 = .ptr (ni,5) 1 0 0/\O 6=int (-1)/\O 9 = .arr L ps.length 0 ps.length/\O 10=int ps.length/\O 11=int i/\n<=nj/\Hi (ni,5)=some ⟨10,[bP b p]⟩/\(∀ j ∈ L::ids,Hi j=H j) /\
      ((outs=[]/\O 3 = .list true []/\Sep Hi nj (dX ps++K) ((ni,5)::L::ids)) \/
       ∃ ae,outs ≠ []/\O 3 = .arr ae outs.length 0 outs.length/\Hi ae=some ⟨10,outs.map (bP b)⟩/\ae ∉ L::ids/\ae ≠ (ni,5)/\Sep Hi nj (dX ps++K) ((ni,5)::ae::L::ids)))
      ⟨by simp,by simp,by simp[r9],by simp[c],by simp[a],by omega,by simp[bP,cw,aG.cells,bB,encI,encS,bH],fun j hj=>?_,?_⟩ ?_
    · rw[Heap.aD _ _ (by rintro rfl;have:=hX1 _ hj;simp at this)];exact fri j hj
    · rcases hout with ⟨h0,r3,M⟩ | ⟨ae,h0,r3,mO,hO,M⟩
      · exact .inl ⟨h0,by simp[r3],Sep.var M⟩
      · have hOn:ae ≠ (ni,5):=by rintro rfl;have:=M.1 (ni,5) (by simp);simp at this
        exact .inr ⟨ae,h0,by simp[r3],by rw[Heap.aD _ _ hOn];exact mO,hO,hOn,Sep.var M⟩
    clear V r9 c a hLi2 fri hout hni;rintro O Hi nj ⟨r5,r6,r9,c,a,hni,mX,fri,hout⟩;cases outs with
    | nil=>
      rcases hout with ⟨_,r3,M⟩ | ⟨ae,h0,_⟩
      · refine zS fun _ V=>?_
        simp[r3];apply V;refine J.ite rfl (fun hc3=>?_) (fun _=>?_)
        · cases hc3
        apply J.skip;apply J.block;refine zE fun _ V=>?_
        simp[r6];apply V;refine J.ite rfl (fun _=>?_) (fun hc3=>?_)
        · have hput:dB [] p=[p]:=rfl
          refine J.Ej fun _ V=>?_
          refine bw.jg (v:=.agg (bP b p)) av (by decide) rfl (by simp[r5,mX,uI,List.take_of_length_le]) ?_;refine bw.op av (by decide) (by decide) rfl (mj (v:=.arr (nj,31) 1 0 1) (H':=Hi.set (nj,31) ⟨10,[bP b p]⟩) (n':=nj+1) av (by simp[iu,bP,cw,aG.cells,bB,encI,encS,bH,List.range_succ])).1 ?_;rintro _ _ _ ⟨rfl,rfl,rfl⟩;simp;apply V;apply J.inBlock;refine zI fun _ V=>?_
          have f2:=aV (show bu ((i:Int)+1) by simp only[bu];omega) (show ((i+1:Nat):Int)=(i:Int)+1 by omega);simp[a,f2,-aw];apply V;have hOn:(nj,31) ∉ L::ids:=fun h=>by have:=M.1 (nj,31) (by simp only[List.mem_cons] at h ⊢;exact .inr h);simp at this
          refine IH hc1 _ _ _ ⟨by simp[r9],by simp[c],by simp,by omega,fun j hj=>by rw[Heap.aD _ _ (show j ≠ (nj,31) from fun h=>hOn (h ▸ hj))];exact fri j hj,.inr ⟨(nj,31),by rw[htk,hput];simp,by rw[htk,hput];simp,by rw[htk,hput];simp,hOn,?_⟩⟩;exact Sep.sub (Sep.var M) (by simp +contextual)
        · cases hc3
      · exact absurd rfl h0
    | cons w t=>
      rcases hout with ⟨h0,_⟩ | ⟨ae,_,r3,mO,hO,hOX,M⟩
      · cases h0
      · have hwm:w ∈ ps:=by
          have hs:∀ (l out:List dm),∀ q ∈ l.foldl dB out,q ∈ out\/q ∈ l:=by
            intro l
            induction l with
            | nil=>intro out q hq;exact .inl hq
            | cons x l ih=>
              intro out q hq;rcases ih _ q hq with h | h
              · rcases Cs q h with h | rfl
                · exact .inl h
                · exact .inr (by simp)
              · exact .inr (by simp[h])
          rcases hs (ps.take i) [] w (by rw[hout0];simp) with h | h
          · cases h
          · exact List.mem_of_mem_take h
        have hlt:(w::t).length<=i:=by
          have hs:∀ (l out:List dm),(l.foldl dB out).length<=out.length+l.length:=by
            intro l
            induction l with
            | nil=>intro out;simp
            | cons x l ih=>
              intro out;have h1:=ih (dB out x);have h2:(dB out x).length<=out.length+1:=by
                cases out with
                | nil=>simp[dB]
                | cons w t=>
                  simp only[dB]
                  split
                  · simp
                  · split<;>simp
              simp only[List.foldl_cons,List.length_cons];omega
          have:=hs (ps.take i) [];rw[hout0] at this;simp only[List.length_nil,List.length_take] at this;omega
        have hpe:=Sep.um M (v:=p.2) (l:=p.1.code) (List.mem_append_left _ (List.mem_map.2 ⟨_,hpm,rfl⟩));have hwe:=Sep.um M (v:=w.2) (l:=w.1.code) (List.mem_append_left _ (List.mem_map.2 ⟨_,hwm,rfl⟩));refine zS fun _ V=>?_
        simp[r3,mO];apply V;refine J.ite rfl (fun _=>?_) (fun hc3=>?_)
        · refine J.ee av aE bL (by decide) (by kernel_rfl) fun _ V=>?_
          simp[r5,r3,mX,mO,bP,cw,aG.cells];refine bh.b7 av aE (yc p.1.code w.1.code ⟨hc _ hpm,hc _ hwm⟩) e120 (.cons hpe.2.2 (.cons hwe.2.2 .nil)) (by decide) rfl (by simp) ?_;simp;apply V;apply J.block;refine zE fun _ V=>?_
          simp;apply V;refine J.ite rfl (fun hc4=>?_) (fun hc4=>?_)
          · have hc4:cmpL p.1.code w.1.code<0:=by simpa using hc4
            have hput:dB (w::t) p=[p]:=by simp only[dB];rw[if_pos hc4]
            refine J.Ej fun _ V=>?_
            refine bw.jg (v:=.agg (bP b p)) av (by decide) rfl (by simp[r5,mX,uI,List.take_of_length_le]) ?_;refine bw.op av (by decide) (by decide) rfl (mj (v:=.arr (nj,31) 1 0 1) (H':=Hi.set (nj,31) ⟨10,[bP b p]⟩) (n':=nj+1) av (by simp[iu,bP,cw,aG.cells,bB,encI,encS,bH,List.range_succ])).1 ?_;rintro _ _ _ ⟨rfl,rfl,rfl⟩;simp;apply V;apply J.inBlock;refine zI fun _ V=>?_
            have f2:=aV (show bu ((i:Int)+1) by simp only[bu];omega) (show ((i+1:Nat):Int)=(i:Int)+1 by omega);simp[a,f2,-aw];apply V;have hOn:(nj,31) ∉ L::ids:=fun h=>by have:=M.1 (nj,31) (by simp only[List.mem_cons] at h ⊢;exact .inr (.inr h));simp at this
            refine IH hc1 _ _ _ ⟨by simp[r9],by simp[c],by simp,by omega,fun j hj=>by rw[Heap.aD _ _ (show j ≠ (nj,31) from fun h=>hOn (h ▸ hj))];exact fri j hj,.inr ⟨(nj,31),by rw[htk,hput];simp,by rw[htk,hput];simp,by rw[htk,hput];simp,hOn,?_⟩⟩;exact Sep.sub (Sep.var M) (by simp +contextual)
          · have hc4:¬ cmpL p.1.code w.1.code<0:=by simpa using hc4
            refine zE fun _ V=>?_
            simp;apply V;refine J.ite rfl (fun hc5=>?_) (fun hc5=>?_)
            · have hc5:cmpL p.1.code w.1.code=0:=by simpa using hc5
              have hput:dB (w::t) p=(w::t)++[p]:=by simp only[dB];rw[if_neg hc4,if_pos hc5]
              have hbig:t.length+1+1<=1073741824:=by simp only[List.length_cons] at hlt;omega
              refine zF fun _ V=>?_
              simp[r3,r5,mX,mO,bP,cw,aG.cells,bB,encI,encS,bH,hpe.1,hpe.2.1,List.range_succ,hbig,-az,-aF,bR,bl];apply V;apply J.inBlock;refine zI fun _ V=>?_
              have f2:=aV (show bu ((i:Int)+1) by simp only[bu];omega) (show ((i+1:Nat):Int)=(i:Int)+1 by omega);simp[a,f2,-aw];apply V;refine IH hc1 _ _ _ ⟨by simp[r9],by simp[c],by simp,by omega,fun j hj=>by rw[Heap.aD _ _ (show j ≠ ae from fun h=>hO (h ▸ hj))];exact fri j hj,.inr ⟨ae,by rw[htk,hput];simp,by rw[htk,hput];simp,by rw[htk,hput];simp[bP,cw,aG.cells,bB,encI,encS,bH],hO,?_⟩⟩;exact Sep.sub (Sep.bG M (by simp)) (by simp +contextual)
            · have hc5:¬ cmpL p.1.code w.1.code=0:=by simpa using hc5
              have hput:dB (w::t) p=w::t:=by simp only[dB];rw[if_neg hc4,if_neg hc5]
              apply J.skip;apply J.inBlock;refine zI fun _ V=>?_
              have f2:=aV (show bu ((i:Int)+1) by simp only[bu];omega) (show ((i+1:Nat):Int)=(i:Int)+1 by omega);simp[a,f2,-aw];apply V;refine IH hc1 _ _ _ ⟨by simp[r9],by simp[c],by simp,by omega,fri,.inr ⟨ae,by rw[htk,hput];simp,by rw[htk,hput];simp[r3],by rw[htk,hput];exact mO,hO,?_⟩⟩;exact Sep.sub M (by simp +contextual)
        · simp at hc3
  · have hc2:¬ i<ps.length:=by simpa using hc1
    have hc1:i=ps.length:=by omega
    subst hc1;refine J.exit rfl ?_;rw[List.take_length] at hout;refine zE fun _ V=>?_
    simp;apply V;rcases hout with ⟨h0,_,_⟩ | ⟨ae,h0,r3,mO,hO,M⟩
    · exfalso
      have:∀ l:List dm,l ≠ []->l.foldl dB [] ≠ []:=fun l hl=>by
        obtain⟨l',x,rfl⟩:∃ l' x,l=l'++[x]:=⟨l.dropLast,l.getLast hl,(List.dropLast_concat_getLast hl).symm⟩
        rw[List.foldl_append];exact DS _ _
      exact this ps hne h0
    · exact J.bX (v:=.arr ae (dk ps).length 0 (dk ps).length) func118 results118 (by simp[r3,dk]) (hQ _ _ _ ⟨ae,rfl,mO,hO,M,fri,hni⟩)
end
end Go.Ab.Vg
namespace Go.Ab.Vg
theorem Sep.sublist {H:Heap} {n:Nat} {ids:List Id} {K K':List bS} (h:K'.Sublist K):∀ A:List bS,Sep H n (A++K) ids->Sep H n (A++K') ids:=by
  induction h with
  | slnil=>exact fun _ h=>h
  | cons a _ ih=>
    intro A hs;exact ih A (Sep.dr (Sep.front (x:=a) hs))
  | cons_cons a _ ih=>
    intro A hs;have:=ih (A++[a]) (by simpa using hs);simpa using this
theorem zl {l out:List dm} {x:dm} (h:out.Sublist l):(dB out x).Sublist (l++[x]):=by
  cases out with
  | nil=>simp[dB]
  | cons w t=>
    simp only[dB]
    split
    · simp
    · split
      · exact List.Sublist.append h (List.Sublist.refl _)
      · exact h.trans (List.sublist_append_left _ _)
theorem gH (ps:List dm):(dk ps).Sublist ps:=by
  have:∀ (l pre out:List dm),out.Sublist pre->(l.foldl dB out).Sublist (pre++l):=by
    intro l
    induction l with
    | nil=>intro pre out h;simpa using h
    | cons x l ih=>
      intro pre out h;have:=ih (pre++[x]) (dB out x) (zl h);simpa using this
  have h:=this ps [] [] (List.Sublist.refl _);rw[List.nil_append] at h;exact h
def bQ (b:aG):Nat->List fA
  | 0=>[⟨[],gY b,[]⟩]
  | m+1=>eW ((bQ b m).flatMap (fj b))
theorem mH (b:aG):∀ (m:Nat) (l:List fA),fJ b (m+1) l=eW ((fJ b m l).flatMap (fj b))
  | 0,l=>rfl
  | m+1,l=>by rw[fJ,mH b m];rfl
theorem xO (b:aG):∀ m,bQ b m=fJ b m [⟨[],gY b,[]⟩]
  | 0=>rfl
  | m+1=>by rw[bQ,xO b m,mH]
structure tO (b:aG) (m:Nat) (a:fA):Prop where
  s:sA b m a.s
  ord:a.order.length=m
  code:a.code.length<=5 * m
  mem:∀ k:Int,0<=k/\k<b.nodes.length->(k ∈ a.order↔0<=at' a.s.pl k)
theorem kR {l:List fA} {x:fA} (h:x ∈ eW l):x ∈ l:=(c5.1 h).1
theorem rH {sig:cV} {b:aG} (hv:bo sig b) {m:Nat} (hm:m<=8) {a x:fA} (h:tO b m a) (hx:x ∈ fj b a):tO b (m+1) x:=by
  simp only[fj,List.mem_map] at hx;obtain⟨k,hk,rfl⟩:=hx;have hr:=(ct.1 hk).1;refine⟨h.s.step hv hr hm,by simp[h.ord],?_,fun j hj=>?_⟩
  rotate_left
  · have hkl:0<=k/\k<a.s.pl.length:=by rw[h.s.pl];exact hr
    simp only[bA,List.mem_append,List.mem_singleton,gL hj.1 hkl];have:=h.mem j hj;have hn:=h.s.num
    split
    · rename_i e;subst e;simp
    · rename_i e;rw[this];simp[e]
  have h3:=hv.fB hr;have h4:(bF b a.s.es (at' b.nodes k).links).1.length=(at' b.nodes k).links.length:=dz _ _;have h5:=h.code;simp only[bj,List.length_append,List.length_cons];omega
theorem lG {sig:cV} {b:aG} (hv:bo sig b):∀ m≤b.nodes.length,∀ a ∈ bQ b m,tO b m a
  | 0,_,a,ha=>by
    rw[List.mem_singleton.1 ha];refine⟨Ex b,rfl,by simp,fun k hk=>?_⟩;have e:at' (gY b).pl k = -1:=by
      obtain⟨h1,h2⟩:=tF (l:=(gY b).pl) (i:=k) (by simpa[gY] using hk);rw[h2];simp[gY]
    simp only[e,List.not_mem_nil,false_iff];omega
  | m+1,hm,a,ha=>by
    have hn:=hv.len;obtain⟨x,hx,h2⟩:=List.mem_flatMap.1 (kR ha);exact rH hv (by omega) (lG hv m (by omega) x hx) h2
theorem Eb {b:aG} (hn:b.nodes.length<=8) (a:fA):(fj b a).length<=8:=by
  have h1:(dM b a.s.pl).length<=b.nodes.length:=by
    refine Nat.le_trans (List.length_filter_le _ _) ?_;simp
  simp only[fj,List.length_map];omega
theorem ml {b:aG} (hn:b.nodes.length<=8):∀ l:List fA,(l.flatMap (fj b)).length<=8 * l.length
  | []=>by simp
  | a::l=>by
    have h1:=ml hn l;have h2:=Eb hn a;simp only[List.flatMap_cons,List.length_append,List.length_cons];omega
theorem xl:∀ l:List fA,(eW l).length<=l.length:=by
  have:∀ (l out:List fA),(l.foldl k9 out).length<=out.length+l.length:=by
    intro l
    induction l with
    | nil=>intro out;simp
    | cons x l ih=>
      intro out;have h1:=ih (k9 out x);have h2:(k9 out x).length<=out.length+1:=by
        cases out with
        | nil=>simp[k9]
        | cons w t=>
          simp only[k9]
          split
          · simp
          · split<;>simp
      simp only[List.foldl_cons,List.length_cons];omega
  intro l;have h:=this l [];rw[List.length_nil,Nat.zero_add] at h;exact h
theorem jL {b:aG} (hn:b.nodes.length<=8):∀ m,(bQ b m).length<=8 ^ m
  | 0=>by simp[bQ]
  | m+1=>by
    have h1:=jL hn m;have h2:=ml hn (bQ b m);have h3:=xl ((bQ b m).flatMap (fj b));rw[bQ,Nat.pow_succ];omega
theorem lU {b:aG} (he:lC b) (hd:eH b):∀ m≤b.nodes.length,Lay b (b.nodes.length - m) (bQ b m)/\bQ b m ≠ []
  | 0,_=>⟨lay0,by simp[bQ]⟩
  | m+1,hm=>by
    obtain⟨h1,h2⟩:=lU he hd m (by omega);obtain⟨q,hq⟩:∃ q,b.nodes.length - m=q+1:=⟨b.nodes.length - (m+1),by omega⟩
    rw[hq] at h1;have hq2:b.nodes.length - (m+1)=q:=by omega
    rw[hq2];refine⟨ra hd (yh he h1),j9 ?_⟩;obtain⟨a,ha⟩:=List.exists_mem_of_ne_nil _ h2;obtain⟨k,hk⟩:=j8 hd (h1.fit a ha);intro h;have:(⟨a.order++[k],bA b a.s k,a.code++(bj b a.s k).1⟩:fA) ∈ (bQ b m).flatMap (fj b):=List.mem_flatMap.2 ⟨a,ha,List.mem_map.2 ⟨k,hk,rfl⟩⟩;rw[h] at this;cases this
theorem Dl {b:aG} (he:lC b) (hd:eH b) {m:Nat} (hm:m<b.nodes.length):(bQ b m).flatMap (fj b) ≠ []:=fun h=>(lU he hd (m+1) hm).2 (by rw[bQ,h];rfl)
end Go.Ab.Vg
namespace Go.Ab.Vg
def il (b:aG) (p:Int):List Int:=idxs b.nodes (fun x=>decide (x.parent=p)) b.nodes.length
def fE (b:aG) (p:Int):List Int:=idxs b.sites (fun x=>decide (x=p)) b.sites.length
abbrev ql (b:aG) (p:Int):=il b p
abbrev eR (b:aG) (_:Int):Prop:=b.nodes.length<=1048576
def kz (b:aG) (parent:Int) (Z:(List Int)->Prop):Prop:=
  aL (σ:=Int × (List Int)) (fun (i14,l15) K19=>∀ len20:Int,len20=(b.nodes.length:Int)->∀ c22:Bool,c22=decide (i14<len20)->((c22=true->(0<=i14/\i14<b.nodes.length)/\∀ x25:ay,x25=at' b.nodes i14->∀ c27:Bool,c27=decide (x25.parent=parent)->((c27=true->(l15.length+1<=1073741824)/\∀ l30:List Int,l30=l15++[i14]->(bu (i14+1))/\∀ v40:Int,v40=i14+1->K19 (v40,l30))/\(c27=false->(bu (i14+1))/\∀ v43:Int,v43=i14+1->K19 (v43,l15))))/\(c22=false->Z l15))) (0,([]:List Int))
theorem yB (b:aG) (p:Int) (h:eR b p):kz b p (fun y=>y=ql b p):=by
  unfold kz;refine aL.oz b.nodes.length (fun k out=>out=idxs b.nodes (fun x=>decide (x.parent=p)) k) [] rfl ?_;rintro k out K hk rfl IH;have hl:=tW b.nodes (fun x=>decide (x.parent=p)) k;simp only[eR] at h;simp only[forall_eq,decide_eq_true_eq,decide_eq_false_iff_not,bu];refine⟨fun h1=>⟨by omega,fun h2=>⟨by omega,by omega,?_⟩,fun h2=>⟨by omega,?_⟩⟩,fun h1=>?_⟩
  · exact IH (by omega) _ (tH _ _ (by simpa using h2)).symm
  · exact IH (by omega) _ (xI _ _ (by simpa using h2)).symm
  · rw[show k=b.nodes.length by omega];rfl
abbrev mD (b:aG) (p:Int):=fE b p
abbrev ez (b:aG) (_:Int):Prop:=b.sites.length<=1048576
def iS (b:aG) (parent:Int) (Z:(List Int)->Prop):Prop:=
  aL (σ:=Int × (List Int)) (fun (i14,l15) K19=>∀ len20:Int,len20=(b.sites.length:Int)->∀ c22:Bool,c22=decide (i14<len20)->((c22=true->(0<=i14/\i14<b.sites.length)/\∀ x25:Int,x25=at' b.sites i14->∀ c27:Bool,c27=decide (x25=parent)->((c27=true->(l15.length+1<=1073741824)/\∀ l30:List Int,l30=l15++[i14]->(bu (i14+1))/\∀ v40:Int,v40=i14+1->K19 (v40,l30))/\(c27=false->(bu (i14+1))/\∀ v43:Int,v43=i14+1->K19 (v43,l15))))/\(c22=false->Z l15))) (0,([]:List Int))
theorem wD (b:aG) (p:Int) (h:ez b p):iS b p (fun y=>y=mD b p):=by
  unfold iS;refine aL.oz b.sites.length (fun k out=>out=idxs b.sites (fun x=>decide (x=p)) k) [] rfl ?_;rintro k out K hk rfl IH;have hl:=tW b.sites (fun x=>decide (x=p)) k;simp only[ez] at h;simp only[forall_eq,decide_eq_true_eq,decide_eq_false_iff_not,bu];refine⟨fun h1=>⟨by omega,fun h2=>⟨by omega,by omega,?_⟩,fun h2=>⟨by omega,?_⟩⟩,fun h1=>?_⟩
  · exact IH (by omega) _ (tH _ _ (by simpa using h2)).symm
  · exact IH (by omega) _ (xI _ _ (by simpa using h2)).symm
  · rw[show k=b.sites.length by omega];rfl
end Go.Ab.Vg
namespace Go.Ab.Vg
abbrev nK (a b:List Int):Bool:=decide (cmpL a b<0)
abbrev kk (a b:List Int):Prop:=a.length<=1048576/\b.length<=1048576
def mE (a:List Int) (b:List Int) (Z:Bool->Prop):Prop:=
  aL (σ:=Int) (fun i4 K7=>pW (fun (J8:Bool->Prop)=>∀ len42:Int,len42=(a.length:Int)->∀ c44:Bool,c44=decide (i4<len42)->((c44=true->∀ len46:Int,len46=(b.length:Int)->∀ c48:Bool,c48=decide (i4<len46)->J8 (c48))/\(c44=false->J8 (false)))) (fun b11=>((b11=true->(0<=i4/\i4<a.length)/\∀ x15:Int,x15=at' a i4->(0<=i4/\i4<b.length)/\∀ x18:Int,x18=at' b i4->∀ c20:Bool,c20=decide (x15 ≠ x18)->((c20=true->(0<=i4/\i4<a.length)/\∀ x23:Int,x23=at' a i4->(0<=i4/\i4<b.length)/\∀ x27:Int,x27=at' b i4->∀ c30:Bool,c30=decide (x15<x18)->Z c30)/\(c20=false->(bu (i4+1))/\∀ v34:Int,v34=i4+1->K7 (v34))))/\(b11=false->∀ len36:Int,len36=(a.length:Int)->∀ len38:Int,len38=(b.length:Int)->∀ c40:Bool,c40=decide (len36<len38)->Z c40)))) (0)
theorem Ci (a b:List Int) (h:kk a b):mE a b (fun y=>y=nK a b):=by
  unfold mE;obtain⟨h1,h2⟩:=h;refine aL.up1 (min a.length b.length) (fun k=>k<=a.length/\k<=b.length/\cmpL a b=cmpL (a.drop k) (b.drop k)) ⟨by omega,by omega,rfl⟩ ?_;rintro k K hk ⟨ha,hb,hI⟩ IH;simp only[forall_eq,decide_eq_true_eq,decide_eq_false_iff_not,bu,nK];refine⟨fun c=>c=decide (k<a.length/\k<b.length),⟨fun h3=>by simp[show k<a.length by omega],fun h3=>by simp[show ¬ k<a.length by omega]⟩,?_⟩;rintro _ rfl;simp only[decide_eq_true_eq,decide_eq_false_iff_not];refine⟨fun h3=>⟨by omega,by omega,fun h4=>⟨by omega,by omega,?_⟩,fun h4=>⟨by omega,IH (by omega) ⟨by omega,by omega,?_⟩⟩⟩,fun h3=>?_⟩
  · rw[hI,drop_at h3.1,drop_at h3.2,cmpL]
    by_cases h5:at' a (k:Int)<at' b (k:Int)
    · simp[h5]
    · rw[if_neg h5,if_pos (by omega)];simp[h5]
  · rw[hI,drop_at h3.1,drop_at h3.2,cmpL,if_neg (by omega),if_neg (by omega)]
  · rw[hI]
    rcases Nat.lt_or_ge k a.length with h5 | h5
    · rw[show k=b.length by omega,List.drop_length,drop_at (by omega:b.length<a.length)]
      simp[cmpL,show ¬ (a.length:Int)<b.length by omega]
    · rw[show k=a.length by omega,List.drop_length]
      rcases Nat.lt_or_ge a.length b.length with h6 | h6
      · rw[drop_at h6];simp[cmpL,h6]
      · rw[List.drop_eq_nil_of_le h6];simp[cmpL,show ¬ (a.length:Int)<b.length by omega]
abbrev nI (a b:List Int):Bool:=decide (a=b)
abbrev fW (a b:List Int):Prop:=a.length<=1048576
def l8 (a:List Int) (b:List Int) (Z:Bool->Prop):Prop:=
  ∀ bI:Int,bI=(a.length:Int)->∀ ld:Int,ld=(b.length:Int)->∀ c6:Bool,c6=decide (bI ≠ ld)->((c6=true->Z false)/\(c6=false->aL (σ:=Int) (fun i10 K13=>∀ len14:Int,len14=(a.length:Int)->∀ c16:Bool,c16=decide (i10<len14)->((c16=true->(0<=i10/\i10<a.length)/\∀ x19:Int,x19=at' a i10->(0<=i10/\i10<b.length)/\∀ x22:Int,x22=at' b i10->∀ c24:Bool,c24=decide (x19 ≠ x22)->((c24=true->Z false)/\(c24=false->(bu (i10+1))/\∀ v27:Int,v27=i10+1->K13 (v27))))/\(c16=false->Z true))) (0)))
theorem Bf (a b:List Int) (h:fW a b):l8 a b (fun y=>y=nI a b):=by
  unfold l8;simp only[forall_eq,decide_eq_true_eq,decide_eq_false_iff_not,nI];have h1:a.length<=1048576:=h;refine⟨fun h3=>(decide_eq_false (fun e=>h3 (by rw[e]))).symm,fun h3=>?_⟩;refine aL.up1 a.length (fun k=>a.take k=b.take k) (by simp) ?_;rintro k K hk hI IH;simp only[bu];refine⟨fun h4=>⟨⟨by omega,by omega⟩,by omega,fun h5=>(decide_eq_false (fun e=>h5 (by rw[e]))).symm,fun h5=>⟨by omega,IH (by omega) ?_⟩⟩,fun h4=>?_⟩
  · rw[bm (show k<a.length by omega),bm (show k<b.length by omega)] at h5
    rw[<- List.take_append_getElem (show k<a.length by omega),<- List.take_append_getElem (show k<b.length by omega),hI,Classical.not_not.1 h5]
  · rw[show k=a.length by omega,List.take_length,List.take_of_length_le (by omega)] at hI
    exact (decide_eq_true hI).symm
abbrev uy (b:aG) (x y:Int):Bool:=eC b x y
abbrev mQ (b:aG) (x y:Int):Prop:=(∃ sig,bo sig b)/\(0<=x/\x<b.nodes.length)/\(0<=y/\y<b.nodes.length)
def lF (b:aG) (x:Int) (y:Int) (Z:Bool->Prop):Prop:=
  (0<=x/\x<b.nodes.length)/\∀ x5:ay,x5=at' b.nodes x->(0<=y/\y<b.nodes.length)/\∀ x8:ay,x8=at' b.nodes y->pW (fun (J13:Bool->Prop)=>∀ c49:Bool,c49=decide (x5.control ≠ x8.control)->((c49=true->J13 (true))/\(c49=false->∀ c51:Bool,c51=decide (x5.parent ≠ x8.parent)->((c51=true->J13 (true))/\(c51=false->(fW x5.links x8.links)/\∀ r54:Bool,r54=nI x5.links x8.links->J13 ((!r54))))))) (fun b16=>((b16=true->Z false)/\(b16=false->pW (fun (J19:Bool->Prop)=>(eR b x)/\∀ r26:List Int,r26=ql b x->∀ len27:Int,len27=(r26.length:Int)->∀ c29:Bool,c29=decide (len27=0)->((c29=true->(eR b y)/\∀ r32:List Int,r32=ql b y->∀ len33:Int,len33=(r32.length:Int)->∀ c35:Bool,c35=decide (len33=0)->((c35=true->(ez b x)/\∀ r38:List Int,r38=mD b x->∀ len39:Int,len39=(r38.length:Int)->∀ c41:Bool,c41=decide (len39=0)->((c41=true->(ez b y)/\∀ r44:List Int,r44=mD b y->∀ len45:Int,len45=(r44.length:Int)->∀ c47:Bool,c47=decide (len45=0)->J19 (c47))/\(c41=false->J19 (false))))/\(c35=false->J19 (false))))/\(c29=false->J19 (false)))) (fun b22=>Z b22))))
theorem yU (b:aG) (x:Int):(il b x=[])↔∀ n ∈ b.nodes,n.parent ≠ x:=by
  constructor
  · intro h n hn e
    obtain⟨i,hi,rfl⟩:=List.getElem_of_mem hn;have:(i:Int) ∈ il b x:=(lB _ _).2 ⟨by omega,by omega,by rw[bm hi];exact decide_eq_true e⟩;rw[h] at this;cases this
  · intro h
    rcases hq:il b x with _ | ⟨y,t⟩
    · rfl
    · have hy:y ∈ il b x:=by rw[hq];simp
      obtain⟨h1,h2,h3⟩:=(lB _ _).1 hy;exact absurd (of_decide_eq_true h3) (h _ (at_mem ⟨h1,h2⟩))
theorem xx (b:aG) (x:Int):(fE b x=[])↔∀ p ∈ b.sites,p ≠ x:=by
  constructor
  · intro h n hn e
    obtain⟨i,hi,rfl⟩:=List.getElem_of_mem hn;have:(i:Int) ∈ fE b x:=(lB _ _).2 ⟨by omega,by omega,by rw[bm hi];exact decide_eq_true e⟩;rw[h] at this;cases this
  · intro h
    rcases hq:fE b x with _ | ⟨y,t⟩
    · rfl
    · have hy:y ∈ fE b x:=by rw[hq];simp
      obtain⟨h1,h2,h3⟩:=(lB _ _).1 hy;exact absurd (of_decide_eq_true h3) (h _ (at_mem ⟨h1,h2⟩))
theorem pO (b:aG) (x y:Int):eC b x y=(decide ((at' b.nodes x).control=(at' b.nodes y).control) && decide ((at' b.nodes x).parent=(at' b.nodes y).parent) && decide ((at' b.nodes x).links=(at' b.nodes y).links) && (decide (il b x=[]) && decide (il b y=[]) && decide (fE b x=[]) && decide (fE b y=[]))):=by
  have e1:b.nodes.all (fun n=>decide (n.parent ≠ x) && decide (n.parent ≠ y))=(decide (il b x=[]) && decide (il b y=[])):=by
    rw[Bool.eq_iff_iff];simp only[List.all_eq_true,Bool.and_eq_true,decide_eq_true_eq,yU];exact⟨fun h=>⟨fun n hn=>(h n hn).1,fun n hn=>(h n hn).2⟩,fun h n hn=>⟨h.1 n hn,h.2 n hn⟩⟩
  have e2:b.sites.all (fun p=>decide (p ≠ x) && decide (p ≠ y))=(decide (fE b x=[]) && decide (fE b y=[])):=by
    rw[Bool.eq_iff_iff];simp only[List.all_eq_true,Bool.and_eq_true,decide_eq_true_eq,xx];exact⟨fun h=>⟨fun n hn=>(h n hn).1,fun n hn=>(h n hn).2⟩,fun h n hn=>⟨h.1 n hn,h.2 n hn⟩⟩
  rw[eC,e1,e2];simp only[Bool.and_assoc]
theorem CW (b:aG) (x y:Int) (h:mQ b x y):lF b x y (fun z=>z=uy b x y):=by
  unfold lF;obtain⟨⟨sig,hv⟩,hx,hy⟩:=h;have h3:=hv.fB hx;have hn:=hv.len;have hs:=hv.slen;simp only[forall_eq,decide_eq_true_eq,decide_eq_false_iff_not,ne_eq,Decidable.not_not,uy,ql,mD,eR,ez,fW];refine⟨hx,hy,fun c=>c = !(decide ((at' b.nodes x).control=(at' b.nodes y).control) && decide ((at' b.nodes x).parent=(at' b.nodes y).parent) && decide ((at' b.nodes x).links=(at' b.nodes y).links)),⟨fun h4=>by simp[h4],fun h4=>⟨fun h5=>by simp[h5],fun h5=>⟨by omega,by simp[h4,h5,nI]⟩⟩⟩,?_⟩;rintro _ rfl;refine⟨fun h4=>?_,fun h4=>?_⟩
  · rw[pO]
    simp only[Bool.not_eq_true'] at h4;rw[h4];rfl
  · simp only[Bool.not_eq_false'] at h4
    rw[pO,h4,Bool.true_and];have hl:∀ l:List Int,((l.length:Int)=0)=(l=[]):=fun l=>by rw[<- List.length_eq_zero_iff];simp
    simp only[hl];refine⟨fun c=>c=(decide (il b x=[]) && decide (il b y=[]) && decide (fE b x=[]) && decide (fE b y=[])),⟨by omega,fun h5=>⟨by omega,fun h6=>⟨by omega,fun h7=>⟨by omega,by simp[h5,h6,h7]⟩,fun h7=>by simp[h7]⟩,fun h6=>by simp[h6]⟩,fun h5=>by simp[h5]⟩,?_⟩;rintro _ rfl
    rfl
abbrev ym (b:aG) (places:List Int):List Int:=dL b places
abbrev nu (b:aG) (places:List Int):Prop:=(∃ sig,bo sig b)/\places.length=b.nodes.length
def la (b:aG) (places:List Int) (Z:(List Int)->Prop):Prop:=
  aL (σ:=Int × (List Int)) (fun (i14,l15) K19=>∀ len20:Int,len20=(b.nodes.length:Int)->∀ c22:Bool,c22=decide (i14<len20)->((c22=true->pW (fun (J24:Bool->Prop)=>(0<=i14/\i14<places.length)/\∀ x82:Int,x82=at' places i14->∀ c84:Bool,c84=decide (x82<0)->((c84=true->(0<=i14/\i14<b.nodes.length)/\∀ x87:ay,x87=at' b.nodes i14->∀ c89:Bool,c89=decide (x87.parent<0)->((c89=true->J24 (true))/\(c89=false->(0<=i14/\i14<b.nodes.length)/\∀ x92:ay,x92=at' b.nodes i14->(0<=x87.parent/\x87.parent<places.length)/\∀ x96:Int,x96=at' places x87.parent->∀ c98:Bool,c98=decide (0<=x96)->J24 (c98))))/\(c84=false->J24 (false)))) (fun b27=>aL (σ:=Bool × Int) (fun (free35,k36) K40=>pW (fun (J41:Bool->Prop)=>∀ len77:Int,len77=(l15.length:Int)->∀ c79:Bool,c79=decide (k36<len77)->((c79=true->J41 (free35))/\(c79=false->J41 (false)))) (fun b44=>((b44=true->(0<=k36/\k36<l15.length)/\∀ x53:Int,x53=at' l15 k36->(mQ b x53 i14)/\∀ r57:Bool,r57=uy b x53 i14->(bu (k36+1))/\∀ v59:Int,v59=k36+1->K40 ((!r57),v59))/\(b44=false->((free35=true->(l15.length+1<=1073741824)/\∀ l62:List Int,l62=l15++[i14]->(bu (i14+1))/\∀ v72:Int,v72=i14+1->K19 (v72,l62))/\(free35=false->(bu (i14+1))/\∀ v75:Int,v75=i14+1->K19 (v75,l15))))))) (b27,0)))/\(c22=false->Z l15))) (0,([]:List Int))
theorem nf (tw:Int->Int->Bool) (i:Int):∀ (l out:List Int),thin tw out (l++[i])=if (thin tw out l).any (fun x=>tw x i) then thin tw out l else thin tw out l++[i]
  | [],out=>rfl
  | x::l,out=>by
    simp only[List.cons_append,thin];exact nf tw i l _
theorem qp (tw:Int->Int->Bool):∀ (l out:List Int),(thin tw out l).length<=out.length+l.length
  | [],out=>by simp[thin]
  | x::l,out=>by
    have h:=qp tw l (if out.any (fun y=>tw y x) then out else out++[x]);simp only[thin,List.length_cons] at h ⊢
    split at h
    · rename_i h1;rw[if_pos h1];omega
    · rename_i h1;rw[if_neg h1];simp only[List.length_append,List.length_cons,List.length_nil] at h;omega
def eS (b:aG) (pl:List Int) (k:Nat):List Int:=((List.range k).map fun i:Nat=>(i:Int)).filter (cY b pl)
theorem vz (b:aG) (pl:List Int) (k:Nat):eS b pl (k+1)=if cY b pl k then eS b pl k++[(k:Int)] else eS b pl k:=by
  simp only[eS,List.range_succ,List.map_append,List.filter_append,List.map_cons,List.map_nil,List.filter_cons,List.filter_nil]
  split<;>simp_all
theorem qx (b:aG) (pl:List Int) (k:Nat):(eS b pl k).length<=k:=by
  have:=List.length_filter_le (cY b pl) ((List.range k).map fun i:Nat=>(i:Int));simpa[eS] using this
theorem w3 {b:aG} {pl:List Int} {k:Nat} {x:Int} (h:x ∈ eS b pl k):0<=x/\x<k:=by
  simp only[eS,List.mem_filter,List.mem_map,List.mem_range] at h;obtain⟨⟨i,hi,rfl⟩,_⟩:=h;omega
theorem Cd (b:aG) (places:List Int) (h:nu b places):la b places (fun z=>z=ym b places):=by
  unfold la;obtain⟨⟨sig,hv⟩,hl⟩:=h;have hn:=hv.len;refine aL.oz b.nodes.length (fun k out=>out=thin (eC b) [] (eS b places k)) [] rfl ?_;rintro k _ K hk rfl IH;have hlen:=qp (eC b) (eS b places k) [];have hlen2:=qx b places k;have hin:∀ x ∈ thin (eC b) [] (eS b places k),0<=x/\x<k:=fun x hx=>w3 ((oH _ hx).resolve_left (by simp))
  simp only[List.length_nil] at hlen;simp only[forall_eq,decide_eq_true_eq,decide_eq_false_iff_not];refine⟨fun h1=>?_,fun h1=>by rw[show k=b.nodes.length by omega];rfl⟩;have hkn:(0:Int)<=k/\(k:Int)<b.nodes.length:=⟨by omega,by omega⟩
  have hp:=hv.jK hkn;refine⟨fun c=>c=cY b places k,⟨⟨by omega,by omega⟩,fun h2=>⟨by omega,fun h3=>by simp[cY,h2,h3],fun h3=>⟨by omega,⟨by omega,by omega⟩,by simp[cY,h2,h3]⟩⟩,fun h2=>by simp[cY,h2]⟩,?_⟩;rintro _ rfl;have hsucc:=vz b places k;generalize ho:thin (eC b) [] (eS b places k)=out at hlen hin ⊢;refine aL.Dc out.length (fun j f=>f=(cY b places k && !((out.take j).any fun x=>eC b x k))) _ (by simp) ?_;rintro j _ K2 hj rfl IH2;refine⟨fun c=>c=(decide (j<out.length) && (cY b places k && !((out.take j).any fun x=>eC b x k))),⟨fun h2=>by simp[show j<out.length by omega],fun h2=>by simp[show ¬ j<out.length by omega]⟩,?_⟩;rintro _ rfl;refine⟨fun h2=>?_,fun h2=>?_⟩
  · simp only[Bool.and_eq_true,decide_eq_true_eq,Bool.not_eq_true'] at h2
    obtain⟨h3,h4,h5⟩:=h2;dsimp only;have hm:=hin (at' out (j:Int)) (by rw[bm h3];exact List.getElem_mem h3);refine⟨by omega,⟨⟨sig,hv⟩,⟨hm.1,by omega⟩,hkn⟩,⟨by omega,by omega⟩,IH2 h3 _ ?_⟩;rw[<- List.take_append_getElem h3,List.any_append,h5,h4,bm h3];simp[uy]
  · have hnext:∀ r,(cY b places k && !((out.take j).any fun x=>eC b x k))=r->(r=true->j=out.length)->thin (eC b) [] (eS b places (k+1))=if r then out++[(k:Int)] else out:=fun r hr hj2=>by
      rw[hsucc];cases r with
      | true=>
        simp only[Bool.and_eq_true,Bool.not_eq_true'] at hr;have h6:=hr.2;rw[hj2 rfl,List.take_length] at h6;rw[if_pos hr.1,nf,ho,h6];rfl
      | false=>
        by_cases h6:cY b places k=true
        · rw[if_pos h6,nf,ho]
          simp only[h6,Bool.true_and,Bool.not_eq_false'] at hr;have:(out.any fun x=>eC b x k)=true:=by
            obtain⟨x,hx,hx2⟩:=List.any_eq_true.1 hr;exact List.any_eq_true.2 ⟨x,List.mem_of_mem_take hx,hx2⟩
          rw[this];rfl
        · rw[if_neg h6,ho];rfl
    have hjl:(cY b places k && !((out.take j).any fun x=>eC b x k))=true->j=out.length:=fun h6=>by
      rw[h6] at h2;simp only[Bool.and_true,decide_eq_false_iff_not] at h2;omega
    generalize hr:(cY b places k && !((out.take j).any fun x=>eC b x k))=r at hjl ⊢;have:=hnext r hr hjl;dsimp only;refine⟨fun h6=>⟨by omega,⟨by omega,by omega⟩,IH (by omega) _ ?_⟩,fun h6=>⟨⟨by omega,by omega⟩,IH (by omega) _ ?_⟩⟩
    · rw[this,h6];rfl
    · rw[this,h6];rfl
structure et (b:aG) (places edges:List Int) (many:Int) (s:Cz):Prop where
  bfit:Fit b (b.nodes.length - many.toNat) s
  bcz:sA b many.toNat s
  bes:kT b s.es
  bpl:s.pl=places
  bed:cg b s.es=edges
  bnum:0<=many/\many<=b.nodes.length
noncomputable def jb (b:aG) (places edges:List Int) (many:Int):List Int × List Int:=open Classical in if h:∃ s,et b places edges many s then dx b (b.nodes.length - many.toNat) h.choose else ([],[])
abbrev fV (b:aG) (places edges:List Int) (many:Int):Prop:=(∃ sig,bo sig b)/\∃ s,et b places edges many s
abbrev hU (b:aG) (_ _:List Int) (many:Int):Nat:=b.nodes.length - many.toNat
def mm (b:aG) (places:List Int) (edges:List Int) (many:Int) (Z:((List Int) × (List Int))->Prop):Prop:=
  ∀ ld:Int,ld=(b.nodes.length:Int)->∀ c6:Bool,c6=decide (many=ld)->((c6=true->(ie b places edges)/\∀ r9:(List Int) × (List Int),r9=kF b places edges->Z (r9.1,([]:List Int)))/\(c6=false->(nu b places)/\∀ r30:List Int,r30=ym b places->((0:Int)<=0/\(0:Int)<r30.length)/\∀ x47:Int,x47=at' r30 0->(eo b x47 places edges)/\∀ r51:(List Int) × (List Int),r51=dP b x47 places edges->aL (σ:=Int × (List Int)) (fun (i160,l161) K166=>∀ len167:Int,len167=(r30.length:Int)->∀ c169:Bool,c169=decide (i160<len167)->((c169=true->(0<=i160/\i160<r30.length)/\∀ x179:Int,x179=at' r30 i160->(eo b x179 places edges)/\∀ r183:(List Int) × (List Int),r183=dP b x179 places edges->(kk r183.1 l161)/\∀ r285:Bool,r285=nK r183.1 l161->((r285=true->(bu (i160+1))/\∀ v287:Int,v287=i160+1->K166 (v287,r183.1))/\(r285=false->(bu (i160+1))/\∀ v290:Int,v290=i160+1->K166 (v290,l161))))/\(c169=false->aL (σ:=Bool × Int × (List Int) × (List Int)) (fun (found315,i316,l317,l318) K325=>∀ len326:Int,len326=(r30.length:Int)->∀ c328:Bool,c328=decide (i316<len326)->((c328=true->(0<=i316/\i316<r30.length)/\∀ x340:Int,x340=at' r30 i316->(eo b x340 places edges)/\∀ r344:(List Int) × (List Int),r344=dP b x340 places edges->(fW r344.1 l161)/\∀ r449:Bool,r449=nI r344.1 l161->((r449=true->(fg places)/\∀ r454:List Int,r454=vA places->(0<=i316/\i316<r30.length)/\∀ x474:Int,x474=at' r30 i316->(0<=x474/\x474<r454.length)/\∀ x482:Int,x482=at' r454 x474->∀ l485:List Int,l485=r454.set x474.toNat many->(bu (many+1))/\∀ v497:Int,v497=many+1->(fV b l485 r344.2 v497/\hU b l485 r344.2 v497<hU b places edges many)/\∀ r500:(List Int) × (List Int),r500=jb b l485 r344.2 v497->pW (fun (J520:Bool->Prop)=>((found315=true->(kk r500.1 l318)/\∀ r568:Bool,r568=nK r500.1 l318->J520 (r568))/\(found315=false->J520 (true)))) (fun b523=>((b523=true->(0<=i316/\i316<r30.length)/\∀ x537:Int,x537=at' r30 i316->∀ l540:List Int,l540=[x537]->(l540.length+r500.2.length<=1073741824)/\∀ l549:List Int,l549=l540++r500.2->(bu (i316+1))/\∀ v562:Int,v562=i316+1->K325 (true,v562,l549,r500.1))/\(b523=false->(bu (i316+1))/\∀ v565:Int,v565=i316+1->K325 (found315,v565,l317,l318)))))/\(r449=false->(bu (i316+1))/\∀ v451:Int,v451=i316+1->K325 (found315,v451,l317,l318))))/\(c328=false->(l161.length+l318.length<=1073741824)/\∀ l570:List Int,l570=l161++l318->Z (l570,l317)))) (false,0,([]:List Int),([]:List Int))))) (1,r51.1)))
theorem Bv {b:aG} {es es':List Int} (h:kT b es) (h':kT b es') (e:cg b es=cg b es'):es=es':=by
  have hl:es.length=es'.length:=by have h1:=iz h;have h2:=iz h';rw[e] at h1;omega
  refine List.ext_getElem hl fun i h1 h2=>?_
  have hm:es[i] ∈ es:=List.getElem_mem h1;have hr:=h.rng _ hm;have e1:=gz (es:=es) hr;rw[e,gz hr,if_pos hm,List.Nodup.idxOf_getElem h.nd] at e1
  by_cases h3:es[i] ∈ es'
  · rw[if_pos h3] at e1
    have h4:es'.idxOf es[i]=i:=by omega
    have h5:=List.getElem_idxOf (x:=es[i]) (xs:=es') (List.idxOf_lt_length_of_mem h3);simp only[h4] at h5;exact h5.symm
  · rw[if_neg h3] at e1;omega
theorem et.uniq {b:aG} {pl ed:List Int} {many:Int} {s s':Cz} (h:et b pl ed many s) (h':et b pl ed many s'):s=s':=by
  have e1:=Bv h.bes h'.bes (h.bed.trans h'.bed.symm);have e2:=h.bpl.trans h'.bpl.symm;have e3:=h.bcz.num.trans h'.bcz.num.symm;cases s;cases s';simp_all
theorem lN {b:aG} {pl ed:List Int} {many:Int} {s:Cz} (h:et b pl ed many s):jb b pl ed many=dx b (b.nodes.length - many.toNat) s:=by
  have hx:∃ s,et b pl ed many s:=⟨s,h⟩
  rw[jb,dif_pos hx,hx.choose_spec.uniq h]
theorem bo.q8 {sig:cV} {b:aG} (h:bo sig b):eH b:=fun x hx=>(h.jK hx).2
theorem bo.even {sig:cV} {b:aG} (h:bo sig b):lC b:=fun x y hx hy e=>by
  have h1:=h.rX hx;have h2:=h.rX hy;rw[e] at h1;omega
theorem et.rz {sig:cV} {b:aG} {pl ed:List Int} {many:Int} {s:Cz} (hv:bo sig b) (h:et b pl ed many s):nA b many.toNat ⟨[],ed,pl⟩:=by
  have h1:=iz h.bes;have h2:=hv.edges;have h3:=ye (cg b s.es);have h4:(cg b s.es).length=b.edges.toNat:=by simp[cg]
  refine⟨⟨hv.edges,by simp only[<- h.bed,h4];omega,fun v hx=>?_⟩,by simp only[<- h.bpl];exact h.bcz.pl,fun v hx=>?_,by simp⟩
  · simp only[<- h.bed,cg,List.mem_map,List.mem_range] at hx
    obtain⟨l,hl,rfl⟩:=hx
    split
    · rename_i h5
      have:=List.idxOf_lt_length_of_mem h5;omega
    · omega
  · simp only[<- h.bpl] at hx
    exact h.bcz.lo v hx
theorem et.chunk {sig:cV} {b:aG} {pl ed:List Int} {many:Int} {s:Cz} (hv:bo sig b) (h:et b pl ed many s) {k:Int} (hk:0<=k/\k<b.nodes.length):dP b k pl ed=((bj b s k).1,cg b (bj b s k).2)/\kT b (bj b s k).2:=by
  have hl:=hv.iM hk;obtain⟨t1,t2⟩:=dS (at' b.nodes k).links _ h.bes fun l hl2=>(hl l hl2).1
  rw[h.bed] at t1;refine⟨?_,t2⟩;simp only[dP,t1,bj,h.bpl]
theorem et.step {sig:cV} {b:aG} {pl ed:List Int} {many:Int} {s:Cz} (hv:bo sig b) (h:et b pl ed many s) (hm:many<b.nodes.length) {k:Int} (hk:k ∈ dM b s.pl) :
    et b (pl.set k.toNat many) (dP b k pl ed).2 (many+1) (bA b s k):=by
  have hr:=(ct.1 hk).1;have hb:=h.bnum;have hn:=hv.len;obtain⟨e1,e2⟩:=h.chunk hv hr;have h1:=h.bfit;rw[show b.nodes.length - many.toNat=(b.nodes.length - (many+1).toNat)+1 by omega] at h1;have h2:=sA.step hv h.bcz hr (by omega);refine⟨h1.step hk,?_,e2,?_,by rw[e1];rfl,by omega⟩
  · rw[show (many+1).toNat=many.toNat+1 by omega];exact h2
  · have:=h.bcz.num
    simp only[bA,h.bpl]
    congr 1;omega
theorem rT {b:aG} (he:lC b) (h3:∀ k:Int,0<=k/\k<b.nodes.length->(at' b.nodes k).links.length<=3):∀ {m:Nat} {s:Cz} {p:P2},p ∈ eO b m s->p.2.length=m/\p.1.length<=5 * m+(b.sites.length+b.inner.length)
  | 0,s,p,h=>by
    rw[List.mem_singleton.1 h];simp[gK,dz]
  | m+1,s,p,h=>by
    obtain⟨k,hk,q,hq,rfl⟩:=dW.1 h;have hr:=(ct.1 hk).1;obtain⟨h4,h5⟩:=rT he h3 hq;have h6:=h3 k hr;have h7:(bj b s k).1.length<=5:=by simp[bj,dz];omega
    simp only[List.length_cons,List.length_append];omega
theorem lg {b:aG} {pl:List Int} {k:Int} (h:k ∈ dL b pl):k ∈ dM b pl:=(oH _ h).resolve_left (by simp)
theorem Db {b:aG} (hd:eH b) {m:Nat} {s:Cz} (h:Fit b (m+1) s):dL b s.pl ≠ []:=by
  have hhas:=qB (eC b) (l:=dM b s.pl) (out:=[]) (by simp) (nh s.pl);obtain⟨k,hk⟩:=j8 hd h;rcases hhas k hk with h1 | ⟨x,h1,_⟩<;>intro e<;>rw[dL] at e<;>rw[e] at h1<;>cases h1
theorem BS (b:aG) (places edges:List Int) (many:Int) (h:fV b places edges many):mm b places edges many (fun z=>z=jb b places edges many):=by
  unfold mm;obtain⟨⟨sig,hv⟩,s,hs⟩:=h;have hn:=hv.len;have hsl:=hv.slen;have hil:=hv.inner;have hb:=hs.bnum;have hrz:=hs.rz hv;have hpl:places.length=b.nodes.length:=hrz.pl;simp only[forall_eq,decide_eq_true_eq,decide_eq_false_iff_not];refine⟨fun h1=>⟨hrz.tail hv,?_⟩,fun h1=>⟨⟨⟨sig,hv⟩,hpl⟩,?_⟩⟩
  · obtain⟨t1,t2⟩:=dS (b.inner.map fun w=>w.link) _ hs.bes fun l hl=>by
      obtain⟨w,hw,rfl⟩:=List.mem_map.1 hl;exact (hv.wires w hw).1
    rw[hs.bed] at t1;rw[lN hs,show b.nodes.length - many.toNat=0 by omega,dx];simp only[kF,t1,gK,hs.bpl]
  have hm:many<b.nodes.length:=by omega
  obtain⟨m,hmm⟩:∃ m,b.nodes.length - many.toNat=m+1:=⟨b.nodes.length - many.toNat - 1,by omega⟩
  have hfit:=hs.bfit;rw[hmm] at hfit;have hne:=Db hv.q8 hfit;have hin:∀ x ∈ dL b s.pl,0<=x/\x<b.nodes.length:=fun x hx=>(ct.1 (lg hx)).1
  have hfl:(dL b s.pl).length<=b.nodes.length:=by
    have h2:=qp (eC b) (dM b s.pl) [];have h3:(dM b s.pl).length<=b.nodes.length:=qx b s.pl b.nodes.length;simp only[List.length_nil] at h2;have h4:(dL b s.pl).length<=0+(dM b s.pl).length:=h2;omega
  have hch:∀ k:Int,0<=k/\k<b.nodes.length->(bj b s k).1.length<=5:=fun k hk=>by
    have:=hv.fB hk;simp[bj,dz];omega
  rw[lN hs,hmm,show ym b places=dL b s.pl by rw[hs.bpl]];have hrec:∀ k ∈ dL b s.pl,(jb b (places.set k.toNat many) (dP b k places edges).2 (many+1))=dx b m (bA b s k)/\(dx b m (bA b s k)).2.length<=8/\(dx b m (bA b s k)).1.length<=100:=fun k hk=>by
    have h2:=hs.step hv hm (lg hk);have h3:=(jV hv.even hv.q8 (fun p hp=>(hv.sites p hp).2) (hfit.step (lg hk))).1;have h4:=rT hv.even (fun k hk=>hv.fB hk) h3;rw[lN h2,show b.nodes.length - (many+1).toNat=m by omega];exact⟨rfl,by omega,by omega⟩
  rw[dx];generalize hF:dL b s.pl=an at hne hin hfl hrec;obtain⟨k0,t,hF2⟩:∃ k0 t,an=k0::t:=by
    cases an with
    | nil=>exact absurd rfl hne
    | cons k0 t=>exact⟨k0,t,rfl⟩
  have hF0:at' an (0:Int)=k0:=by rw[hF2];rfl
  have hlF:0<an.length:=by rw[hF2];simp
  have hk0:=hin k0 (by rw[hF2];simp);rw[hF0];have hc0:=hs.chunk hv hk0;refine⟨⟨by omega,by omega⟩,hrz.chunk hv hk0,?_⟩;rw[hc0.1];refine aL.up t.length (fun s=>s.1 - 1) (fun k l=>((k:Int)+1,l)) (fun k l=>by simp) (fun k l=>l=(t.take k).foldl (fun a k=>if cmpL (bj b s k).1 a<0 then (bj b s k).1 else a) (bj b s k0).1/\l.length<=5) _ rfl ⟨rfl,hch k0 hk0⟩ ?_;rintro i l K hi ⟨hl,hl5⟩ IH;have htl:an.length=t.length+1:=by rw[hF2];simp
  simp only[forall_eq,decide_eq_true_eq,decide_eq_false_iff_not];refine⟨fun h2=>?_,fun h2=>?_⟩
  · have hit:i<t.length:=by omega
    have hFi:at' an ((i:Int)+1)=t[i]:=by
      rw[hF2,show (i:Int)+1=((i+1:Nat):Int) by omega,bm (by simp;omega)];simp
    have hti:=hin t[i] (by rw[hF2];simp);have hci:=hs.chunk hv hti;have h5:=hch _ hti;rw[hFi,hci.1];refine⟨⟨by omega,by omega⟩,hrz.chunk hv hti,⟨by simp only;omega,by omega⟩,fun h6=>⟨⟨by omega,by omega⟩,?_⟩,fun h6=>⟨⟨by omega,by omega⟩,?_⟩⟩
    · refine IH hit _ ⟨?_,h5⟩
      rw[<- List.take_append_getElem hit,List.foldl_append,<- hl];simp only[nK,decide_eq_true_eq] at h6;simp[h6]
    · refine IH hit _ ⟨?_,hl5⟩
      rw[<- List.take_append_getElem hit,List.foldl_append,<- hl];simp only[nK,decide_eq_false_iff_not] at h6;simp[h6]
  · have hit:i=t.length:=by omega
    rw[hit,List.take_length] at hl;have hlc:l=gV b s an:=by rw[hl,hF2];rfl
    rw[<- hlc];clear IH K;refine aL.up (τ:=Bool × List Int × List Int) an.length (fun s=>s.2.1) (fun j x=>(x.1,(j:Int),x.2.1,x.2.2)) (fun _ _=>rfl) (fun j x=>(x.2.2,x.2.1,x.1)=(an.take j).foldl (ik (fun k=>decide ((bj b s k).1=l)) fun k=>dx b m (bA b s k)) ([],[],false)/\x.2.1.length<=9/\x.2.2.length<=100) (false,[],[]) rfl ⟨rfl,by simp,by simp⟩ ?_;rintro j ⟨found,ord,code⟩ K hj ⟨hI,ho9,hc100⟩ IH;simp only at hI ho9 hc100;simp only[forall_eq,decide_eq_true_eq,decide_eq_false_iff_not];refine⟨fun h3=>?_,fun h3=>?_⟩
    · have hjF:j<an.length:=by omega
      have hFj:at' an (j:Int)=an[j]:=bm hjF;have hmem:an[j] ∈ an:=List.getElem_mem hjF;have hfj:=hin _ hmem;have hcj:=hs.chunk hv hfj;have h5:=hch _ hfj;obtain⟨r1,r2,r3⟩:=hrec _ hmem;have hst:=hs.step hv hm (lg (by rw[hF];exact hmem):an[j] ∈ dM b s.pl);have hfold:∀ x,x=ik (fun k=>decide ((bj b s k).1=l)) (fun k=>dx b m (bA b s k)) (code,ord,found) an[j]->x=(an.take (j+1)).foldl (ik (fun k=>decide ((bj b s k).1=l)) fun k=>dx b m (bA b s k)) ([],[],false):=fun x hx=>by
        rw[<- List.take_append_getElem hjF,List.foldl_append,<- hI,hx];rfl
      rw[hFj];rw[hcj.1] at r1 hst ⊢;refine⟨⟨by omega,by omega⟩,hrz.chunk hv hfj,by simp only[fW];omega,fun h6=>?_,fun h6=>?_⟩
      · simp only[nI,decide_eq_true_eq] at h6
        have hat:∃ y,at' (vA places) an[j]=y:=⟨_,rfl⟩
        refine⟨by simp only[fg];omega,⟨by omega,by omega⟩,⟨hfj.1,by simp only[vA];omega⟩,⟨by omega,by omega⟩,⟨⟨⟨sig,hv⟩,_,hst⟩,by simp only[hU];omega⟩,?_⟩;simp only[vA];rw[r1];refine⟨fun c=>c=(found=false\/cmpL (dx b m (bA b s an[j])).1 code<0:Bool),⟨fun h7=>⟨⟨by omega,by omega⟩,?_⟩,fun h7=>by simp[h7]⟩,?_⟩
        · simp[h7,nK]
        · rintro _ rfl
          simp only[decide_eq_true_eq,decide_eq_false_iff_not];refine⟨fun h7=>⟨⟨by omega,by omega⟩,by simp;omega,⟨by omega,by omega⟩,IH hjF (_,_,_) ⟨hfold _ ?_,by simp;omega,r3⟩⟩,fun h7=>⟨⟨by omega,by omega⟩,IH hjF (_,_,_) ⟨hfold _ ?_,ho9,hc100⟩⟩⟩
          · simp only[ik,h6,decide_true,if_true]
            rw[if_pos h7];simp
          · simp only[ik,h6,decide_true,if_true]
            rw[if_neg h7]
      · simp only[nI,decide_eq_false_iff_not] at h6
        refine⟨⟨by omega,by omega⟩,IH hjF (_,_,_) ⟨hfold _ ?_,ho9,hc100⟩⟩;simp[ik,h6]
    · rw[show j=an.length by omega,List.take_length] at hI
      refine⟨by omega,?_⟩;rw[<- hI]
end Go.Ab.Vg
namespace Go.Ab
section
variable {P:Program} {N:Nat} {O:Env} {H:Heap} {n:Nat} {Ty:Types} {d:Option Tmp} {ty:TypeId} {pos:String} {af:Array Edge} {gu:Option (Nat × Bool)}
end
section
variable {P:Program} {f:FuncId} {N:Nat} {k:List Item} {Q:I->Heap->Nat->Prop} {Ty:Types} {l:List Oper} {O:Env} {H:Heap} {n:Nat} {d:Option Tmp} {ty:TypeId} {pos:String} {af:Array Edge}
theorem J.seqK (hT:aU P Ty) {id:Nat} {ops:List Oper} {y:Code} (hN:ops.all (fun o=>dA N o.dst)=true) (h:∀ k':List Item,(∀ O H n,J P f N (.code y::k) O H n Q->J P f N k' O H n Q)->bw P f N k' Q ops.toArray ops O H n) :
    J P f N (.code (.seq (.region id ops.toArray false) y)::k) O H n Q:=
  J.seq (J.region (h (.code y::k) fun _ _ _ h=>h))
end
end Go.Ab
namespace Go.Ab.Vg
open Go.Proofs
section
variable {P:Program} {f:FuncId} {N:Nat} {k:List Item} {Q:I->Heap->Nat->Prop} {Ty:Types} {l:List Oper} {O:Env} {H:Heap} {n:Nat}
theorem bw.callS2 {ops:Array Oper} {d:Option Tmp} {g:Operand} {args:Array Operand} {ats:Array TypeId} {ty:TypeId} {pos:String} {af:Array Edge} {post:I->Heap->Nat->Prop} {f':FuncId} {as1:List I}
    (h:bz P f' as1 H n post) (cP:aZ P f') (hd:dA N d=true) (hg:O.ev g = .fn (.func f') [] []) (has:args.toList.map O.ev=as1)
    (hk:∀ v H1 U,post v H1 U->bw P f N k Q ops l (O.put d v) H1 U):bw P f N k Q ops (⟨d,.call ⟨.value g,args,ats⟩,ty,pos,af,none⟩::l) O H n:=by
  refine eP.op rfl hd ((aI.call (first:=[]) (captured:=[]) hg cP (by rw[has,List.nil_append,List.append_nil];exact h)).mono ?_);exact hk
end
theorem pK {b:aG} {φ:I->I} (hφ:∀ a,fw a->φ a=a) (p:dm):(bP b p).map φ=bP b (p.1,φ p.2):=by
  rw[bP,xW hφ (zg _) (.inr trivial),hφ _ (zg _),Option.map_some,hφ _ (zg _)];rfl
theorem A7 {b:aG} {a:fA} {v w:I} (h:Sub v w):iK (bP b (a,v)) (bP b (a,w)):=
  iK.append (.refl _) (iK.append (.refl _) (.cons (.refl _) (.cons (.refl _) (.cons h .nil))))
def ea (b:aG) (a:fA):List I:=bP b (a,.list true (a.code.map au))
def jf (b:aG) (a:fA) (j:Nat):List fA:=(((List.range j).map fun i:Nat=>(i:Int)).filter (cY b a.s.pl)).map fun k=>⟨a.order++[k],bA b a.s k,a.code++(bj b a.s k).1⟩
theorem AR (b:aG) (a:fA):jf b a b.nodes.length=fj b a:=rfl
theorem AG {b:aG} {a:fA} {j:Nat} (h:cY b a.s.pl (j:Int)=true):jf b a (j+1)=jf b a j++[⟨a.order++[(j:Int)],bA b a.s j,a.code++(bj b a.s j).1⟩]:=by simp[jf,List.range_succ,h]
theorem tS {b:aG} {a:fA} {j:Nat} (h:cY b a.s.pl (j:Int)=false):jf b a (j+1)=jf b a j:=by simp[jf,List.range_succ,h]
structure AX (b:aG) (C L ai X:Id) (m i j len qlen:Nat) (rows qrows:List (List I)) (xrow:List I) (O:Env) (H:Heap):Prop where
  r1:O 1 = .ptr (0,1) 1 0 0
  r3:O 3 = .ptr C 1 0 0
  r5:O 5=int m
  r6:O 6 = .arr ai qlen 0 qlen
  r8:O 8 = .ptr X 1 0 0
  r24:O 24=int b.nodes.length
  r25:O 25=int m
  r29:O 29 = .arr L len 0 len
  r30:O 30=int len
  r31:O 31=int i
  r36:O 36 = .list false (b.nodes.map (ay.cells false))
  r37:O 37=int b.nodes.length
  r38:O 38=int j
  mB:H (0,1)=some ⟨6,[aG.cells false b]⟩
  mC:∃ cs,H C=some ⟨9,[cs]⟩/\cs.length=9
  mL:H L=some ⟨10,rows⟩
  mM:H ai=some ⟨10,qrows⟩
  mX:H X=some ⟨10,[xrow]⟩
theorem AX.keep {b:aG} {C L ai X:Id} {m i j len qlen:Nat} {rows qrows:List (List I)} {xrow:List I} {O ρ':Env} {H H':Heap} (h:AX b C L ai X m i j len qlen rows qrows xrow O H)
    (hr:∀ t ∈ [1,3,5,6,8,24,25,29,30,31,36,37,38],ρ' t=O t) (hH:∀ k ∈ [X,ai,L,C,(0,1)],H' k=H k):AX b C L ai X m i j len qlen rows qrows xrow ρ' H' where
  r1:=(hr 1 (by simp)).trans h.r1
  r3:=(hr 3 (by simp)).trans h.r3
  r5:=(hr 5 (by simp)).trans h.r5
  r6:=(hr 6 (by simp)).trans h.r6
  r8:=(hr 8 (by simp)).trans h.r8
  r24:=(hr 24 (by simp)).trans h.r24
  r25:=(hr 25 (by simp)).trans h.r25
  r29:=(hr 29 (by simp)).trans h.r29
  r30:=(hr 30 (by simp)).trans h.r30
  r31:=(hr 31 (by simp)).trans h.r31
  r36:=(hr 36 (by simp)).trans h.r36
  r37:=(hr 37 (by simp)).trans h.r37
  r38:=(hr 38 (by simp)).trans h.r38
  mB:=(hH _ (by simp)).trans h.mB
  mC:=by obtain⟨cs,h1,h2⟩:=h.mC;exact⟨cs,(hH _ (by simp)).trans h1,h2⟩
  mL:=(hH _ (by simp)).trans h.mL
  mM:=(hH _ (by simp)).trans h.mM
  mX:=(hH _ (by simp)).trans h.mX
theorem uQ {qs:List dm} {i:Nat} {p:dm} (h:i<qs.length):dX (qs.set i p)=dX (qs.take i)++oI p.2 p.1.code::dX (qs.drop (i+1)):=by
  rw[List.set_eq_take_append_cons_drop,if_pos h];simp only[dX,List.map_append,List.map_cons]
theorem vL {qs:List dm} {i:Nat} (h:i<qs.length):dX qs=dX (qs.take i)++oI qs[i].2 qs[i].1.code::dX (qs.drop (i+1)):=by
  have h1:=uQ (p:=qs[i]) h;rw[List.set_getElem_self] at h1;exact h1
theorem AX.fz {b:aG} {C L ai X:Id} {m i j len qlen:Nat} {rows qrows:List (List I)} {xrow:List I} {O:Env} {H H':Heap} {φ:I->I} {ids:List Id} (h:AX b C L ai X m i j len qlen rows qrows xrow O H)
    (hin:∀ k ∈ [X,ai,L,C,(0,1)],k ∈ ids) (hH:∀ k ∈ ids,H' k=(H k).map fun o=>⟨o.size,o.els.map fun e=>e.map φ⟩) (hφ:∀ a,fw a->φ a=a) (hp:∀ i ∈ ids,∀ g x y,φ (.ptr i g x y) = .ptr i g x y/\φ (.arr i g x y) = .arr i g x y)
    (h1:rows.map (fun e=>e.map φ)=rows) (h2:qrows.map (fun e=>e.map φ)=qrows) (h3:xrow.map φ=xrow):AX b C L ai X m i j len qlen rows qrows xrow (fun t=>φ (O t)) H' where
  r1:=by show φ (O 1)=_;rw[h.r1];exact (hp _ (hin _ (by simp)) _ _ _).1
  r3:=by show φ (O 3)=_;rw[h.r3];exact (hp _ (hin _ (by simp)) _ _ _).1
  r5:=by show φ (O 5)=_;rw[h.r5];exact hφ _ (.v _)
  r6:=by show φ (O 6)=_;rw[h.r6];exact (hp _ (hin _ (by simp)) _ _ _).2
  r8:=by show φ (O 8)=_;rw[h.r8];exact (hp _ (hin _ (by simp)) _ _ _).1
  r24:=by show φ (O 24)=_;rw[h.r24];exact hφ _ (.v _)
  r25:=by show φ (O 25)=_;rw[h.r25];exact hφ _ (.v _)
  r29:=by show φ (O 29)=_;rw[h.r29];exact (hp _ (hin _ (by simp)) _ _ _).2
  r30:=by show φ (O 30)=_;rw[h.r30];exact hφ _ (.v _)
  r31:=by show φ (O 31)=_;rw[h.r31];exact hφ _ (.v _)
  r36:=by show φ (O 36)=_;rw[h.r36];exact hφ _ (ow false b _ (by simp[aG.cells,bB]))
  r37:=by show φ (O 37)=_;rw[h.r37];exact hφ _ (.v _)
  r38:=by show φ (O 38)=_;rw[h.r38];exact hφ _ (.v _)
  mB:=by
    have hBm:(aG.cells false b).map φ=aG.cells false b:=by
      conv=>rhs;rw[<- List.map_id (aG.cells false b)]
      exact List.map_congr_left fun a ha=>hφ a (ow false b a ha)
    rw[hH _ (hin _ (by simp)),h.mB];simp[hBm]
  mC:=by obtain⟨cs,q1,q2⟩:=h.mC;exact⟨cs.map φ,by rw[hH _ (hin _ (by simp)),q1];simp,by simp[q2]⟩
  mL:=by rw[hH _ (hin _ (by simp)),h.mL];simp[h1]
  mM:=by rw[hH _ (hin _ (by simp)),h.mM];simp[h2]
  mX:=by rw[hH _ (hin _ (by simp)),h.mX];simp[h3]
section
theorem e118:aZ prog 118:=aZ.of func118 (by kernel_rfl) rfl
theorem ej.pts {H:Heap} {n:Nat} {as1 bs:List I} (hl:as1.length=bs.length) (h:∀ (i:Nat) (a c:I),as1[i]?=some a->bs[i]?=some c->ej H n a c):ej H n (.agg as1) (.agg bs)/\ej H n (.tup as1) (.tup bs):=by
  constructor
  · intro c x hH hn g r c' hw hm hB
    cases r with
    | agg _ vs hl' hr=>
    refine .agg _ vs (by omega) fun i a x ha hx=>?_
    obtain⟨a0,ha0⟩:=a6 (l:=as1) (i:=i) (by rw[hl];exact (List.getElem?_eq_some_iff.1 ha).1);exact h i a0 a ha0 ha c x hH hn g (hr i a0 x ha0 hx) c' hw hm hB
  · intro c x hH hn g r c' hw hm hB
    cases r with
    | tup _ vs hl' hr=>
    refine .tup _ vs (by omega) fun i a x ha hx=>?_
    obtain⟨a0,ha0⟩:=a6 (l:=as1) (i:=i) (by rw[hl];exact (List.getElem?_eq_some_iff.1 ha).1);exact h i a0 a ha0 ha c x hH hn g (hr i a0 x ha0 hx) c' hw hm hB
theorem ej.ints (H:Heap) (n:Nat) (l:List Int):ej H n (.list true (l.map au)) (.list true (l.map au)):=.of (ic.fresh (by
  rw[vU];intro e he a ha;obtain⟨x,_,rfl⟩:=List.mem_map.1 he;simp only[au,List.mem_singleton] at ha;subst ha;exact .v _))
def mr (b:aG):List fA:=eW ((bQ b b.nodes.length).map (cS b))
instance:Inhabited fA:=⟨⟨[],⟨[],[],0⟩,[]⟩⟩
def aS (b:aG):fA:=cU (mr b) (at' (mr b) 0)
def fi (d:dm) (l:List dm):dm:=l.foldl (fun best x=>if cmpL x.1.order best.1.order<0 then x else best) d
theorem AV (d:dm) (l:List dm):(fi d l).1=cU (l.map (·.1)) d.1:=by
  induction l generalizing d with
  | nil=>rfl
  | cons x l ih=>
    have h1:fi d (x::l)=fi (if cmpL x.1.order d.1.order<0 then x else d) l:=rfl;have h2:cU ((x::l).map (·.1)) d.1=cU (l.map (·.1)) (if cmpL x.1.order d.1.order<0 then x.1 else d.1):=rfl;rw[h1,h2,ih]
    congr 1
    split<;>rfl
theorem yx (d:dm) (l:List dm):fi d l=d\/fi d l ∈ l:=by
  induction l generalizing d with
  | nil=>exact .inl rfl
  | cons x l ih=>
    have h1:fi d (x::l)=fi (if cmpL x.1.order d.1.order<0 then x else d) l:=rfl;rw[h1];rcases ih (if cmpL x.1.order d.1.order<0 then x else d) with h | h
    · rw[h]
      split
      · exact .inr (by simp)
      · exact .inl rfl
    · exact .inr (by simp[h])
set_option maxRecDepth 100000 in
theorem lY {sig:cV} {b:aG} (hv:bo sig b) (he:lC b) (hdn:eH b):bz prog 84 [.agg (aG.cells false b)] bp 0 (fun v _ _=>∃ q,Ab.aF q=true/\v = .tup [.list true ((aS b).order.map au),.agg (cw none b (.list true ((aS b).s.es.map au)) (.list true ((aS b).s.pl.map au)) q)]):=by
  have hn8:=hv.len;refine bz.of func84 rfl ntmps84 (by simp) fun Q hQ=>?_
  have M:Sep bp 0 [] []:=Sep.nil (by simp);refine zE fun _ V=>?_
  simp[aG.cells];apply V;refine J.cut (fun O H n=>∃ C:Id,O 1 = .ptr (0,1) 1 0 0/\O 3 = .ptr C 1 0 0/\C ≠ (0,1)/\H (0,1)=some ⟨6,[aG.cells false b]⟩/\(∃ cs,H C=some ⟨9,[cs]⟩/\cs.length=9)/\Sep H n [] [C,(0,1)]) ⟨(1,3),by simp,by simp,by simp,by simp[aG.cells],⟨_,by simp;rfl,rfl⟩,Sep.var (Sep.var M)⟩ ?_;clear V M;rintro O H n ⟨C,r1,r3,hCB,mB,⟨cs,mC,hcs⟩,M⟩;refine J.seqK av (by decide) fun _ V=>?_
  refine bw.jg (v:=.agg (aG.cells false b)) av (by decide) rfl (by simp[r1,mB,aG.cells]) ?_;refine bw.callS2 (vE (b:=b) (by omega) M) e115 (by decide) rfl (by simp) ?_;rintro _ H1 U ⟨X,rfl,hX0,mX,sp2,fr2,hn1⟩;refine bw.jg (v:=.ptr X 1 0 0) av (by decide) rfl (by simp[mX]) ?_;refine bw.jg (v:=.agg (cw none b (.v (.slice none 0 0)) (.list true ((List.replicate b.nodes.length (-1:Int)).map au)) (.v (.slice none 0 0)))) av (by decide) rfl (by simp[mX,cw,aG.cells]) ?_;refine bw.jg (v:=.agg (cw (some (.v (.slice none 0 0))) b (.v (.slice none 0 0)) (.list true ((List.replicate b.nodes.length (-1:Int)).map au)) (.v (.slice none 0 0)))) av (by decide) rfl (by simp[cw,aG.cells]) ?_;refine bw.op av (by decide) (by decide) rfl (mj (v:=.arr (U,21) 1 0 1) (H':=H1.set (U,21) ⟨10,[cw (some (.v (.slice none 0 0))) b (.v (.slice none 0 0)) (.list true ((List.replicate b.nodes.length (-1:Int)).map au)) (.v (.slice none 0 0))]⟩) (n':=U+1) av (by simp[iu,cw,aG.cells,List.range_succ])).1 ?_;rintro _ _ _ ⟨rfl,rfl,rfl⟩;simp;apply V;refine J.subX (X:=(U,21)) (rows':=[bP b (⟨[],gY b,[]⟩,.v (.slice none 0 0))]) (Heap.a8 _ _ _) rfl (fun i e e' he he'=>?_) ?_
  · match i with
    | 0=>
      simp only[List.getElem?_cons_zero,Option.some.injEq] at he he';subst he he';exact .cons (Sub.nil true) (@iK.append (aG.cells false b) (aG.cells false b) _ _ (.refl _) (.cons (Sub.nil true) (.cons (by simp only[gY,List.map_replicate];exact Sub.refl _) (.refl _))))
    | i+1=>simp at he
  rw[Heap.set_set];have hNi:∀ i ∈ [C,(0,1)],i ≠ (U,21):=fun i hi h=>by have:=sp2.1 i (List.mem_cons_of_mem _ hi);rw[h] at this;simp at this
  have mB1:(H1.set (U,21) ⟨10,[bP b (⟨[],gY b,[]⟩,.v (.slice none 0 0))]⟩) (0,1)=some ⟨6,[aG.cells false b]⟩:=by rw[Heap.aD _ _ (hNi _ (by simp)),fr2 _ (by simp)];exact mB
  have mC1:(H1.set (U,21) ⟨10,[bP b (⟨[],gY b,[]⟩,.v (.slice none 0 0))]⟩) C=some ⟨9,[cs]⟩:=by rw[Heap.aD _ _ (hNi _ (by simp)),fr2 _ (by simp)];exact mC
  have sp3:=Sep.iF (l:=[.c]) (Sep.sub (dO:=[(U,21),C,(0,1)]) (Sep.var (d:=21) (o:=⟨10,[bP b (⟨[],gY b,[]⟩,.v (.slice none 0 0))]⟩) sp2) (by simp +contextual));have mL1:=Heap.a8 H1 (U,21) ⟨10,[bP b (⟨[],gY b,[]⟩,.v (.slice none 0 0))]⟩;generalize H1.set (U,21) ⟨10,[bP b (⟨[],gY b,[]⟩,.v (.slice none 0 0))]⟩=H2 at mB1 mC1 sp3 mL1;refine zS fun _ V=>?_
  have f1:=fun H=>aQ (H:=H) (fr:=false) (f:=ay.cells false) (l:=b.nodes) cJ rfl
  simp[r1,mB1,aG.cells,bB,f1,-aJ];apply V;refine J.block (J.bM b.nodes.length (fun m O H n=>∃ (L:Id) (ps:List dm),O 1 = .ptr (0,1) 1 0 0/\O 3 = .ptr C 1 0 0/\O 4 = .arr L ps.length 0 ps.length/\O 24=int b.nodes.length/\O 25=int m/\H (0,1)=some ⟨6,[aG.cells false b]⟩/\(∃ cs,H C=some ⟨9,[cs]⟩/\cs.length=9) /\
      H L=some ⟨10,ps.map (bP b)⟩/\L ∉ [C,(0,1)]/\ps.map (·.1)=bQ b m/\Sep H n (dX ps) [L,C,(0,1)])
    ⟨(U,21),[(⟨[],gY b,[]⟩,.v (.slice none 0 0))],by simp[r1],by simp[r3],by simp,by simp,by simp,mB1,⟨_,mC1,hcs⟩,mL1,fun h=>hNi _ h rfl,rfl,sp3⟩ ?_)
  clear V f1 mB1 mC1 sp3 mL1 hNi hn1 fr2 sp2 mX hX0 r1 r3 mB mC M;rintro m O H n hm ⟨L,ps,r1,r3,r4,r24,r25,mB,mC,mL,hLi,hps,M⟩ IH;refine zE fun _ V=>?_
  simp[r24,r25];apply V;apply J.seq;refine J.ite rfl (fun hc1=>?_) (fun hc1=>?_)
  · have hc1:m<b.nodes.length:=by simpa using hc1
    have hok:=lG hv m hm;apply zK;apply J.block;refine J.cut (fun O H n=>O 1 = .ptr (0,1) 1 0 0/\O 3 = .ptr C 1 0 0/\O 4 = .arr L ps.length 0 ps.length/\O 24=int b.nodes.length/\O 25=int m/\H (0,1)=some ⟨6,[aG.cells false b]⟩/\(∃ cs,H C=some ⟨9,[cs]⟩/\cs.length=9)/\H L=some ⟨10,ps.map (bP b)⟩/\Sep H n (dX ps) [L,C,(0,1)]) ⟨by simp[r1],by simp[r3],by simp[r4],by simp[r24],by simp[r25],mB,mC,mL,M⟩ ?_;clear V r1 r3 r4 r24 r25 mB mC mL M;rintro O H n ⟨r1,r3,r4,r24,r25,mB,mC,mL,M⟩;have spE:Sep H n ((ps.map fun p=>(p.2,p.1.code)).map fun e=>oI e.1 e.2) [L,C,(0,1)]:=by simpa[dX,List.map_map,Function.comp_def] using M
    refine J.Ep _ spE fun H1 φ sp1 fr1 hφ hsub hptr=>?_
    have mB1:=fr1 (0,1) (by simp);have mL1:=fr1 L (by simp);obtain⟨cs,mC,hcs⟩:=mC;have mC1:=fr1 C (by simp);have hBm:(aG.cells false b).map φ=aG.cells false b:=by
      conv=>rhs;rw[<- List.map_id (aG.cells false b)]
      exact List.map_congr_left fun a ha=>hφ a (ow false b a ha)
    rw[mB] at mB1;rw[mL] at mL1;rw[mC] at mC1;simp only[Option.map_some,List.map_cons,List.map_nil,hBm] at mB1 mC1;simp only[Option.map_some,List.map_map,Function.comp_def,pK hφ] at mL1;refine J.subX (X:=L) (rows':=(ps.map (·.1)).map (ea b)) mL1 (by simp) (fun i e e' he he'=>?_) ?_
    · rw[List.getElem?_map] at he
      rw[List.map_map,List.getElem?_map] at he';cases hpi:ps[i]? with
      | none=>rw[hpi] at he;cases he
      | some p=>
        rw[hpi] at he he';simp only[Option.map_some,Option.some.injEq,Function.comp] at he he';subst he he';exact A7 (hsub (p.2,p.1.code) (List.mem_map.2 ⟨p,List.mem_of_getElem? hpi,rfl⟩))
    have hLn:∀ i ∈ [C,(0,1)],i ≠ L:=fun i hi h=>hLi (h ▸ hi)
    refine J.cut (fun O H n=>O 1 = .ptr (0,1) 1 0 0/\O 3 = .ptr C 1 0 0/\O 4 = .arr L ps.length 0 ps.length/\O 24=int b.nodes.length/\O 25=int m/\H (0,1)=some ⟨6,[aG.cells false b]⟩/\(∃ cs,H C=some ⟨9,[cs]⟩/\cs.length=9)/\H L=some ⟨10,(bQ b m).map (ea b)⟩/\Sep H n [] [L,C,(0,1)])
      ⟨by simp only[r1];exact (hptr _ (by simp) _ _ _).1,by simp only[r3];exact (hptr _ (by simp) _ _ _).1,by simp only[r4];exact (hptr _ (by simp) _ _ _).2,by simp only[r24];exact hφ _ (.v _),by simp only[r25];exact hφ _ (.v _),by rw[Heap.aD _ _ (hLn _ (by simp))];exact mB1,⟨cs.map φ,by rw[Heap.aD _ _ (hLn _ (by simp))];exact mC1,by simp[hcs]⟩,by rw[Heap.a8,hps],Sep.bG sp1 (by simp)⟩ ?_
    have hpl:ps.length=(bQ b m).length:=by rw[<- hps];simp
    rw[hpl];clear r1 r3 r4 r24 r25 mB mC mL M mB1 mC1 mL1 sp1 fr1 hsub hptr hφ spE hps hpl hBm;clear ps;rintro O H n ⟨r1,r3,r4,r24,r25,mB,mC,mL,M⟩;refine zE fun _ V=>?_
    simp[r25];apply V;refine zE fun _ V=>?_
    simp;apply V;have hnN:∀ i ∈ [L,C,(0,1)],i ≠ (n,28):=fun i hi h=>by have:=M.1 i hi;rw[h] at this;simp at this
    obtain⟨cs,mC,hcs⟩:=mC;have mN1:=Heap.a8 H (n,28) ⟨10,[]⟩;have mB1:(H.set (n,28) ⟨10,[]⟩) (0,1)=some ⟨6,[aG.cells false b]⟩:=by rw[Heap.aD _ _ (hnN _ (by simp))];exact mB
    have mC1:(H.set (n,28) ⟨10,[]⟩) C=some ⟨9,[cs]⟩:=by rw[Heap.aD _ _ (hnN _ (by simp))];exact mC
    have mL1:(H.set (n,28) ⟨10,[]⟩) L=some ⟨10,(bQ b m).map (ea b)⟩:=by rw[Heap.aD _ _ (hnN _ (by simp))];exact mL
    have sp1:=Sep.var (d:=28) (o:=⟨10,[]⟩) M;generalize H.set (n,28) ⟨10,[]⟩=H1 at mN1 mB1 mC1 mL1 sp1;refine zS fun _ V=>?_
    simp[r4,mL1];apply V;refine J.block (J.bM (bQ b m).length (fun i O H n=>∃ (ai:Id) (qs:List dm),O 1 = .ptr (0,1) 1 0 0/\O 3 = .ptr C 1 0 0/\O 5=int m/\O 6 = .arr ai qs.length 0 qs.length/\O 24=int b.nodes.length/\O 25=int m/\O 29 = .arr L (bQ b m).length 0 (bQ b m).length/\O 30=int (bQ b m).length/\O 31=int i /\
        H (0,1)=some ⟨6,[aG.cells false b]⟩/\(∃ cs,H C=some ⟨9,[cs]⟩/\cs.length=9)/\H L=some ⟨10,(bQ b m).map (ea b)⟩/\H ai=some ⟨10,qs.map (bP b)⟩/\ai ∉ [L,C,(0,1)]/\qs.map (·.1)=((bQ b m).take i).flatMap (fj b)/\Sep H n (dX qs) [ai,L,C,(0,1)])
      ⟨(n,28),[],by simp[r1],by simp[r3],by simp,by simp,by simp[r24],by simp[r25],by simp,by simp,by simp,mB1,⟨cs,mC1,hcs⟩,mL1,mN1,fun h=>hnN _ h rfl,by simp,sp1⟩ ?_)
    clear V r1 r3 r4 r24 r25 mB mC mL M mN1 mB1 mC1 mL1 sp1 hnN hcs;clear cs;rintro i O H n hi ⟨ai,qs,r1,r3,r5,r6,r24,r25,r29,r30,r31,mB,mC,mL,mM,hMi,hqs,M⟩ IH1;refine zE fun _ V=>?_
    simp[r30,r31];apply V;apply J.seq;refine J.ite rfl (fun hc2=>?_) (fun hc2=>?_)
    · have hc2:i<(bQ b m).length:=by simpa using hc2
      apply zK;apply J.block;have ha:=hok _ (List.getElem_mem hc2);have htk:((bQ b m).take (i+1)).flatMap (fj b)=((bQ b m).take i).flatMap (fj b)++fj b (bQ b m)[i]:=by rw[<- List.take_append_getElem hc2,List.flatMap_append];simp
      have hrow:((bQ b m).map (ea b))[i]?=some (ea b (bQ b m)[i]):=by rw[List.getElem?_map,List.getElem?_eq_getElem hc2];rfl
      generalize ham:(bQ b m)[i]=a at ha htk hrow;refine zE fun _ V=>?_
      simp[r29,r31,mL,hc2,hrow,ham,ea,bP,cw,aG.cells,bB,encI,encS,bH];apply V;have hnX:∀ i ∈ [ai,L,C,(0,1)],i ≠ (n,8):=fun i hi h=>by have:=M.1 i hi;rw[h] at this;simp at this
      obtain⟨cs,mC,hcs⟩:=mC;refine J.cut (fun O H n'=>O 1 = .ptr (0,1) 1 0 0/\O 3 = .ptr C 1 0 0/\O 5=int m/\O 6 = .arr ai qs.length 0 qs.length/\O 8 = .ptr (n,8) 1 0 0/\O 24=int b.nodes.length/\O 25=int m/\O 29 = .arr L (bQ b m).length 0 (bQ b m).length/\O 30=int (bQ b m).length/\O 31=int i /\
        H (0,1)=some ⟨6,[aG.cells false b]⟩/\(∃ cs,H C=some ⟨9,[cs]⟩/\cs.length=9)/\H L=some ⟨10,(bQ b m).map (ea b)⟩/\H ai=some ⟨10,qs.map (bP b)⟩/\H (n,8)=some ⟨10,[ea b a]⟩/\n<n'/\Sep H n' (dX qs) [(n,8),ai,L,C,(0,1)])
        ⟨by simp[r1],by simp[r3],by simp[r5],by simp[r6],by simp,by simp[r24],by simp[r25],by simp[r29],by simp[r30],by simp[r31],by rw[Heap.aD _ _ (hnX _ (by simp))];exact mB,⟨cs,by rw[Heap.aD _ _ (hnX _ (by simp))];exact mC,hcs⟩,by rw[Heap.aD _ _ (hnX _ (by simp))];exact mL,by rw[Heap.aD _ _ (hnX _ (by simp))];exact mM,by simp[ea,bP,cw,aG.cells,bB,encI,encS,bH],by omega,Sep.var M⟩ ?_
      clear V r1 r3 r5 r6 r24 r25 r29 r30 r31 mB mC mL mM M hcs;clear cs;generalize hXe:(n,8)=X at hnX;rintro O H n' ⟨r1,r3,r5,r6,r8,r24,r25,r29,r30,r31,mB,mC,mL,mM,mX,hnn,M⟩;refine zE fun _ V=>?_
      have f1:=fun H=>aQ (H:=H) (fr:=false) (f:=ay.cells false) (l:=b.nodes) cJ rfl
      simp[r1,mB,aG.cells,bB,f1,-aJ];apply V;refine J.block (J.bM b.nodes.length (fun j O H n=>∃ (ai:Id) (qs:List dm),O 1 = .ptr (0,1) 1 0 0/\O 3 = .ptr C 1 0 0/\O 5=int m/\O 6 = .arr ai qs.length 0 qs.length/\O 8 = .ptr X 1 0 0/\O 24=int b.nodes.length/\O 25=int m/\O 29 = .arr L (bQ b m).length 0 (bQ b m).length/\O 30=int (bQ b m).length/\O 31=int i /\
        O 36 = .list false (b.nodes.map (ay.cells false))/\O 37=int b.nodes.length/\O 38=int j /\
        H (0,1)=some ⟨6,[aG.cells false b]⟩/\(∃ cs,H C=some ⟨9,[cs]⟩/\cs.length=9)/\H L=some ⟨10,(bQ b m).map (ea b)⟩/\H ai=some ⟨10,qs.map (bP b)⟩/\H X=some ⟨10,[ea b a]⟩/\ai ∉ [L,C,(0,1)]/\X ∉ [ai,L,C,(0,1)]/\qs.map (·.1)=((bQ b m).take i).flatMap (fj b)++jf b a j/\Sep H n (dX qs) [X,ai,L,C,(0,1)])
        ⟨ai,qs,by simp[r1],by simp[r3],by simp[r5],by simp[r6],by simp[r8,hXe],by simp[r24],by simp[r25],by simp[r29],by simp[r30],by simp[r31],by simp,by simp,by simp,mB,mC,mL,mM,hXe ▸ mX,hMi,fun h=>hnX _ h rfl,by rw[hqs];simp[jf],hXe ▸ M⟩ ?_)
      clear V f1 r1 r3 r5 r6 r8 r24 r25 r29 r30 r31 mB mC mL mM mX M hqs hMi hnX hXe hnn;clear qs ai;rintro j O H n hj ⟨ai,qs,r1,r3,r5,r6,r8,r24,r25,r29,r30,r31,r36,r37,r38,mB,mC,mL,mM,mX,hMi,hXi,hqs,M⟩ IH2;refine zE fun _ V=>?_
      simp[r37,r38];apply V;apply J.seq;refine J.ite rfl (fun hc3=>?_) (fun hc3=>?_)
      · have hc3:j<b.nodes.length:=by simpa using hc3
        apply zK;apply J.block;have hjr:0<=(j:Int)/\(j:Int)<b.nodes.length:=⟨by omega,by omega⟩
        refine zE fun _ V=>?_
        have f1:=fun H=>aR (H:=H) (fr:=false) (f:=ay.cells false) (k:=.i64) (l:=b.nodes) (i:=(j:Int)) cJ (fun _=>rfl) hjr rfl
        simp[r36,r38,f1,ay.cells,encI,-ar];apply V;have hS:AX b C L ai X m i j (bQ b m).length qs.length ((bQ b m).map (ea b)) (qs.map (bP b)) (ea b a) O H:=⟨r1,r3,r5,r6,r8,r24,r25,r29,r30,r31,r36,r37,r38,mB,mC,mL,mM,mX⟩
        have hnY:∀ i ∈ [X,ai,L,C,(0,1)],i ≠ (n,10):=fun i hi h=>by have:=M.1 i hi;rw[h] at this;simp at this
        generalize hx:at' b.nodes (j:Int)=x;refine J.cut (fun O H n'=>AX b C L ai X m i j (bQ b m).length qs.length ((bQ b m).map (ea b)) (qs.map (bP b)) (ea b a) O H/\O 9=int j/\O 10 = .ptr (n,10) 1 0 0/\H (n,10)=some ⟨3,[ay.cells false x]⟩/\Sep H n' (dX qs) [(n,10),X,ai,L,C,(0,1)])
          ⟨hS.keep (by simp) (fun k hk=>Heap.aD _ _ (hnY k hk)),by simp,by simp,by simp[ay.cells,encI,<- hx],Sep.var M⟩ ?_
        clear V f1 hS r1 r3 r5 r6 r8 r24 r25 r29 r30 r31 r36 r37 r38 mB mC mL mM mX M;generalize hYe:(n,10)=ak at hnY;clear hYe;rintro O H n ⟨hS,r9,N,mY,M⟩;refine J.Ec (fun ρ' H' n'=>AX b C L ai X m i j (bQ b m).length qs.length ((bQ b m).map (ea b)) (qs.map (bP b)) (ea b a) ρ' H'/\ρ' 9=int j/\cY b a.s.pl (j:Int)=true/\Sep H' n' (dX qs) [X,ai,L,C,(0,1)]) (fun fin=>?_) ?_
        rotate_left
        · rintro O H n ⟨hS,r9,hfr,M⟩
          have hnZ:∀ i ∈ [X,ai,L,C,(0,1)],i ≠ (n,11):=fun i hi h=>by have:=M.1 i hi;rw[h] at this;simp at this
          have hol:a.order.length+1<=1073741824:=by have:=ha.ord;omega
          refine J.xc (fun H n=>H X=some ⟨10,[ea b a]⟩) [9,10] (.free 0 (.free 1 (.free 2 (.free 3 (.free 4 (.free 5 (.free 6 (.free 7 (.free 8 (.aP 9 (.aP 10 .fin .stop) .stop))))))))))
            (fun ρ' H' n'=>AX b C L ai X m i j (bQ b m).length qs.length ((bQ b m).map (ea b)) (qs.map (bP b)) (ea b a) ρ' H'/\ρ' 9=int j/\ρ' 11 = .ptr (n,11) 1 0 0/\H' (n,11)=some ⟨10,[cw (some (.list true ((a.order++[(j:Int)]).map au))) b (.list true (a.s.es.map au)) (.list true (a.s.pl.map au)) (.list true (a.code.map au))]⟩/\Sep H' n' (dX qs) [(n,11),X,ai,L,C,(0,1)]) bL (by decide) (by kernel_rfl) ?_ ?_
          · refine RunT.free (.ptr X 1 0 0) rfl rfl hS.mX (fun H n hX=>aA av (by rw[ax];simp[hS.r8,hX])) ?_
            refine RunT.free (.list true (a.order.map au)) rfl rfl hS.mX (fun H n hX=>aA av (by rw[ax];simp[hX,ea,bP,cw])) ?_;refine RunT.free (.clip true (a.order.map lV)) rfl rfl hS.mX (fun H n hX=>aI.stillD (p0 true a.order H n) e116 (by simp) (by simp)) ?_;refine RunT.free (int j) rfl rfl hS.mX (fun H n hX=>aA av (by rw[ax];simp[r9])) ?_;refine RunT.free (.list true [[int j]]) rfl rfl hS.mX (fun H n hX=>aA av (by rw[ax];simp[List.range_succ])) ?_;refine RunT.free (.list true ((a.order++[(j:Int)]).map au)) rfl rfl hS.mX (fun H n hX=>aI.Dn (t':=true) (fr:=true) (l:=a.order) (m:=[(j:Int)]) av aO ⟨rfl,rfl,by decide⟩ (by simp) (by simp[au]) (by simp) (by simpa using hol)) ?_;refine RunT.free (.ptr X 1 0 1) rfl rfl hS.mX (fun H n hX=>aA av (by rw[ax];simp[hS.r8,hX])) ?_;refine RunT.free (.agg (cw none b (.list true (a.s.es.map au)) (.list true (a.s.pl.map au)) (.list true (a.code.map au)))) rfl rfl hS.mX (fun H n hX=>aA av (by rw[ax];simp[hX,ea,bP,cw,aG.cells])) ?_;refine RunT.free (.agg (cw (some (.list true ((a.order++[(j:Int)]).map au))) b (.list true (a.s.es.map au)) (.list true (a.s.pl.map au)) (.list true (a.code.map au)))) rfl rfl hS.mX (fun H n hX=>aA av (by rw[ax];simp[cw,aG.cells,bB,encI,encS,bH])) ?_;refine⟨?_,trivial⟩;refine RunT.step (v:=.ptr (n,11) 1 0 0) (H':=H.set (n,11) ⟨10,[[.v (.slice none 0 0),int 0,.v (.slice none 0 0),.v (.slice none 0 0),int 0,.v (.slice none 0 0),.v (.slice none 0 0),.v (.slice none 0 0),.v (.slice none 0 0),.v (.slice none 0 0)]]⟩) (n':=n+1) av rfl rfl (by simp) (fun _=>by rw[Heap.aD _ _ (hnZ X (by simp))];exact hS.mX) ?_;refine⟨?_,trivial⟩;refine RunT.step (v:=.undef) (H':=H.set (n,11) ⟨10,[cw (some (.list true ((a.order++[(j:Int)]).map au))) b (.list true (a.s.es.map au)) (.list true (a.s.pl.map au)) (.list true (a.code.map au))]⟩) (n':=n+1) av rfl rfl ?_ (fun hl=>absurd (hl.symm.trans (show ba _ _ _=true by kernel_rfl)) (by decide)) ?_
            · simp[cw,aG.cells,bB,encI,encS,bH]
            exact RunT.fin ⟨hS.keep (by simp) (fun k hk=>Heap.aD _ _ (hnZ k hk)),by simp[r9],by simp,Heap.a8 _ _ _,Sep.var M⟩
          · generalize hZe:(n,11)=Z at hnZ
            clear hZe hS M;rintro O H n ⟨hS,r9,u,mZ,M⟩;refine zE fun _ V=>?_
            simp[hS.r5,r9,u,mZ];have hE:=ha.s.es;have hcl:=ha.code;have h3:=hv.fB hjr;have hZi:Z ∉ [X,ai,L,C,(0,1)]:=fun h=>hnZ _ h rfl
            refine bw.vj av (node_c (o:=some (.list true ((a.order++[(j:Int)]).map au))) (g:=1) (idx:=0) (k:=(j:Int)) (num:=(m:Int)) (code:=a.code) mZ rfl rfl (Sub.refl _) hjr (by rw[ha.s.pl];omega) (by rw[ha.s.pl];have:=(hv.jK hjr).2;omega) (hv.i64par hjr) (fun h0=>ha.s.at ⟨h0,by rw[ha.s.pl];have:=(hv.jK hjr).2;omega⟩) (hv.i64lnk hjr) (by omega) (by omega) (by rw[ha.s.pl];omega) hZi M) e117 (by decide) (by decide) rfl (by simp[cZ]) ?_;rintro v1 H1 U ⟨vp,vc1,mZ1,sp1,fr1,hn1⟩;simp;apply V;have hpe:a.s.pl.set (j:Int).toNat (m:Int)=(bA b a.s j).pl:=by simp[bA,ha.s.num]
            rw[hpe] at sp1;generalize hat:(⟨a.order++[(j:Int)],bA b a.s j,a.code++(bj b a.s j).1⟩:fA)=at2;have mZ2:H1 Z=some ⟨10,[cw (some (.list true (at2.order.map au))) b (.list true (at2.s.es.map au)) vp vc1]⟩:=by rw[<- hat];exact mZ1
            have sp2:Sep H1 U (oI vp at2.s.pl::oI vc1 at2.code::dX qs) [Z,X,ai,L,C,(0,1)]:=by rw[<- hat];exact sp1
            refine J.cut (fun ρ' H' n'=>AX b C L ai X m i j (bQ b m).length qs.length ((bQ b m).map (ea b)) (qs.map (bP b)) (ea b a) ρ' H'/\ρ' 11 = .ptr Z 1 0 0/\H' Z=some ⟨10,[cw (some (.list true (at2.order.map au))) b (.list true (at2.s.es.map au)) vp vc1]⟩/\Sep H' n' (oI vp at2.s.pl::oI vc1 at2.code::dX qs) [Z,X,ai,L,C,(0,1)])
              ⟨hS.keep (by simp) fr1,by simp[u],mZ2,sp2⟩ ?_
            clear V hS r9 u mZ M mZ1 mZ2 sp1 sp2 fr1 hn1;rintro O H n ⟨hS,u,mZ,M⟩;have hAI:DH (oI vc1 at2.code::dX qs):=by
              intro e he;rcases List.mem_cons.1 he with rfl | he
              · exact⟨_,_,rfl⟩
              · obtain⟨q,_,rfl⟩:=List.mem_map.1 he;exact⟨_,_,rfl⟩
            refine J.fzS M hAI fun H1 φ sp1 fr1 hφ hkv hptr hsub=>?_
            have hvc:φ vc1=vc1:=hkv (oI vc1 at2.code) (by simp);have hvq:∀ q ∈ qs,φ q.2=q.2:=fun q hq=>hkv (oI q.2 q.1.code) (List.mem_cons_of_mem _ (List.mem_map.2 ⟨q,hq,rfl⟩))
            have hrl:∀ a:fA,(ea b a).map φ=ea b a:=fun a=>by rw[ea,pK hφ,hφ _ (zg _)]
            have hS1:=hS.fz (by simp) fr1 hφ hptr (by rw[List.map_map];exact List.map_congr_left fun a _=>hrl a) (by rw[List.map_map];exact List.map_congr_left fun q hq=>by rw[Function.comp,pK hφ,hvq q hq]) (hrl a);have mZ1:=fr1 Z (by simp);rw[mZ] at mZ1;simp only[Option.map_some,List.map_cons,List.map_nil,xW hφ (zg _) (.inr trivial),hφ _ (zg _),hvc] at mZ1;refine J.subX (X:=Z) (rows':=[bP b (at2,vc1)]) mZ1 rfl (fun i e e' he he'=>?_) ?_
            · match i with
              | 0=>
                simp only[List.getElem?_cons_zero,Option.some.injEq] at he he';subst he he';exact iK.append (.refl _) (iK.append (.refl _) (.cons (.refl _) (.cons hsub (.refl _))))
              | i+1=>simp at he
            refine J.cut (fun ρ' H' n'=>AX b C L ai X m i j (bQ b m).length qs.length ((bQ b m).map (ea b)) (qs.map (bP b)) (ea b a) ρ' H'/\ρ' 11 = .ptr Z 1 0 0/\H' Z=some ⟨10,[bP b (at2,vc1)]⟩/\Sep H' n' (oI vc1 at2.code::dX qs) [Z,X,ai,L,C,(0,1)])
              ⟨hS1.keep (fun _ _=>rfl) (fun k hk=>Heap.aD _ _ (show k ≠ Z from fun h=>hZi (h ▸ hk))),by simp only[u];exact (hptr _ (by simp) _ _ _).1,Heap.a8 _ _ _,Sep.bG sp1 (by simp)⟩ ?_
            clear hS u mZ M hS1 mZ1 sp1 fr1 hkv hsub hvc hvq hrl hptr hφ hAI;rintro O H n ⟨hS,u,mZ,M⟩;have hoc:=Sep.oc M;have hbig:qs.length+1<=1073741824:=by
              have e1:qs.length=(((bQ b m).take i).flatMap (fj b)++jf b a j).length:=by rw[<- hqs];simp
              have e2:=ml hn8 ((bQ b m).take i);have e3:=jL hn8 m;have e4:(jf b a j).length<=j:=by
                have:=List.length_filter_le (cY b a.s.pl) ((List.range j).map fun i:Nat=>(i:Int));simpa[jf] using this
              have e5:8 ^ m<=8 ^ 8:=Nat.pow_le_pow_right (by omega) (by omega);have e6:(8:Nat) ^ 8=16777216:=by decide
              have e7:((bQ b m).take i).length<=(bQ b m).length:=by simp;omega
              rw[List.length_append] at e1;omega
            refine zF fun _ V=>?_
            simp[hS.r6,u,mZ,hS.mM,bP,cw,aG.cells,bB,encI,encS,bH,hoc,List.range_succ,hbig,-az,-aF,bR,bl];apply V;refine zI fun _ V=>?_
            have f2:=aV (show bu ((j:Int)+1) by simp only[bu];omega) (show ((j+1:Nat):Int)=(j:Int)+1 by omega);simp[hS.r38,f2,-aw];apply V;have hMn:∀ k ∈ [L,C,(0,1)],k ≠ ai:=fun k hk h=>hMi (h ▸ hk)
            have hXM:X ≠ ai:=fun h=>hXi (by simp[h])
            obtain⟨cs,mC,hcs⟩:=hS.mC;refine IH2 hc3 _ _ _ ⟨ai,qs++[(at2,vc1)],by simp[hS.r1],by simp[hS.r3],by simp[hS.r5],by simp,by simp[hS.r8],by simp[hS.r24],by simp[hS.r25],by simp[hS.r29],by simp[hS.r30],by simp[hS.r31],by simp[hS.r36],by simp[hS.r37],by simp,by rw[Heap.aD _ _ (hMn _ (by simp))];exact hS.mB,⟨cs,by rw[Heap.aD _ _ (hMn _ (by simp))];exact mC,hcs⟩,by rw[Heap.aD _ _ (hMn _ (by simp))];exact hS.mL,by simp[bP,cw,aG.cells,bB,encI,encS,bH],by rw[Heap.aD _ _ hXM];exact hS.mX,hMi,hXi,by rw[List.map_append,hqs,AG hfr,hat];simp,?_⟩;have:=Sep.sub (dO:=[X,ai,L,C,(0,1)]) (Sep.bG (w:=ai) (o:=⟨10,qs.map (bP b)++[bP b (at2,vc1)]⟩) (Sep.nw M) (by simp)) (by simp +contextual);simpa[dX,bP,cw,aG.cells,bB,encI,encS,bH] using this
        refine zE fun _ V=>?_
        have hol:a.order.length<=1048576:=by have:=ha.ord;omega
        have hcon:∀ y:Int,aC prog 86 [.list false (a.order.map au),int y] (fun r=>r=bool (decide (y ∈ a.order))):=fun y=>by
          have:=nQ a.order y hol;have e:(a.order.any fun z=>y == z)=decide (y ∈ a.order):=by
            rw[Bool.eq_iff_iff];simp
          rw[e] at this;exact this
        have hfree:cY b a.s.pl (j:Int)=(decide ((j:Int) ∉ a.order) && (decide (x.parent<0) || decide (x.parent ∈ a.order))):=by
          have h1:=ha.mem j hjr;rw[cY,hx];have e1:decide (at' a.s.pl (j:Int)<0)=decide ((j:Int) ∉ a.order):=by
            rw[Bool.eq_iff_iff];simp only[decide_eq_true_eq];rw[h1];omega
          rw[e1]
          by_cases h2:x.parent<0
          · simp[h2]
          · have h3:=hv.jK hjr
            rw[hx] at h3;have h4:=ha.mem x.parent ⟨by omega,by omega⟩;have e2:decide (0<=at' a.s.pl x.parent)=decide (x.parent ∈ a.order):=by
              rw[Bool.eq_iff_iff];simp only[decide_eq_true_eq];exact h4.symm
            rw[e2]
        simp[hS.r8,hS.mX,ea,bP,cw,aG.cells,r9];refine zA (hcon j) e86 (.cons (aM.pC (fr:=true) (els:=a.order.map au) (by simp[au])) (.cons (.v _ _ _) .nil)) (by simp) ?_;rintro _ rfl
        by_cases h1:(j:Int) ∈ a.order
        · have hf:cY b a.s.pl (j:Int)=false:=by rw[hfree];simp[h1]
          simp[h1];apply V;refine J.ite rfl (fun _=>?_) (fun h=>by cases h);refine J.exit rfl ?_;refine zF fun _ V=>?_
          have f2:=aV (show bu ((j:Int)+1) by simp only[bu];omega) (show ((j+1:Nat):Int)=(j:Int)+1 by omega);simp[hS.r38,f2,-aw];apply V;exact IH2 hc3 _ _ _ ⟨ai,qs,by simp[hS.r1],by simp[hS.r3],by simp[hS.r5],by simp[hS.r6],by simp[hS.r8],by simp[hS.r24],by simp[hS.r25],by simp[hS.r29],by simp[hS.r30],by simp[hS.r31],by simp[hS.r36],by simp[hS.r37],by simp,hS.mB,hS.mC,hS.mL,hS.mM,hS.mX,hMi,hXi,by rw[hqs,tS hf],Sep.sub M (by simp +contextual)⟩
        by_cases h2:0<=x.parent
        · simp[h1,h2,hS.r8,hS.mX,r9,N,mY,ay.cells,ea,bP,cw,aG.cells]
          refine zA (hcon x.parent) e86 (.cons (aM.pC (fr:=true) (els:=a.order.map au) (by simp[au])) (.cons (.v _ _ _) .nil)) (by simp) ?_;rintro _ rfl
          by_cases h3:x.parent ∈ a.order
          · simp[h3]
            apply V;refine J.ite rfl (fun h=>by cases h) (fun _=>?_);apply J.skip;exact fin _ _ _ ⟨hS.keep (by simp) (fun _ _=>rfl),by simp[r9],by rw[hfree];simp[h1,h3],Sep.sub M (by simp +contextual)⟩
          · have hf:cY b a.s.pl (j:Int)=false:=by rw[hfree];simp[h1,h3];omega
            simp[h3];apply V;refine J.ite rfl (fun _=>?_) (fun h=>by cases h);refine J.exit rfl ?_;refine zF fun _ V=>?_
            have f2:=aV (show bu ((j:Int)+1) by simp only[bu];omega) (show ((j+1:Nat):Int)=(j:Int)+1 by omega);simp[hS.r38,f2,-aw];apply V;exact IH2 hc3 _ _ _ ⟨ai,qs,by simp[hS.r1],by simp[hS.r3],by simp[hS.r5],by simp[hS.r6],by simp[hS.r8],by simp[hS.r24],by simp[hS.r25],by simp[hS.r29],by simp[hS.r30],by simp[hS.r31],by simp[hS.r36],by simp[hS.r37],by simp,hS.mB,hS.mC,hS.mL,hS.mM,hS.mX,hMi,hXi,by rw[hqs,tS hf],Sep.sub M (by simp +contextual)⟩
        · simp[h1,h2,hS.r8,hS.mX,r9,N,mY,ay.cells,ea,bP,cw,aG.cells]
          apply V;refine J.ite rfl (fun h=>by cases h) (fun _=>?_);apply J.skip;exact fin _ _ _ ⟨hS.keep (by simp) (fun _ _=>rfl),by simp[r9],by rw[hfree];simp[h1];omega,Sep.sub M (by simp +contextual)⟩
      · have hc4:¬ j<b.nodes.length:=by simpa using hc3
        have hc5:j=b.nodes.length:=by omega
        subst hc5;refine J.exit rfl ?_;refine zI fun _ V=>?_
        have hb8:(bQ b m).length<=16777216:=by
          have e3:=jL hn8 m;have e5:8 ^ m<=8 ^ 8:=Nat.pow_le_pow_right (by omega) (by omega);have e6:(8:Nat) ^ 8=16777216:=by decide
          omega
        have f2:=aV (show bu ((i:Int)+1) by simp only[bu];omega) (show ((i+1:Nat):Int)=(i:Int)+1 by omega);simp[r31,f2,-aw];apply V;exact IH1 hc2 _ _ _ ⟨ai,qs,by simp[r1],by simp[r3],by simp[r5],by simp[r6],by simp[r24],by simp[r25],by simp[r29],by simp[r30],by simp,mB,mC,mL,mM,hMi,by rw[hqs,htk,AR],Sep.sub M (by simp +contextual)⟩
    · have hc4:¬ i<(bQ b m).length:=by simpa using hc2
      have hc5:i=(bQ b m).length:=by omega
      subst hc5;refine J.exit rfl ?_;rw[List.take_length] at hqs;refine zF fun _ V=>?_
      simp[r6];have hb8:qs.length<=134217728:=by
        have e1:qs.length=((bQ b m).flatMap (fj b)).length:=by rw[<- hqs];simp
        have e2:=ml hn8 (bQ b m);have e3:=jL hn8 m;have e5:8 ^ m<=8 ^ 8:=Nat.pow_le_pow_right (by omega) (by omega);have e6:(8:Nat) ^ 8=16777216:=by decide
        omega
      have hqo:∀ q ∈ qs,tO b (m+1) q.1:=fun q hq=>by
        have h1:q.1 ∈ (bQ b m).flatMap (fj b):=by rw[<- hqs];exact List.mem_map.2 ⟨q,hq,rfl⟩
        obtain⟨a,ha,h2⟩:=List.mem_flatMap.1 h1;exact rH hv (by omega) (hok a ha) h2
      have hqn:qs ≠ []:=by
        intro h;have h1:(bQ b m).flatMap (fj b)=[]:=by rw[<- hqs,h];rfl
        exact Dl he hdn hc1 h1
      refine bw.vj av (rS (K:=[]) hqn mM (fun q hq=>by have:=(hqo q hq).code;omega) (by omega) (by simpa using M) hMi) e118 (by decide) (by decide) rfl (by simp) ?_;rintro _ H1 U ⟨ae,rfl,mO,hO,sp1,fr1,hn1⟩;simp;apply V;refine zI fun _ V=>?_
      have f2:=aV (show bu ((m:Int)+1) by simp only[bu];omega) (show ((m+1:Nat):Int)=(m:Int)+1 by omega);simp[r25,f2,-aw];apply V;obtain⟨cs,mC,hcs⟩:=mC;refine IH hc1 _ _ _ ⟨ae,dk qs,by simp[r1],by simp[r3],by simp,by simp[r24],by simp,(fr1 _ (by simp)).trans mB,⟨cs,(fr1 _ (by simp)).trans mC,hcs⟩,mO,fun h=>hO (by simp at h ⊢;rcases h with h | h<;>simp[h]),by rw[o6,hqs];rfl,?_⟩;have h1:=Sep.sublist (List.Sublist.map (fun p:dm=>oI p.2 p.1.code) (gH qs)) [] (by simpa[dX] using sp1);exact Sep.sub h1 (by simp +contextual)
  · have hc4:¬ m<b.nodes.length:=by simpa using hc1
    have hc5:m=b.nodes.length:=by omega
    subst hc5;have hok:=lG hv b.nodes.length (Nat.le_refl _);refine J.exit rfl ?_;refine zS fun _ V=>?_
    simp[r4,mL];apply V;have hlen:ps.length=(bQ b b.nodes.length).length:=by rw[<- hps];simp
    have hb8:ps.length<=16777216:=by
      have e3:=jL hn8 b.nodes.length;have e5:8 ^ b.nodes.length<=8 ^ 8:=Nat.pow_le_pow_right (by omega) (by omega);have e6:(8:Nat) ^ 8=16777216:=by decide
      omega
    refine J.block (J.bM ps.length (fun i O H n=>∃ qs:List dm,O 1 = .ptr (0,1) 1 0 0/\O 3 = .ptr C 1 0 0/\O 4 = .arr L ps.length 0 ps.length/\O 83=int ps.length/\O 84=int i/\H (0,1)=some ⟨6,[aG.cells false b]⟩/\(∃ cs,H C=some ⟨9,[cs]⟩/\cs.length=9) /\
        H L=some ⟨10,qs.map (bP b)⟩/\qs.length=ps.length/\qs.map (·.1)=((bQ b b.nodes.length).take i).map (cS b)++(bQ b b.nodes.length).drop i/\Sep H n (dX qs) [L,C,(0,1)])
      ⟨ps,by simp[r1],by simp[r3],by simp[r4],by simp,by simp,mB,mC,mL,rfl,by simpa using hps,M⟩ ?_)
    clear V r1 r3 r4 r24 r25 mB mC mL M IH;rintro i O H n hi ⟨qs,r1,r3,r4,G,F,mB,mC,mL,hql,hqs,M⟩ IH;refine zE fun _ V=>?_
    simp[G,F];apply V;apply J.seq;refine J.ite rfl (fun hc2=>?_) (fun hc2=>?_)
    · have hc2:i<ps.length:=by simpa using hc2
      apply zK;apply J.block;refine zE fun _ V=>?_
      simp[F];apply V;refine zF fun _ V=>?_
      have hiq:i<qs.length:=by omega
      have hrow:(qs.map (bP b))[i]?=some (bP b qs[i]):=by rw[List.getElem?_map,List.getElem?_eq_getElem hiq];rfl
      have hil:i<(bQ b b.nodes.length).length:=by omega
      have hat:qs[i].1=(bQ b b.nodes.length)[i]:=by
        have h1:(qs.map (·.1))[i]?=some qs[i].1:=by rw[List.getElem?_map,List.getElem?_eq_getElem hiq];rfl
        rw[hqs,List.getElem?_append_right (by simp;omega)] at h1;have h2:i - (((bQ b b.nodes.length).take i).map (cS b)).length=0:=by simp;omega
        rw[h2,List.getElem?_drop,Nat.add_zero,List.getElem?_eq_getElem hil] at h1
        injection h1 with h1
        exact h1.symm
      have ha:=hok _ (List.getElem_mem hil);rw[<- hat] at ha;have hsplit:=vL hiq;rw[hsplit] at M;simp[r4,mL,hql,hc2,hiq];have hE:=ha.s.es;have hcl:=ha.code;have hs4:=hv.slen;have hi16:=hv.inner;refine bw.vj av (rest_c (o:=some (.list true (qs[i].1.order.map au))) (g:=ps.length) (idx:=i) (code:=qs[i].1.code) mL (by simp[hql]) hrow (fun p hp=>by
        have h1:=hv.sites p hp;have h2:=hv.roots;exact⟨by rw[ha.s.pl];omega,⟨by omega,by omega⟩,fun h0=>ha.s.at ⟨h0,by rw[ha.s.pl];omega⟩⟩) (fun w hw=>by
        have h1:=hv.wires w hw;have h2:=hv.edges;have h3:=hv.outer;exact⟨by omega,by omega⟩) (by omega) (by omega) hLi (Sep.front M)) e119 (by decide) (by decide) rfl (by simp[cZ]) ?_
      rintro v1 H1 U ⟨vc1,mL1,sp1,fr1,hn1⟩;simp;apply V;refine zI fun _ V=>?_
      have f2:=aV (show bu ((i:Int)+1) by simp only[bu];omega) (show ((i+1:Nat):Int)=(i:Int)+1 by omega);simp[F,f2,-aw];apply V;obtain⟨cs,mC,hcs⟩:=mC;refine IH hc2 _ _ _ ⟨qs.set i (cS b qs[i].1,vc1),by simp[r1],by simp[r3],by simp[r4],by simp[G],by simp,(fr1 _ (by simp)).trans mB,⟨cs,(fr1 _ (by simp)).trans mC,hcs⟩,?_,by simp[hql],?_,?_⟩
      · rw[List.map_set];exact mL1
      · rw[List.map_set,hqs,List.set_append_right _ _ (by simp;omega)]
        have h2:i - (((bQ b b.nodes.length).take i).map (cS b)).length=0:=by simp;omega
        rw[h2,hat,List.drop_eq_getElem_cons hil,List.set_cons_zero,<- List.take_append_getElem hil,List.map_append];simp
      · rw[uQ hiq]
        exact Sep.DQ sp1
    · have hc3:¬ i<ps.length:=by simpa using hc2
      have hc5:i=ps.length:=by omega
      subst hc5;refine J.exit rfl ?_;have hqs2:qs.map (·.1)=(bQ b b.nodes.length).map (cS b):=by rw[hqs,hlen,List.take_length,List.drop_length,List.append_nil]
      have hqn:qs ≠ []:=by
        intro h;have h1:(bQ b b.nodes.length).map (cS b)=[]:=by rw[<- hqs2,h];rfl
        exact (lU he hdn b.nodes.length (Nat.le_refl _)).2 (List.map_eq_nil_iff.1 h1)
      have hqo:∀ q ∈ qs,q.1.code.length<=1048576/\q.1.order.length<=1048576:=fun q hq=>by
        have h1:q.1 ∈ (bQ b b.nodes.length).map (cS b):=by rw[<- hqs2];exact List.mem_map.2 ⟨q,hq,rfl⟩
        obtain⟨a,ha,h2⟩:=List.mem_map.1 h1;have h3:=hok a ha;have h4:=h3.code;have h5:=h3.ord;have h6:=hv.slen;have h7:=hv.inner;have h8:(bF b a.s.es (b.inner.map fun w=>w.link)).1.length=(b.inner.map fun w=>w.link).length:=dz _ _;simp only[List.length_map] at h8;rw[<- h2];simp only[cS,gK,List.length_append,List.length_map];omega
      refine zE fun _ V=>?_
      rw[<- hql] at r4;simp[r4];refine bw.vj av (rS (K:=[]) hqn mL (fun q hq=>(hqo q hq).1) (by omega) (by simpa using M) hLi) e118 (by decide) (by decide) rfl (by simp) ?_;rintro _ H1 U ⟨ae,rfl,mO,hO,sp1,fr1,hn1⟩;simp;apply V;have hL2:(dk qs).map (·.1)=eW ((bQ b b.nodes.length).map (cS b)):=by rw[o6,hqs2]
      have hmem:∀ q ∈ dk qs,q ∈ qs:=fun q hq=>(gH qs).subset hq
      have hne2:0<(dk qs).length:=by
        have h1:=j9 (l:=(bQ b b.nodes.length).map (cS b)) (fun h=>hqn (List.map_eq_nil_iff.1 (hqs2.trans h)));rw[<- hL2] at h1;exact List.length_pos_iff.2 (fun h=>h1 (by rw[h];rfl))
      have sp2:=Sep.sublist (List.Sublist.map (fun p:dm=>oI p.2 p.1.code) (gH qs)) [] (by simpa[dX] using sp1);have hle:(dk qs).length<=16777216:=by have:=(gH qs).length_le;omega
      obtain⟨cs,mC,hcs⟩:=mC;refine J.cut (fun O H n=>O 3 = .ptr C 1 0 0/\O 4 = .arr ae (dk qs).length 0 (dk qs).length/\(∃ cs,H C=some ⟨9,[cs]⟩/\cs.length=9)/\H ae=some ⟨10,(dk qs).map (bP b)⟩/\ae ≠ C/\Sep H n (dX (dk qs)) [ae,C])
        ⟨by simp[r3],by simp,⟨cs,(fr1 _ (by simp)).trans mC,hcs⟩,mO,fun h=>hO (by simp[h]),Sep.sub sp2 (by simp +contextual)⟩ ?_
      clear V r1 r3 r4 G F mB mC mL M sp1 sp2 fr1 mO hO;rintro O H n ⟨r3,r4,mC,mO,hOC,M⟩;have hL3:(dk qs).map (·.1)=mr b:=hL2;have hco:∀ q ∈ dk qs,q.1.code.length<=1048576/\q.1.order.length<=1048576:=fun q hq=>hqo q (hmem q hq)
      clear hqn hqo hqs2 hqs hql hL2 hmem;generalize dk qs=ws at r4 mO M hne2 hle hL3 hco;have hrow0:(ws.map (bP b))[0]?=some (bP b ws[0]):=by rw[List.getElem?_map,List.getElem?_eq_getElem hne2];rfl
      have hoc:∀ q ∈ ws,Ab.aF q.2=true/\az q.2=some [q.2]:=fun q hq=>by
        have:=Sep.um M (v:=q.2) (l:=q.1.code) (List.mem_map.2 ⟨_,hq,rfl⟩);exact⟨this.1,this.2.1⟩
      have hoc0:=hoc _ (List.getElem_mem hne2);refine zE fun _ V=>?_
      simp[r4,mO,hne2,bP,cw,aG.cells,bB,encI,encS,bH,hoc0,-az,-aF,bR,bl];apply V;have hnW:∀ k ∈ [ae,C],k ≠ (n,13):=fun k hk h=>by have:=M.1 k hk;rw[h] at this;simp at this
      obtain⟨cs,mC,hcs⟩:=mC;apply J.seq;refine J.cut (fun ρ' H' n'=>ρ' 3 = .ptr C 1 0 0/\ρ' 4 = .arr ae ws.length 0 ws.length/\ρ' 13 = .ptr (n,13) 1 0 0/\(∃ cs,H' C=some ⟨9,[cs]⟩/\cs.length=9)/\H' ae=some ⟨10,ws.map (bP b)⟩/\H' (n,13)=some ⟨10,[bP b ws[0]]⟩/\Sep H' n' (dX ws) [(n,13),ae,C])
        ⟨by simp[r3],by simp[r4],by simp,⟨cs,by rw[Heap.aD _ _ (hnW _ (by simp))];exact mC,hcs⟩,by rw[Heap.aD _ _ (hnW _ (by simp))];exact mO,by simp[bP,cw,aG.cells,bB,encI,encS,bH],Sep.var M⟩ ?_
      clear V r3 r4 mC mO M hcs;clear cs;generalize hWe:(n,13)=W at hnW;clear hWe;rintro O H n ⟨r3,r4,t,mC,mO,mW,M⟩;refine zE fun _ V=>?_
      simp[r4,mO];apply V;refine J.block (J.bM ws.length (fun i O H n=>O 3 = .ptr C 1 0 0/\O 13 = .ptr W 1 0 0/\O 98 = .arr ae ws.length 0 ws.length/\O 99=int ws.length/\O 100=int i/\(∃ cs,H C=some ⟨9,[cs]⟩/\cs.length=9)/\H ae=some ⟨10,ws.map (bP b)⟩/\H W=some ⟨10,[bP b (fi ws[0] (ws.take i))]⟩/\Sep H n (dX ws) [W,ae,C])
        ⟨by simp[r3],by simp[t],by simp,by simp,by simp,mC,mO,by simpa[fi] using mW,M⟩ ?_)
      clear V r3 r4 t mC mO mW M;rintro i O H n hi ⟨r3,t,B,D,A,mC,mO,mW,M⟩ IH;have hbm:fi ws[0] (ws.take i) ∈ ws:=by
        rcases yx ws[0] (ws.take i) with h | h
        · rw[h];exact List.getElem_mem hne2
        · exact List.mem_of_mem_take h
      refine zE fun _ V=>?_
      simp[D,A];apply V;apply J.seq;refine J.ite rfl (fun hc2=>?_) (fun hc2=>?_)
      · have hc2:i<ws.length:=by simpa using hc2
        apply zK;apply J.block;have htk:fi ws[0] (ws.take (i+1))=if cmpL ws[i].1.order (fi ws[0] (ws.take i)).1.order<0 then ws[i] else fi ws[0] (ws.take i):=by
          rw[<- List.take_append_getElem hc2,fi,List.foldl_append];rfl
        have hrow:(ws.map (bP b))[i]?=some (bP b ws[i]):=by rw[List.getElem?_map,List.getElem?_eq_getElem hc2];rfl
        have hci:=hco _ (List.getElem_mem hc2);have hcb:=hco _ hbm;have hoi:=hoc _ (List.getElem_mem hc2);generalize hwi:ws[i]=w at htk hrow hci hoi;generalize fi ws[0] (ws.take i)=q at htk hcb mW hbm;have hnV:∀ k ∈ [W,ae,C],k ≠ (n,15):=fun k hk h=>by have:=M.1 k hk;rw[h] at this;simp at this
        refine zE fun _ V=>?_
        simp[B,A,mO,hc2,hwi,bP,cw,aG.cells,bB,encI,encS,bH,hoi,-az,-aF,bR,bl];apply V;obtain⟨cs,mC,hcs⟩:=mC;refine J.cut (fun ρ' H' n'=>ρ' 3 = .ptr C 1 0 0/\ρ' 13 = .ptr W 1 0 0/\ρ' 15 = .ptr (n,15) 1 0 0/\ρ' 98 = .arr ae ws.length 0 ws.length/\ρ' 99=int ws.length/\ρ' 100=int i/\(∃ cs,H' C=some ⟨9,[cs]⟩/\cs.length=9)/\H' ae=some ⟨10,ws.map (bP b)⟩/\H' W=some ⟨10,[bP b q]⟩/\H' (n,15)=some ⟨10,[bP b w]⟩/\Sep H' n' (dX ws) [(n,15),W,ae,C])
          ⟨by simp[r3],by simp[t],by simp,by simp[B],by simp[D],by simp[A],⟨cs,by rw[Heap.aD _ _ (hnV _ (by simp))];exact mC,hcs⟩,by rw[Heap.aD _ _ (hnV _ (by simp))];exact mO,by rw[Heap.aD _ _ (hnV _ (by simp))];exact mW,by simp[bP,cw,aG.cells,bB,encI,encS,bH],Sep.var M⟩ ?_
        clear V r3 t B D A mC mO mW M hcs;clear cs;generalize hVe:(n,15)=aa at hnV;clear hVe;rintro O H n ⟨r3,t,R,B,D,A,mC,mO,mW,mV,M⟩;refine zE fun _ V=>?_
        simp[t,R,mV,mW,bP,cw,aG.cells];refine zA (yc w.1.order q.1.order ⟨hci.2,hcb.2⟩) e120 (.cons (aM.pC (fr:=true) (els:=w.1.order.map au) (by simp[au])) (.cons (aM.pC (fr:=true) (els:=q.1.order.map au) (by simp[au])) .nil)) (by simp) ?_;rintro _ rfl;simp;apply V;have hVW:W ≠ aa:=hnV W (by simp);have hCW:C ≠ W:=fun h=>hnW C (by simp) h
        have hOW:ae ≠ W:=fun h=>hnW ae (by simp) h
        refine J.ite rfl (fun hc4=>?_) (fun hc4=>?_)
        · have hc4:cmpL w.1.order q.1.order<0:=by simpa using hc4
          rw[if_pos hc4] at htk;refine zF fun _ V=>?_
          simp[t,R,mV,mW,bP,cw,aG.cells,bB,encI,encS,bH,hoi,-az,-aF,bR,bl];apply V;refine zI fun _ V=>?_
          have f2:=aV (show bu ((i:Int)+1) by simp only[bu];omega) (show ((i+1:Nat):Int)=(i:Int)+1 by omega);simp[A,f2,-aw];apply V;obtain⟨cs,mC,hcs⟩:=mC;refine IH hc2 _ _ _ ⟨by simp[r3],by simp[t],by simp[B],by simp[D],by simp,⟨cs,by rw[Heap.aD _ _ hCW];exact mC,hcs⟩,by rw[Heap.aD _ _ hOW];exact mO,by rw[htk];simp[bP,cw,aG.cells,bB,encI,encS,bH],?_⟩;exact Sep.sub (Sep.bG M (by simp)) (by simp +contextual)
        · have hc4:¬ cmpL w.1.order q.1.order<0:=by simpa using hc4
          rw[if_neg hc4] at htk;apply J.skip;refine zI fun _ V=>?_
          have f2:=aV (show bu ((i:Int)+1) by simp only[bu];omega) (show ((i+1:Nat):Int)=(i:Int)+1 by omega);simp[A,f2,-aw];apply V;exact IH hc2 _ _ _ ⟨by simp[r3],by simp[t],by simp[B],by simp[D],by simp,mC,mO,by rw[htk];exact mW,Sep.sub M (by simp +contextual)⟩
      · have hc3:¬ i<ws.length:=by simpa using hc2
        have hc5:i=ws.length:=by omega
        subst hc5;refine J.exit rfl ?_;rw[List.take_length] at mW hbm;have hbest:(fi ws[0] ws).1=aS b:=by
          rw[AV,hL3,aS]
          congr 1
          have h1:0<(mr b).length:=by rw[<- hL3];simpa using hne2
          rw[show ((0:Int))=((0:Nat):Int) from rfl,bm h1];simp only[<- hL3,List.getElem_map]
        generalize fi ws[0] ws=q at mW hbm hbest;refine J.fv av aE bL (by decide) (by kernel_rfl) fun _ V=>?_
        have hoq:=hoc _ hbm;obtain⟨cs,mC,hcs⟩:=mC;have hCW:C ≠ W:=fun h=>hnW C (by simp) h
        simp[r3,t,mW,mC,hcs,bP,cw,aG.cells,bB,encI,encS,bH,hoq,hCW,-az,-aF,bR,bl];apply V;have hdr:List.drop 9 cs=[]:=List.drop_of_length_le (by omega);refine J.res2 av (v:=.list true (q.1.order.map au)) (w:=.agg (cw none b (.list true (q.1.s.es.map au)) (.list true (q.1.s.pl.map au)) q.2)) func84 results84 (by simp[ji]) (by simp[ji,r3,hdr,cw,aG.cells,bB,encI,encS,bH]) (hQ _ _ _ ⟨q.2,hoq.1,by rw[<- hbest]⟩)
theorem nD {sig:cV} {b:aG} (hv:bo sig b) (he:lC b) (hdn:eH b):aC prog 84 [.agg (aG.cells false b)] (fun r=>∃ y0 y1 y2 y3 y4 y5 y6:Value,(one y0=true/\one y1=true/\one y2=true/\one y3=true/\one y4=true/\one y5=true/\one y6=true) /\
    r = .tup [.list true ((aS b).order.map au),.agg [.v y0,.v y1,.v y2,.v y3,.v y4,.v y5,.list true ((aS b).s.es.map au),.list true ((aS b).s.pl.map au),.v y6]]):=by
  intro c xs hH hn g r;refine (lY hv he hdn c xs hH hn g r).mono ?_;rintro e w' ⟨x,v,c',he,hw,⟨q,hq,rfl⟩,hrep,hg,hk⟩;cases hrep with
  | tup _ vs hl h=>
    obtain⟨v0,v1,rfl⟩:∃ v0 v1,vs=[v0,v1]:=by
      match vs,hl with
      | [v0,v1],_=>exact⟨v0,v1,rfl⟩
    have h0:=h 0 _ v0 rfl rfl;have h1:=h 1 _ v1 rfl rfl;cases h1 with
    | agg _ us hl1 h1=>
      obtain⟨u0,u1,u2,u3,u4,u5,u6,u7,u8,rfl⟩:∃ u0 u1 u2 u3 u4 u5 u6 u7 u8,us=[u0,u1,u2,u3,u4,u5,u6,u7,u8]:=by
        match us,hl1 with
        | [u0,u1,u2,u3,u4,u5,u6,u7,u8],_=>exact⟨u0,u1,u2,u3,u4,u5,u6,u7,u8,rfl⟩
      have o:∀ (i:Nat) (a:I) (u:Value),(cw none b (.list true ((aS b).s.es.map au)) (.list true ((aS b).s.pl.map au)) q)[i]?=some a->[u0,u1,u2,u3,u4,u5,u6,u7,u8][i]?=some u->Ab.aF a=true->one u=true:=fun i a u ha hu h=>td (h1 i a u ha hu) h
      have o8:=td (h1 8 q u8 rfl rfl) hq;have o0:=o 0 _ u0 rfl rfl rfl;have o1:=o 1 _ u1 rfl rfl rfl;have o2:=o 2 _ u2 rfl rfl rfl;have o3:=o 3 _ u3 rfl rfl rfl;have o4:=o 4 _ u4 rfl rfl rfl;have o5:=o 5 _ u5 rfl rfl rfl;have h6:=h1 6 _ u6 rfl rfl;have h7:=h1 7 _ u7 rfl rfl;refine⟨_,.tup [.list true ((aS b).order.map au),.agg [.v u0,.v u1,.v u2,.v u3,.v u4,.v u5,.list true ((aS b).s.es.map au),.list true ((aS b).s.pl.map au),.v u8]],c',he,hw,⟨_,?_,u0,u1,u2,u3,u4,u5,u8,⟨o0,o1,o2,o3,o4,o5,o8⟩,rfl⟩,?_,hg,hk⟩
      · refine (ej.pts (by simp) fun i a c ha hc=>?_).2
        match i with
        | 0=>simp only[List.getElem?_cons_zero,Option.some.injEq] at ha hc;subst ha hc;exact ej.ints _ _ _
        | 1=>
          simp only[List.getElem?_cons_succ,List.getElem?_cons_zero,Option.some.injEq] at ha hc;subst ha hc;refine (ej.pts (by simp) fun i a c ha hc=>?_).1
          match i with
          | 0 | 1 | 2 | 3 | 4 | 5 | 8=>simp at ha hc;subst ha hc;exact ej.v _ _ _
          | 6=>simp only[List.getElem?_cons_succ,List.getElem?_cons_zero,Option.some.injEq] at ha hc;subst ha hc;exact ej.ints _ _ _
          | 7=>simp only[List.getElem?_cons_succ,List.getElem?_cons_zero,Option.some.injEq] at ha hc;subst ha hc;exact ej.ints _ _ _
          | i+9=>simp at hc
        | i+2=>simp at hc
      · refine .tup _ _ (by simp) fun i a x ha hx=>?_
        match i with
        | 0=>simp only[List.getElem?_cons_zero,Option.some.injEq] at ha hx;subst ha hx;exact h0
        | 1=>
          simp only[List.getElem?_cons_succ,List.getElem?_cons_zero,Option.some.injEq] at ha hx;subst ha hx;refine .agg _ _ (by simp) fun i a x ha hx=>?_
          match i with
          | 0 | 1 | 2 | 3 | 4 | 5 | 8=>simp at ha hx;subst ha hx;exact .v _
          | 6=>simp only[List.getElem?_cons_succ,List.getElem?_cons_zero,Option.some.injEq] at ha hx;subst ha hx;exact h6
          | 7=>simp only[List.getElem?_cons_succ,List.getElem?_cons_zero,Option.some.injEq] at ha hx;subst ha hx;exact h7
          | i+9=>simp at hx
        | i+2=>simp at hx
end
end Go.Ab.Vg
namespace Go.Ab.Vg
def rowP (b:aG) (l:Int) (i k:Nat):List (Int × Int):=(idxs (at' b.nodes (i:Int)).links (fun x=>decide (x=l)) k).map fun z=>((i:Int),z)
def Ds (b:aG) (l:Int) (i:Nat):List (Int × Int):=((List.range i).map fun j=>rowP b l j (at' b.nodes (j:Int)).links.length).flatten
def sl (b:aG) (l:Int):List (Int × Int):=Ds b l b.nodes.length
end Go.Ab.Vg
namespace Go.Ab.Vg
def oX (l:List Int) (x:Int):Bool:=l.any fun y=>x == y
theorem ud {l:List Int} {x:Int}:oX l x=true↔x ∈ l:=by simp[oX]
theorem DD {l:List Int} {x:Int}:oX l x=false↔x ∉ l:=by rw[<- ud];simp
def Bj (b:aG) (nodes:List Int):Nat->Int->Bool
  | 0,_=>false
  | m+1,p=>if p<0 then false else if p ∈ nodes then true else Bj b nodes m (at' b.nodes p).parent
def wO (b:aG) (nodes:List Int) (p:Int):Bool:=Bj b nodes (p+1).toNat p
def Ev (bO:aG) (nodes:List Int) (p:Int × Int):Int:=at' (at' bO.nodes (at' nodes p.1)).links p.2
def D1 (bO:aG) (nodes:List Int) (l:List (Int × Int)):Int:=match l with | [] => -1 | p::_=>Ev bO nodes p
abbrev xb (bU bO:aG) (nodes:List Int) (l:Int):Int:=D1 bO nodes (sl bU l)
def LinkOk (bU bO:aG) (nodes:List Int) (l:Int):Prop:=(∀ p ∈ sl bU l,Ev bO nodes p=xb bU bO nodes l)/\(l<bU.edges->xb bU bO nodes l<bO.edges/\(sl bO (xb bU bO nodes l)).length=(sl bU l).length)
def LinksP (bU bO:aG) (nodes:List Int):Prop:=∀ l:Int,0<=l->l<bU.edges+bU.outer.length->LinkOk bU bO nodes l
def Ah (bU:aG) (m:Match) (k:Int):Int:=if 0<=(at' bU.nodes k).parent then at' m.nodes (at' bU.nodes k).parent else at' m.roots (-1 - (at' bU.nodes k).parent)
def ImgOk (bU bO:aG) (m:Match) (k:Int):Prop:=
  (at' bO.nodes (at' m.nodes k)).control=(at' bU.nodes k).control/\(at' bO.nodes (at' m.nodes k)).parent=Ah bU m k/\((fE bU k).length=0->∀ c ∈ il bO (at' m.nodes k),c ∈ m.nodes)
def DG (bU bO:aG) (nodes:List Int):Prop:=nodes.length=bU.nodes.length/\∀ i:Nat,i<nodes.length->Dj bO (at' nodes (i:Int))=true/\at' nodes (i:Int) ∉ nodes.take i
def D9 (bU bO:aG) (m:Match):Prop:=(m.roots.length:Int)=bU.roots/\∀ p ∈ m.roots,-bO.roots<=p/\p<bO.nodes.length/\wO bO m.nodes p=false
def MatchP (bU bO:aG) (m:Match):Prop:=DG bU bO m.nodes/\D9 bU bO m/\(∀ k:Nat,k<bU.nodes.length->ImgOk bU bO m (k:Int))/\LinksP bU bO m.nodes
open Classical in
noncomputable def matchB (bU bO:aG) (m:Match):Bool:=decide (MatchP bU bO m)
end Go.Ab.Vg
namespace Go.Ab.Vg
end Go.Ab.Vg
namespace Go.Ab
variable [Inhabited cD]
end Go.Ab
namespace Go.Ab
open Go.Proofs
end Go.Ab
