/- Merged texts (7 of 16) of the proof that ends in Kyy: Kc W Gb Gc Gd Ge Gf Gg Gh Gi Gj Gk Gl Gx Kg. -/
import Derived.Test.YtkgmflihalaheaaGreatDoorAbQky6
open Go.Proofs.Tryz
set_option linter.unusedSimpArgs false
set_option linter.unusedVariables false
namespace Go.Ab.Vg
theorem pj:∀ {a b:List Int} (x y:List Int),cmpL a b<0->(∀ z,b=a++z->z=[])->cmpL (a++x) (b++y)<0
 | [],[],_,_,h,_=>by simp[cmpL] at h
 | [],c::y,_,_,_,hp=>by simpa using hp (c::y) rfl
 | _::_,[],_,_,h,_=>by simp[cmpL] at h
 | a::p,b::q,x,y,h,hp=>by
  simp only[cmpL,List.cons_append] at h ⊢
  split
  ·omega
  ·rename_i h1
   rw[if_neg h1] at h
   split
   ·rename_i h2;rw[if_pos h2] at h;omega
   ·rename_i h2
    rw[if_neg h2] at h;have e:a=b:=by omega
    subst e;exact pj x y h fun z hz=>hp z (by rw[hz];rfl)
abbrev P2:=List Int × List Int
def uh (a b:P2):Prop:=cmpL a.1 b.1<0\/(a.1=b.1/\cmpL a.2 b.2<0)
theorem fS {a b c:P2} (h:uh a b) (k:uh b c):uh a c:=by
 rcases h with h | ⟨h,h'⟩<;>rcases k with k | ⟨k,k'⟩
 ·exact .inl (er h k)
 ·exact .inl (k ▸ h)
 ·exact .inl (h ▸ k)
 ·exact .inr ⟨h.trans k,er h' k'⟩
theorem iJ (a:P2):¬ uh a a:=by
 rintro (h | ⟨_,h⟩)<;>rw[eF] at h<;>omega
theorem DW (a b:P2):uh a b\/a=b\/uh b a:=by
 rcases Int.lt_trichotomy (cmpL a.1 b.1) 0 with h | h | h
 ·exact .inl (.inl h)
 ·have e:=cmpL_eq h;rcases Int.lt_trichotomy (cmpL a.2 b.2) 0 with k | k | k
  ·exact .inl (.inr ⟨e,k⟩)
  ·exact .inr (.inl (Prod.ext e (cmpL_eq k)))
  ·exact .inr (.inr (.inr ⟨e.symm,by rw[dQ a.2 b.2];omega⟩))
 ·exact .inr (.inr (.inl (by rw[dQ a.1 b.1];omega)))
def tM (l:List P2) (m:P2):Prop:=m ∈ l/\∀ x ∈ l,¬ uh x m
theorem tM.uniq {l:List P2} {m m':P2} (h:tM l m) (k:tM l m'):m=m':=by
 rcases DW m m' with h1 | h1 | h1
 ·exact absurd h1 (k.2 _ h.1)
 ·exact h1
 ·exact absurd h1 (h.2 _ k.1)
structure Cz where
 es:List Int
 pl:List Int
 num:Nat
section
variable (b:aG)
def cp (pl:List Int) (p:Int):Int:=if p<0 then -1 - p else 4+at' pl p
def bF:List Int->List Int->List Int × List Int
 | es,[]=>([],es)
 | es,l::t=>if l >= b.edges then let r:=bF es t;((l - b.edges)::r.1,r.2) else if l ∈ es then let r:=bF es t;((16+((es.idxOf l:Nat):Int))::r.1,r.2) else let r:=bF (es++[l]) t;((16+((es.length:Nat):Int))::r.1,r.2)
def bj (s:Cz) (k:Int):List Int × List Int:=
 let x:=at' b.nodes k;let r:=bF b s.es x.links;(x.control::cp s.pl x.parent::r.1,r.2)
def bA (s:Cz) (k:Int):Cz:=⟨(bj b s k).2,s.pl.set k.toNat s.num,s.num+1⟩
def gK (s:Cz):List Int × List Int:=let r:=bF b s.es (b.inner.map fun w=>w.link);(b.sites.map (cp s.pl)++r.1,r.2)
def cY (pl:List Int) (k:Int):Bool:=decide (at' pl k<0) && (decide ((at' b.nodes k).parent<0) || decide (0<=at' pl (at' b.nodes k).parent))
def dM (pl:List Int):List Int:=((List.range b.nodes.length).map fun i:Nat=>(i:Int)).filter (cY b pl)
def eO:Nat->Cz->List P2
 | 0,s=>[((gK b s).1,[])]
 | m+1,s=>(dM b s.pl).flatMap fun k=>(eO m (bA b s k)).map fun q=>((bj b s k).1++q.1,k::q.2)
end
def Ch (f:Int->Nat):Nat->List Int->Prop
 | 0,l=>l=[]
 | m+1,l=>∃ x c r,l=(x::c)++r/\c.length=f x/\Ch f m r
theorem Ch.snoc {f:Int->Nat} {x:Int} {c:List Int} (hc:c.length=f x):∀ {m:Nat} {l:List Int},Ch f m l->Ch f (m+1) (l++(x::c))
 | 0,l,h=>by rw[show l=[] from h];exact⟨x,c,[],by simp,hc,rfl⟩
 | m+1,l,⟨y,d,r,h1,h2,h3⟩=>⟨y,d,r++(x::c),by rw[h1];simp,h2,Ch.snoc hc h3⟩
theorem Ch.apart {f:Int->Nat}:∀ {m:Nat} {a c:List Int},Ch f m a->Ch f m c->∀ z,c=a++z->z=[]
 | 0,a,c,h,k,z,e=>by rw[show a=[] from h,show c=[] from k] at e;simpa using e.symm
 | m+1,a,c,⟨x,u,r,h1,h2,h3⟩,⟨y,v,t,k1,k2,k3⟩,z,e=>by
  rw[h1,k1] at e;simp only[List.cons_append,List.append_assoc,List.cons.injEq] at e;obtain⟨rfl,e⟩:=e;have hl:v.length=u.length:=by rw[h2,k2]
  have:=List.append_inj e hl;exact Ch.apart h3 k3 z this.2
theorem Ch.lt {f:Int->Nat} {m:Nat} {a c:List Int} (x y:List Int) (h:Ch f m a) (k:Ch f m c) (hl:cmpL a c<0):cmpL (a++x) (c++y)<0:=pj x y hl (h.apart k)
section
variable {b:aG}
theorem dz:∀ (l es:List Int),(bF b es l).1.length=l.length
 | [],_=>rfl
 | x::t,es=>by
  simp only[bF]
  repeat' split
  all_goals simp[dz t]
def lC (b:aG):Prop:=∀ x y:Int,0<=x/\x<b.nodes.length->0<=y/\y<b.nodes.length->(at' b.nodes x).control=(at' b.nodes y).control->(at' b.nodes x).links.length=(at' b.nodes y).links.length
noncomputable def wid (b:aG) (c:Int):Nat:=open Classical in if h:∃ x:Int,(0<=x/\x<b.nodes.length)/\(at' b.nodes x).control=c then 1+(at' b.nodes h.choose).links.length else 0
theorem wid_at (he:lC b) {x:Int} (hx:0<=x/\x<b.nodes.length):wid b (at' b.nodes x).control=1+(at' b.nodes x).links.length:=by
 have h:∃ y:Int,(0<=y/\y<b.nodes.length)/\(at' b.nodes y).control=(at' b.nodes x).control:=⟨x,hx,rfl⟩
 unfold wid;rw[dif_pos h];rw[he _ x h.choose_spec.1 hx h.choose_spec.2]
theorem ct {pl:List Int} {k:Int}:k ∈ dM b pl↔(0<=k/\k<b.nodes.length)/\cY b pl k=true:=by
 simp only[dM,List.mem_filter,List.mem_map,List.mem_range]
 constructor
 ·rintro⟨⟨i,hi,rfl⟩,h⟩;exact⟨⟨by omega,by omega⟩,h⟩
 ·rintro⟨⟨h1,h2⟩,h⟩;exact⟨⟨k.toNat,by omega,by omega⟩,h⟩
theorem mP (he:lC b) (s:Cz) {k:Int} (hk:0<=k/\k<b.nodes.length):∃ x c,(bj b s k).1=x::c/\c.length=wid b x:=by
 refine⟨_,_,rfl,?_⟩;rw[wid_at he hk];simp[dz];omega
theorem dW {m:Nat} {s:Cz} {p:P2}:p ∈ eO b (m+1) s↔∃ k ∈ dM b s.pl,∃ q ∈ eO b m (bA b s k),p=((bj b s k).1++q.1,k::q.2):=by
 simp only[eO,List.mem_flatMap,List.mem_map,eq_comm]
structure Fit (b:aG) (m:Nat) (s:Cz):Prop where
 len:s.pl.length=b.nodes.length
 num:s.num+m=b.nodes.length
 cnt:(s.pl.filter fun x=>decide (x<0)).length=m
 low:∀ v ∈ s.pl,-1<=v
theorem jD:∀ {l:List Int} {k:Nat} {v:Int} (hk:k<l.length),l[k]<0->0<=v->((l.set k v).filter fun x=>decide (x<0)).length+1=(l.filter fun x=>decide (x<0)).length
 | a::l,0,v,_,h,hv=>by
  simp only[List.getElem_cons_zero] at h;simp[List.set_cons_zero,h,show ¬ v<0 by omega]
 | a::l,k+1,v,hk,h,hv=>by
  simp only[List.getElem_cons_succ] at h;have:=jD (l:=l) (k:=k) (by simpa using hk) h hv;simp only[List.set_cons_succ,List.filter_cons]
  split<;>(try simp only[List.length_cons])<;>omega
theorem gL {l:List Int} {i k v:Int} (hi:0<=i) (hk:0<=k/\k<l.length):at' (l.set k.toNat v) i=if i=k then v else at' l i:=by
 unfold at'
 by_cases h:i=k
 ·subst h;rw[if_pos rfl];simp[List.getD_eq_getElem?_getD,show i.toNat<l.length by omega]
 ·rw[if_neg h];simp[List.getD_eq_getElem?_getD,show ¬ k.toNat=i.toNat by omega]
theorem Fit.step {m:Nat} {s:Cz} {k:Int} (h:Fit b (m+1) s) (hk:k ∈ dM b s.pl):Fit b m (bA b s k):=by
 obtain⟨⟨k0,k1⟩,hf⟩:=ct.1 hk;have hl:=h.len;have hkl:k.toNat<s.pl.length:=by omega
 simp only[cY,Bool.and_eq_true,decide_eq_true_eq] at hf;have hf1:s.pl[k.toNat]<0:=by have:=hf.1;simpa[at',hkl] using this
 have:=jD (v:=(s.num:Int)) hkl hf1 (by omega);refine⟨by simp[bA,h.len],by have:=h.num;simp only[bA];omega,?_,?_⟩
 ·have:=h.cnt;simp only[bA];omega
 ·intro v hv;rcases List.mem_or_eq_of_mem_set hv with hv | rfl
  ·exact h.low v hv
  ·omega
theorem Fit.low' {m:Nat} {s:Cz} (h:Fit b m s) (i:Int) (hi:0<=i/\i<b.nodes.length) : -1<=at' s.pl i:=by
 have hl:=h.len;have:i.toNat<s.pl.length:=by omega
 rw[at',show s.pl.getD i.toNat default=s.pl[i.toNat] by simp[this]];exact h.low _ (List.getElem_mem this)
def eH (b:aG):Prop:=∀ x:Int,0<=x/\x<b.nodes.length->(at' b.nodes x).parent<x
theorem j8 (hd:eH b) {m:Nat} {s:Cz} (h:Fit b (m+1) s):∃ k,k ∈ dM b s.pl:=by
 have hex:∃ i:Nat,i<s.pl.length/\at' s.pl (i:Int)<0:=by
  have hc:=h.cnt;cases hq:s.pl.filter fun x=>decide (x<0) with
  | nil=>rw[hq] at hc;simp at hc
  | cons x t=>
   have hx:x ∈ s.pl.filter fun x=>decide (x<0):=by rw[hq];simp
   obtain⟨h1,h2⟩:=List.mem_filter.1 hx;obtain⟨i,hi,rfl⟩:=List.getElem_of_mem h1;exact⟨i,hi,by simpa[at',hi] using h2⟩
 obtain⟨i,⟨hi1,hi2⟩,hmin⟩:∃ i:Nat,(i<s.pl.length/\at' s.pl (i:Int)<0)/\∀ j:Nat,j<i->¬ (j<s.pl.length/\at' s.pl (j:Int)<0):=by
  obtain⟨i,hi⟩:=hex
  induction i using Nat.strongRecOn with
  | _ i ih=>
   by_cases hj:∃ j:Nat,j<i/\(j<s.pl.length/\at' s.pl (j:Int)<0)
   ·obtain⟨j,h1,h2⟩:=hj;exact ih j h1 h2
   ·exact⟨i,hi,fun j h1 h2=>hj ⟨j,h1,h2⟩⟩
 have hl:=h.len;refine⟨i,ct.2 ⟨⟨by omega,by omega⟩,?_⟩⟩;simp only[cY,Bool.and_eq_true,Bool.or_eq_true,decide_eq_true_eq];refine⟨hi2,?_⟩;have hp:=hd i ⟨by omega,by omega⟩;rcases Int.lt_or_le (at' b.nodes (i:Int)).parent 0 with h0 | h0
 ·exact .inl h0
 ·right
  have:=hmin (at' b.nodes (i:Int)).parent.toNat (by omega);rw[show (((at' b.nodes (i:Int)).parent.toNat:Nat):Int)=(at' b.nodes (i:Int)).parent by omega] at this;have h1:(at' b.nodes (i:Int)).parent.toNat<s.pl.length:=by omega
  simp only[h1,true_and] at this;omega
theorem pM (hd:eH b):∀ {m:Nat} {s:Cz},Fit b m s->∃ p,p ∈ eO b m s
 | 0,s,_=>⟨_,List.mem_singleton.2 rfl⟩
 | m+1,s,h=>by
  obtain⟨k,hk⟩:=j8 hd h;obtain⟨q,hq⟩:=pM hd (h.step hk);exact⟨_,dW.2 ⟨k,hk,q,hq,rfl⟩⟩
end
section
variable {b:aG}
structure Twin (b:aG) (x y:Int):Prop where
 ctl:(at' b.nodes x).control=(at' b.nodes y).control
 par:(at' b.nodes x).parent=(at' b.nodes y).parent
 lnk:(at' b.nodes x).links=(at' b.nodes y).links
 kx:∀ i:Int,0<=i/\i<b.nodes.length->(at' b.nodes i).parent ≠ x
 ky:∀ i:Int,0<=i/\i<b.nodes.length->(at' b.nodes i).parent ≠ y
 sx:∀ p ∈ b.sites,p ≠ x
 sy:∀ p ∈ b.sites,p ≠ y
def swp (x y i:Int):Int:=if i=x then y else if i=y then x else i
theorem oJ {n x y i:Int} (hx:0<=x/\x<n) (hy:0<=y/\y<n) (hi:0<=i/\i<n):0<=swp x y i/\swp x y i<n:=by
 unfold swp;repeat' split
 all_goals assumption
theorem yk (x y i:Int):swp x y (swp x y i)=i:=by
 unfold swp;repeat' split
 all_goals omega
structure An (b:aG) (x y:Int) (s t:Cz):Prop where
 es:t.es=s.es
 num:t.num=s.num
 l1:s.pl.length=b.nodes.length
 l2:t.pl.length=b.nodes.length
 pl:∀ i:Int,0<=i/\i<b.nodes.length->at' t.pl (swp x y i)=at' s.pl i
theorem D3 {x y:Int} (h:Twin b x y) (i:Int):(at' b.nodes (swp x y i)).control=(at' b.nodes i).control:=by
 unfold swp;repeat' split
 ·subst_vars;exact h.ctl.symm
 ·subst_vars;exact h.ctl
 ·rfl
theorem xP {x y:Int} (h:Twin b x y) (i:Int):(at' b.nodes (swp x y i)).parent=(at' b.nodes i).parent:=by
 unfold swp;repeat' split
 ·subst_vars;exact h.par.symm
 ·subst_vars;exact h.par
 ·rfl
theorem Df {x y:Int} (h:Twin b x y) (i:Int):(at' b.nodes (swp x y i)).links=(at' b.nodes i).links:=by
 unfold swp;repeat' split
 ·subst_vars;exact h.lnk.symm
 ·subst_vars;exact h.lnk
 ·rfl
variable {x y:Int} {s t:Cz}
theorem An.place (hw:An b x y s t) {p:Int} (hx:p ≠ x) (hy:p ≠ y) (hp:p<b.nodes.length):cp t.pl p=cp s.pl p:=by
 unfold cp
 split
 ·rfl
 ·have:=hw.pl p ⟨by omega,hp⟩;rw[show swp x y p=p by unfold swp;rw[if_neg hx,if_neg hy]] at this;rw[this]
theorem An.chunk (hw:An b x y s t) (h:Twin b x y) (hd:eH b) {k:Int} (hk:0<=k/\k<b.nodes.length):bj b t (swp x y k)=bj b s k:=by
 have hp:=hd k hk;simp only[bj,D3 h,xP h,Df h,hw.es,hw.place (h.kx k hk) (h.ky k hk) (by omega)]
theorem An.free (hw:An b x y s t) (h:Twin b x y) (hd:eH b) (hx:0<=x/\x<b.nodes.length) (hy:0<=y/\y<b.nodes.length) {k:Int} (hk:k ∈ dM b s.pl):swp x y k ∈ dM b t.pl:=by
 obtain⟨hr,hf⟩:=ct.1 hk;refine ct.2 ⟨oJ hx hy hr,?_⟩;simp only[cY,Bool.and_eq_true,Bool.or_eq_true,decide_eq_true_eq] at hf ⊢;rw[hw.pl k hr,xP h];refine⟨hf.1,?_⟩;have hp:=hd k hr;rcases Int.lt_or_le (at' b.nodes k).parent 0 with hn | hn
 ·exact .inl hn
 ·right
  have:=hw.pl _ ⟨hn,by omega⟩;rw[show swp x y (at' b.nodes k).parent=(at' b.nodes k).parent by unfold swp;rw[if_neg (h.kx k hr),if_neg (h.ky k hr)]] at this;rw[this];rcases hf.2 with h0 | h0
  ·omega
  ·exact h0
theorem An.step (hw:An b x y s t) (h:Twin b x y) (hd:eH b) (hx:0<=x/\x<b.nodes.length) (hy:0<=y/\y<b.nodes.length) {k:Int} (hk:0<=k/\k<b.nodes.length):An b x y (bA b s k) (bA b t (swp x y k)):=by
 have hr:=oJ hx hy hk;refine⟨by simp only[bA,hw.chunk h hd hk],by simp[bA,hw.num],by simp[bA,hw.l1],by simp[bA,hw.l2],fun i hi=>?_⟩;simp only[bA];rw[gL (oJ hx hy hi).1 (by rw[hw.l2];exact hr),gL hi.1 (by rw[hw.l1];exact hk),hw.num]
 by_cases e:i=k
 ·subst e;simp
 ·rw[if_neg e,if_neg (fun e2=>e (by rw[<- yk x y i,e2,yk]))];exact hw.pl i hi
theorem An.tail (hw:An b x y s t) (h:Twin b x y) (hs:∀ p ∈ b.sites,p<b.nodes.length):gK b t=gK b s:=by
 simp only[gK,hw.es];rw[List.map_congr_left fun p hp=>hw.place (h.sx p hp) (h.sy p hp) (hs p hp)]
theorem pI (h:Twin b x y) (hd:eH b) (hs:∀ p ∈ b.sites,p<b.nodes.length) (hx:0<=x/\x<b.nodes.length) (hy:0<=y/\y<b.nodes.length):∀ {m:Nat} {s t:Cz},An b x y s t->∀ q ∈ eO b m s,∃ q' ∈ eO b m t,q'.1=q.1
 | 0,s,t,hw,q,hq=>by
  simp only[eO,List.mem_singleton] at hq;subst hq;exact⟨_,List.mem_singleton.2 rfl,by simp only[hw.tail h hs]⟩
 | m+1,s,t,hw,q,hq=>by
  obtain⟨k,hk,q1,hq1,rfl⟩:=dW.1 hq;have hr:=(ct.1 hk).1;obtain⟨q2,hq2,he⟩:=pI h hd hs hx hy (hw.step h hd hx hy hr) q1 hq1;exact⟨_,dW.2 ⟨_,hw.free h hd hx hy hk,q2,hq2,rfl⟩,by simp only[hw.chunk h hd hr,he]⟩
theorem vY (h:Twin b x y) (hd:eH b) (hs:∀ p ∈ b.sites,p<b.nodes.length) {m:Nat} {s:Cz} (hl:s.pl.length=b.nodes.length) (hlow:∀ i:Int,0<=i/\i<b.nodes.length -> -1<=at' s.pl i) (hx:x ∈ dM b s.pl) (hy:y ∈ dM b s.pl) (hxy:x<y) {q:P2} (hq:q ∈ eO b m (bA b s y)) :
  ∃ q' ∈ eO b m (bA b s x),uh ((bj b s x).1++q'.1,x::q'.2) ((bj b s y).1++q.1,y::q.2):=by
 obtain⟨rx,fx⟩:=ct.1 hx;obtain⟨ry,fy⟩:=ct.1 hy;have hc:bj b s x=bj b s y:=by simp only[bj,h.ctl,h.par,h.lnk]
 have hw:An b x y (bA b s y) (bA b s x):=by
  refine⟨by simp only[bA,hc],rfl,by simp[bA,hl],by simp[bA,hl],fun i hi=>?_⟩;simp only[bA];rw[gL (oJ rx ry hi).1 (by omega),gL hi.1 (by omega)];simp only[cY,Bool.and_eq_true,decide_eq_true_eq] at fx fy;have lx:=hlow x rx;have ly:=hlow y ry;unfold swp
  by_cases e1:i=x
  ·subst e1;rw[if_pos rfl,if_neg (by omega),if_neg (by omega)];omega
  ·by_cases e2:i=y
   ·subst e2;rw[if_neg e1,if_pos rfl,if_pos rfl,if_pos rfl]
   ·rw[if_neg e1,if_neg e2,if_neg e1,if_neg e2]
 obtain⟨q',hq',he⟩:=pI h hd hs rx ry hw q hq;exact⟨q',hq',.inr ⟨by simp only[hc,he],by simp[cmpL,hxy]⟩⟩
end
section
variable {b:aG}
def thin (tw:Int->Int->Bool):List Int->List Int->List Int
 | out,[]=>out
 | out,i::l=>thin tw (if out.any (fun x=>tw x i) then out else out++[i]) l
theorem oH (tw:Int->Int->Bool):∀ {l out:List Int} {x:Int},x ∈ thin tw out l->x ∈ out\/x ∈ l
 | [],_,_,h=>.inl h
 | i::l,out,x,h=>by
  rcases oH tw (l:=l) h with h | h
  ·split at h
   ·exact .inl h
   ·rcases List.mem_append.1 h with h | h
    ·exact .inl h
    ·exact .inr (by simp[List.mem_singleton.1 h])
  ·exact .inr (by simp[h])
theorem np (tw:Int->Int->Bool):∀ {l out:List Int} {x:Int},x ∈ out->x ∈ thin tw out l
 | [],_,_,h=>h
 | i::l,out,x,h=>np tw (l:=l) (by split<;>simp[h])
theorem qB (tw:Int->Int->Bool):∀ {l out:List Int},(∀ x ∈ out,∀ y ∈ l,x<y)->l.Pairwise (·<·)->∀ y ∈ l,y ∈ thin tw out l\/∃ x ∈ thin tw out l,tw x y=true/\x<y
 | i::l,out,ho,hp,y,hy=>by
  have hp2:=(List.pairwise_cons.1 hp)
  rcases List.mem_cons.1 hy with rfl | hy
  ·simp only[thin]
   by_cases h:out.any (fun x=>tw x y)=true
   ·rw[if_pos h];obtain⟨x,hx,ht⟩:=List.any_eq_true.1 h;exact .inr ⟨x,np tw hx,ht,ho x hx y (by simp)⟩
   ·rw[if_neg h];exact .inl (np tw (by simp))
  ·exact qB tw (l:=l) (fun x hx z hz=>by
    split at hx
    ·exact ho x hx z (by simp[hz])
    ·rcases List.mem_append.1 hx with hx | hx
     ·exact ho x hx z (by simp[hz])
     ·rw[List.mem_singleton.1 hx];exact hp2.1 z hz) hp2.2 y hy
theorem uF (tw:Int->Int->Bool):∀ {l out:List Int},(∀ x ∈ out,∀ y ∈ l,x<y)->l.Pairwise (·<·)->out.Pairwise (·<·)->(thin tw out l).Pairwise (·<·)
 | [],_,_,_,h=>h
 | i::l,out,ho,hp,h=>by
  have hp2:=(List.pairwise_cons.1 hp)
  refine uF tw (l:=l) (fun x hx z hz=>?_) hp2.2 ?_
  ·split at hx
   ·exact ho x hx z (by simp[hz])
   ·rcases List.mem_append.1 hx with hx | hx
    ·exact ho x hx z (by simp[hz])
    ·rw[List.mem_singleton.1 hx];exact hp2.1 z hz
  ·split
   ·exact h
   ·exact List.pairwise_append.2 ⟨h,by simp,fun x hx z hz=>by rw[List.mem_singleton.1 hz];exact ho x hx i (by simp)⟩
theorem nh (pl:List Int):(dM b pl).Pairwise (·<·):=by
 refine List.Pairwise.filter _ (List.pairwise_map.2 ?_);exact List.pairwise_lt_range.imp fun h=>by omega
def eC (b:aG) (x y:Int):Bool:=
 decide ((at' b.nodes x).control=(at' b.nodes y).control) && decide ((at' b.nodes x).parent=(at' b.nodes y).parent) && decide ((at' b.nodes x).links=(at' b.nodes y).links) &&
  b.nodes.all (fun n=>decide (n.parent ≠ x) && decide (n.parent ≠ y)) && b.sites.all (fun p=>decide (p ≠ x) && decide (p ≠ y))
theorem AN {x y:Int} (h:eC b x y=true):Twin b x y:=by
 simp only[eC,Bool.and_eq_true,decide_eq_true_eq,List.all_eq_true] at h;obtain⟨⟨⟨⟨h1,h2⟩,h3⟩,h4⟩,h5⟩:=h;have hm:∀ i:Int,0<=i/\i<b.nodes.length->at' b.nodes i ∈ b.nodes:=fun i hi=>by
  have:i.toNat<b.nodes.length:=by omega
  rw[at',show b.nodes.getD i.toNat default=b.nodes[i.toNat] by simp[this]];exact List.getElem_mem this
 exact⟨h1,h2,h3,fun i hi=>(h4 _ (hm i hi)).1,fun i hi=>(h4 _ (hm i hi)).2,fun p hp=>(h5 p hp).1,fun p hp=>(h5 p hp).2⟩
def dL (b:aG) (pl:List Int):List Int:=thin (eC b) [] (dM b pl)
def gV (b:aG) (s:Cz):List Int->List Int
 | []=>[]
 | k::l=>l.foldl (fun a k=>if cmpL (bj b s k).1 a<0 then (bj b s k).1 else a) (bj b s k).1
theorem nY (f:Int->List Int):∀ (l:List Int) (a:List Int),(l.foldl (fun a k=>if cmpL (f k) a<0 then f k else a) a=a\/∃ k ∈ l,l.foldl (fun a k=>if cmpL (f k) a<0 then f k else a) a=f k)/\¬ cmpL a (l.foldl (fun a k=>if cmpL (f k) a<0 then f k else a) a)<0/\∀ k ∈ l,¬ cmpL (f k) (l.foldl (fun a k=>if cmpL (f k) a<0 then f k else a) a)<0
 | [],a=>⟨.inl rfl,by simp[eF],by simp⟩
 | k::l,a=>by
  obtain⟨h1,h2,h3⟩:=nY f l (if cmpL (f k) a<0 then f k else a);simp only[List.foldl_cons];generalize l.foldl (fun a k=>if cmpL (f k) a<0 then f k else a) (if cmpL (f k) a<0 then f k else a)=r at h1 h2 h3
  by_cases h:cmpL (f k) a<0
  ·rw[if_pos h] at h1 h2;refine⟨.inr ?_,fun h4=>h2 (er h h4),fun j hj=>?_⟩
   ·rcases h1 with h1 | ⟨j,hj,h1⟩
    ·exact⟨k,by simp,h1⟩
    ·exact⟨j,by simp[hj],h1⟩
   ·rcases List.mem_cons.1 hj with rfl | hj
    ·exact h2
    ·exact h3 j hj
  ·rw[if_neg h] at h1 h2;refine⟨?_,h2,fun j hj=>?_⟩
   ·rcases h1 with h1 | ⟨j,hj,h1⟩
    ·exact .inl h1
    ·exact .inr ⟨j,by simp[hj],h1⟩
   ·rcases List.mem_cons.1 hj with rfl | hj
    ·exact fun h4=>h2 (kW h h4)
    ·exact h3 j hj
theorem Ao (s:Cz) {l:List Int} (hl:l ≠ []):(∃ k ∈ l,gV b s l=(bj b s k).1)/\∀ k ∈ l,¬ cmpL (bj b s k).1 (gV b s l)<0:=by
 cases l with
 | nil=>exact absurd rfl hl
 | cons k l=>
  obtain⟨h1,h2,h3⟩:=nY (fun k=>(bj b s k).1) l (bj b s k).1;refine⟨?_,fun j hj=>?_⟩
  ·rcases h1 with h1 | ⟨j,hj,h1⟩
   ·exact⟨k,by simp,h1⟩
   ·exact⟨j,by simp[hj],h1⟩
  ·rcases List.mem_cons.1 hj with rfl | hj
   ·exact h2
   ·exact h3 j hj
abbrev AccB:=List Int × List Int × Bool
def ik (f:Int->Bool) (g:Int->P2) (a:AccB) (k:Int):AccB:=if f k then (if a.2.2=false\/cmpL (g k).1 a.1<0 then ((g k).1,k::(g k).2,true) else a) else a
theorem oY (f:Int->Bool) (g:Int->P2):∀ (l pre:List Int) (a:AccB),(pre++l).Pairwise (·<·)->(a.2.2=true/\(∃ k ∈ pre,f k=true/\a.1=(g k).1/\a.2.1=k::(g k).2/\∀ j ∈ pre,f j=true->¬ uh ((g j).1,j::(g j).2) (a.1,a.2.1))\/a.2.2=false/\∀ j ∈ pre,f j=false) ->
  (∃ k ∈ pre++l,f k=true)->∃ k ∈ pre++l,f k=true/\(l.foldl (ik f g) a).1=(g k).1/\(l.foldl (ik f g) a).2.1=k::(g k).2/\∀ j ∈ pre++l,f j=true->¬ uh ((g j).1,j::(g j).2) ((l.foldl (ik f g) a).1,(l.foldl (ik f g) a).2.1)
 | [],pre,a,hp,h,he=>by
  simp only[List.append_nil] at he ⊢;rcases h with ⟨_,h⟩ | ⟨_,h⟩
  ·exact h
  ·obtain⟨k,hk,hf⟩:=he;rw[h k hk] at hf;cases hf
 | i::l,pre,a,hp,h,he=>by
  have:=oY f g l (pre++[i]) (ik f g a i) (by simpa using hp) ?_ (by simpa using he)
  ·simpa using this
  ·unfold ik
   by_cases hi:f i=true
   ·rw[if_pos hi]
    by_cases hc:a.2.2=false\/cmpL (g i).1 a.1<0
    ·rw[if_pos hc];refine .inl ⟨rfl,i,by simp,hi,rfl,rfl,fun j hj hfj=>?_⟩;rcases List.mem_append.1 hj with hj | hj
     ·rcases h with ⟨h1,k,hk,hf,e1,e2,h2⟩ | ⟨h1,h2⟩
      ·rcases hc with hc | hc
       ·rw[h1] at hc;cases hc
       ·intro hlt;refine h2 j hj hfj (fS hlt (.inl hc))
      ·rw[h2 j hj] at hfj;cases hfj
     ·rw[List.mem_singleton.1 hj];exact iJ _
    ·rw[if_neg hc];rcases h with ⟨h1,k,hk,hf,e1,e2,h2⟩ | ⟨h1,h2⟩
     ·refine .inl ⟨h1,k,by simp[hk],hf,e1,e2,fun j hj hfj=>?_⟩;rcases List.mem_append.1 hj with hj | hj
      ·exact h2 j hj hfj
      ·rw[List.mem_singleton.1 hj];have hki:k<i:=(List.pairwise_append.1 hp).2.2 k hk i (by simp);rintro (hlt | ⟨_,hlt⟩)
       ·exact hc (.inr hlt)
       ·simp only[e2] at hlt;rw[cmpL,if_neg (by omega),if_pos hki] at hlt;omega
     ·exact absurd (.inl h1) hc
   ·rw[if_neg hi];rcases h with ⟨h1,k,hk,hf,e1,e2,h2⟩ | ⟨h1,h2⟩
    ·refine .inl ⟨h1,k,by simp[hk],hf,e1,e2,fun j hj hfj=>?_⟩;rcases List.mem_append.1 hj with hj | hj
     ·exact h2 j hj hfj
     ·rw[List.mem_singleton.1 hj] at hfj;exact absurd hfj hi
    ·refine .inr ⟨h1,fun j hj=>?_⟩;rcases List.mem_append.1 hj with hj | hj
     ·exact h2 j hj
     ·rw[List.mem_singleton.1 hj];simpa using hi
def dx (b:aG):Nat->Cz->P2
 | 0,s=>((gK b s).1,[])
 | m+1,s=>let r:=(dL b s.pl).foldl (ik (fun k=>decide ((bj b s k).1=gV b s (dL b s.pl))) fun k=>dx b m (bA b s k)) ([],[],false)
  (gV b s (dL b s.pl)++r.1,r.2.1)
theorem jV (he:lC b) (hd:eH b) (hs:∀ p ∈ b.sites,p<b.nodes.length):∀ {m:Nat} {s:Cz},Fit b m s->tM (eO b m s) (dx b m s)
 | 0,s,_=>⟨List.mem_singleton.2 rfl,fun x hx=>by rw[List.mem_singleton.1 hx];exact iJ _⟩
 | m+1,s,h=>by
  have hin:∀ k ∈ dL b s.pl,k ∈ dM b s.pl:=fun k hk=>(oH _ hk).resolve_left (by simp)
  have hhas:=qB (eC b) (l:=dM b s.pl) (out:=[]) (by simp) (nh s.pl);have hne:dL b s.pl ≠ []:=by
   obtain⟨k,hk⟩:=j8 hd h;rcases hhas k hk with h1 | ⟨x,h1,_⟩<;>intro e<;>rw[dL] at e<;>rw[e] at h1<;>cases h1
  obtain⟨⟨k0,hk0,e0⟩,hle⟩:=Ao (b:=b) s hne;have hasc:(dL b s.pl).Pairwise (·<·):=uF _ (by simp) (nh s.pl) (by simp);obtain⟨k,hk,hf,e1,e2,hmin⟩:=oY (fun k=>decide ((bj b s k).1=gV b s (dL b s.pl))) (fun k=>dx b m (bA b s k)) (dL b s.pl) [] ([],[],false) (by simpa using hasc) (.inr ⟨rfl,by simp⟩) ⟨k0,by simpa using hk0,by simp[e0]⟩;simp only[List.nil_append] at hk hmin;simp only[decide_eq_true_eq] at hf hmin;have eb:dx b (m+1) s=((bj b s k).1++(dx b m (bA b s k)).1,k::(dx b m (bA b s k)).2):=by
   rw[dx];simp only[e1,e2,hf]
  have ih:=jV he hd hs (h.step (hin k hk));have hT:∀ j ∈ dL b s.pl,∀ q ∈ eO b m (bA b s j),¬ uh ((bj b s j).1++q.1,j::q.2) (dx b (m+1) s):=by
   intro j hj q hq hlt;rw[eb] at hlt
   by_cases hc:(bj b s j).1=gV b s (dL b s.pl)
   ·have ihj:=(jV he hd hs (h.step (hin j hj))).2 q hq;have hm:=hmin j hj hc;rw[e1,e2] at hm;rw[hc,hf] at hlt;rcases hlt with hlt | ⟨hlt,hlt2⟩
    ·rw[vC] at hlt;exact hm (.inl (kW (fun h'=>ihj (.inl h')) hlt))
    ·simp only[List.append_cancel_left_eq] at hlt;have h3:¬ cmpL q.1 (dx b m (bA b s j)).1<0:=fun h'=>ihj (.inl h')
     rw[hlt] at h3;rcases Int.lt_trichotomy (cmpL (dx b m (bA b s j)).1 (dx b m (bA b s k)).1) 0 with h4 | h4 | h4
     ·exact hm (.inl h4)
     ·have h5:=cmpL_eq h4;rcases Int.lt_trichotomy j k with h6 | h6 | h6
      ·exact hm (.inr ⟨h5,by simp[cmpL,h6]⟩)
      ·subst h6;simp only[cmpL,Int.lt_irrefl,if_false] at hlt2;exact ihj (.inr ⟨hlt,hlt2⟩)
      ·simp only[cmpL] at hlt2;rw[if_neg (by omega),if_pos h6] at hlt2;omega
     ·exact h3 (by rw[dQ (dx b m (bA b s j)).1];omega)
   ·have h1:cmpL (gV b s (dL b s.pl)) (bj b s j).1<0:=by
     have:=hle j hj;rcases Int.lt_trichotomy (cmpL (gV b s (dL b s.pl)) (bj b s j).1) 0 with h4 | h4 | h4
     ·exact h4
     ·exact absurd (cmpL_eq h4).symm hc
     ·exact absurd (by rw[dQ (gV b s (dL b s.pl))];omega) this
    obtain⟨x1,c1,p1,l1⟩:=mP he s (ct.1 (hin k hk)).1;obtain⟨x2,c2,p2,l2⟩:=mP he s (ct.1 (hin j hj)).1;have hch1:Ch (wid b) 1 (bj b s k).1:=⟨x1,c1,[],by simp[p1],l1,rfl⟩
    have hch2:Ch (wid b) 1 (bj b s j).1:=⟨x2,c2,[],by simp[p2],l2,rfl⟩
    rw[<- hf] at h1;have:=Ch.lt (dx b m (bA b s k)).1 q.1 hch1 hch2 h1;exact iJ _ (fS hlt (.inl this))
  refine⟨eb ▸ dW.2 ⟨k,hin k hk,_,ih.1,rfl⟩,fun p hp hlt=>?_⟩;obtain⟨j,hj,q,hq,rfl⟩:=dW.1 hp;rcases hhas j hj with h1 | ⟨x,h1,htw,hxy⟩
  ·exact hT j h1 q hq hlt
  ·obtain⟨q',hq',hlt'⟩:=vY (AN htw) hd hs h.len h.low' (hin x h1) hj hxy hq;exact hT x h1 q' hq' (fS hlt' hlt)
end
structure fA where
 order:List Int
 s:Cz
 code:List Int
section
variable (b:aG)
def fj (a:fA):List fA:=(dM b a.s.pl).map fun k=>⟨a.order++[k],bA b a.s k,a.code++(bj b a.s k).1⟩
def k9 (out:List fA) (x:fA):List fA:=
 match out with
 | []=>[x]
 | w::t=>if cmpL x.code w.code<0 then [x] else if cmpL x.code w.code=0 then (w::t)++[x] else w::t
def eW (l:List fA):List fA:=l.foldl k9 []
def cS (a:fA):fA:=⟨a.order,⟨(gK b a.s).2,a.s.pl,a.s.num⟩,a.code++(gK b a.s).1⟩
def fJ:Nat->List fA->List fA
 | 0,l=>l
 | m+1,l=>fJ m (eW (l.flatMap (fj b)))
def cU (l:List fA) (d:fA):fA:=l.foldl (fun best x=>if cmpL x.order best.order<0 then x else best) d
def gY:Cz:=⟨[],List.replicate b.nodes.length (-1),0⟩
end
section
variable {b:aG}
theorem jo:∀ (l pre out:List fA),(∀ x,x ∈ out↔x ∈ pre/\∀ y ∈ pre,¬ cmpL y.code x.code<0)->(pre ≠ []->out ≠ []) ->
  (∀ x,x ∈ l.foldl k9 out↔x ∈ pre++l/\∀ y ∈ pre++l,¬ cmpL y.code x.code<0) /\
  (pre++l ≠ []->l.foldl k9 out ≠ [])
 | [],pre,out,h,hn=>by
  simp only[List.append_nil,List.foldl_nil];exact⟨h,hn⟩
 | z::l,pre,out,h,hn=>by
  have:=jo l (pre++[z]) (k9 out z) ?_ ?_
  ·simpa only [List.append_assoc,List.singleton_append,List.foldl_cons] using this
  ·intro x;cases out with
   | nil=>
    have hp:pre=[]:=by
     rcases List.eq_nil_or_concat pre with hp | ⟨_,_,hp⟩
     ·exact hp
     ·exact absurd rfl (hn (by rw[hp];simp))
    subst hp;simp only[k9,List.nil_append,List.mem_singleton,forall_eq];exact⟨fun e=>⟨e,by rw[e,eF];omega⟩,fun e=>e.1⟩
   | cons w t=>
    obtain⟨hw1,hw2⟩:=(h w).1 (by simp);have hsame:∀ v ∈ pre,(∀ y ∈ pre,¬ cmpL y.code v.code<0)->v.code=w.code:=fun v hv h1=>by
     have a1:=h1 w hw1;have a2:=hw2 v hv;have:=dQ v.code w.code;exact cmpL_eq (by omega)
    simp only[k9]
    by_cases h1:cmpL z.code w.code<0
    ·rw[if_pos h1];simp only[List.mem_singleton,List.mem_append]
     constructor
     ·rintro rfl;refine⟨.inr rfl,fun y hy=>?_⟩;rcases hy with hy | rfl
      ·intro h2;exact hw2 y hy (er h2 h1)
      ·rw[eF];omega
     ·rintro⟨hx | rfl,h2⟩
      ·have e:=hsame x hx fun y hy=>h2 y (.inl hy)
       exact absurd (e ▸ h1) (h2 z (.inr rfl))
      ·rfl
    ·rw[if_neg h1]
     by_cases h2:cmpL z.code w.code=0
     ·rw[if_pos h2];have e2:=cmpL_eq h2;rw[List.mem_append,List.mem_singleton,h x];simp only[List.mem_append,List.mem_singleton]
      constructor
      ·rintro (⟨hx,h3⟩ | rfl)
       ·refine⟨.inl hx,fun y hy=>?_⟩;rcases hy with hy | rfl
        ·exact h3 y hy
        ·rw[e2,<- hsame x hx h3,eF];omega
       ·refine⟨.inr rfl,fun y hy=>?_⟩;rcases hy with hy | rfl
        ·rw[e2];exact hw2 y hy
        ·rw[eF];omega
      ·rintro⟨hx | rfl,h3⟩
       ·exact .inl ⟨hx,fun y hy=>h3 y (.inl hy)⟩
       ·exact .inr rfl
     ·rw[if_neg h2,h x];simp only[List.mem_append,List.mem_singleton];have h4:cmpL w.code z.code<0:=by rw[dQ z.code];omega
      constructor
      ·rintro⟨hx,h3⟩;refine⟨.inl hx,fun y hy=>?_⟩;rcases hy with hy | rfl
       ·exact h3 y hy
       ·rw[hsame x hx h3];exact h1
      ·rintro⟨hx | rfl,h3⟩
       ·exact⟨hx,fun y hy=>h3 y (.inl hy)⟩
       ·exact absurd h4 (h3 w (.inl hw1))
  ·intro _;unfold k9
   repeat' split
   all_goals simp
theorem c5 {l:List fA} {x:fA}:x ∈ eW l↔x ∈ l/\∀ y ∈ l,¬ cmpL y.code x.code<0:=(jo l [] [] (by simp) (by simp)).1 x
theorem j9 {l:List fA} (h:l ≠ []):eW l ≠ []:=(jo l [] [] (by simp) (by simp)).2 h
theorem w6:Fit b b.nodes.length (gY b):=by
 refine⟨by simp[gY],by simp[gY],?_,fun v hv=>?_⟩
 ·have:(List.replicate b.nodes.length (-1:Int)).filter (fun x=>decide (x<0))=List.replicate b.nodes.length (-1):=List.filter_eq_self.2 fun x hx=>by rw[(List.mem_replicate.1 hx).2];rfl
  simp only[gY];rw[this];simp
 ·simp only[gY] at hv;rw[(List.mem_replicate.1 hv).2];omega
structure Lay (b:aG) (m:Nat) (l:List fA):Prop where
 fit:∀ a ∈ l,Fit b m a.s
 run:∀ a ∈ l,a.s=a.order.foldl (bA b) (gY b)
 nd:∀ a ∈ l,a.order.length+m=b.nodes.length
 ch:∀ a ∈ l,Ch (wid b) a.order.length a.code
 sound:∀ a ∈ l,∀ q ∈ eO b m a.s,(a.code++q.1,a.order++q.2) ∈ eO b b.nodes.length (gY b)
 cover:∀ p ∈ eO b b.nodes.length (gY b),∃ a ∈ l,∃ q ∈ eO b m a.s,¬ uh p (a.code++q.1,a.order++q.2)
theorem lay0:Lay b b.nodes.length [⟨[],gY b,[]⟩] where
 fit a ha:=by rw[List.mem_singleton.1 ha];exact w6
 run a ha:=by rw[List.mem_singleton.1 ha];rfl
 nd a ha:=by rw[List.mem_singleton.1 ha];simp
 ch a ha:=by rw[List.mem_singleton.1 ha];rfl
 sound a ha q hq:=by rw[List.mem_singleton.1 ha] at hq ⊢;simpa using hq
 cover p hp:=⟨_,List.mem_singleton.2 rfl,p,hp,iJ _⟩
theorem yh (he:lC b) {m:Nat} {l:List fA} (h:Lay b (m+1) l):Lay b m (l.flatMap (fj b)):=by
 have hm:∀ x,x ∈ l.flatMap (fj b)↔∃ a ∈ l,∃ k ∈ dM b a.s.pl,x=⟨a.order++[k],bA b a.s k,a.code++(bj b a.s k).1⟩:=fun x=>by
  simp only[fj,List.mem_flatMap,List.mem_map,eq_comm]
 refine⟨fun x hx=>?_,fun x hx=>?_,fun x hx=>?_,fun x hx=>?_,fun x hx q hq=>?_,fun p hp=>?_⟩
 ·obtain⟨a,ha,k,hk,rfl⟩:=(hm x).1 hx;exact (h.fit a ha).step hk
 ·obtain⟨a,ha,k,hk,rfl⟩:=(hm x).1 hx;simp only[List.foldl_append,List.foldl_cons,List.foldl_nil,<- h.run a ha]
 ·obtain⟨a,ha,k,hk,rfl⟩:=(hm x).1 hx;have:=h.nd a ha;simp;omega
 ·obtain⟨a,ha,k,hk,rfl⟩:=(hm x).1 hx;obtain⟨y,c,e1,e2⟩:=mP he a.s (ct.1 hk).1;have:=(h.ch a ha).snoc e2;simp only[e1,List.length_append,List.length_cons,List.length_nil];exact this
 ·obtain⟨a,ha,k,hk,rfl⟩:=(hm x).1 hx;have:=h.sound a ha _ (dW.2 ⟨k,hk,q,hq,rfl⟩);simpa using this
 ·obtain⟨a,ha,q,hq,hlt⟩:=h.cover p hp;obtain⟨k,hk,q2,hq2,rfl⟩:=dW.1 hq;exact⟨_,(hm _).2 ⟨a,ha,k,hk,rfl⟩,q2,hq2,by simpa using hlt⟩
theorem sV {p x y:P2} (h:¬ uh p x) (k:uh y x):¬ uh p y:=fun h'=>h (fS h' k)
theorem ra (hd:eH b) {m:Nat} {l:List fA} (h:Lay b m l):Lay b m (eW l):=by
 refine⟨fun x hx=>h.fit x (c5.1 hx).1,fun x hx=>h.run x (c5.1 hx).1,fun x hx=>h.nd x (c5.1 hx).1,fun x hx=>h.ch x (c5.1 hx).1,fun x hx=>h.sound x (c5.1 hx).1,fun p hp=>?_⟩;obtain⟨a,ha,q,hq,hlt⟩:=h.cover p hp;obtain⟨z,hz⟩:=List.exists_mem_of_ne_nil _ (j9 (fun e=>by rw[e] at ha;cases ha):eW l ≠ []);obtain⟨hz1,hz2⟩:=c5.1 hz;rcases Int.lt_trichotomy (cmpL z.code a.code) 0 with h1 | h1 | h1
 ·obtain⟨q',hq'⟩:=pM hd (h.fit z hz1);refine⟨z,hz,q',hq',sV hlt (.inl ?_)⟩;have c1:=h.ch z hz1;have c2:=h.ch a ha;have e:z.order.length=a.order.length:=by have:=h.nd z hz1;have:=h.nd a ha;omega
  rw[e] at c1;exact Ch.lt q'.1 q.1 c1 c2 h1
 ·refine⟨a,c5.2 ⟨ha,fun y hy=>?_⟩,q,hq,hlt⟩;rw[<- cmpL_eq h1];exact hz2 y hy
 ·exact absurd (by rw[dQ z.code];omega) (hz2 a ha)
theorem x9 (he:lC b) (hd:eH b):∀ {m:Nat} {l:List fA},Lay b m l->Lay b 0 (fJ b m l)
 | 0,_,h=>h
 | m+1,l,h=>by rw[fJ];exact x9 he hd (ra hd (yh he h))
theorem nt:∀ (l:List fA) (d:fA),(cU l d=d\/cU l d ∈ l)/\¬ cmpL d.order (cU l d).order<0/\∀ x ∈ l,¬ cmpL x.order (cU l d).order<0
 | [],d=>⟨.inl rfl,by simp[cU,eF],by simp⟩
 | x::l,d=>by
  obtain⟨h1,h2,h3⟩:=nt l (if cmpL x.order d.order<0 then x else d);have e:cU (x::l) d=cU l (if cmpL x.order d.order<0 then x else d):=rfl;rw[e];generalize cU l (if cmpL x.order d.order<0 then x else d)=r at h1 h2 h3
  by_cases h:cmpL x.order d.order<0
  ·rw[if_pos h] at h1 h2;refine⟨.inr ?_,fun h4=>h2 (er h h4),fun j hj=>?_⟩
   ·rcases h1 with h1 | h1
    ·simp[h1]
    ·simp[h1]
   ·rcases List.mem_cons.1 hj with rfl | hj
    ·exact h2
    ·exact h3 j hj
  ·rw[if_neg h] at h1 h2;refine⟨?_,h2,fun j hj=>?_⟩
   ·rcases h1 with h1 | h1
    ·exact .inl h1
    ·simp[h1]
   ·rcases List.mem_cons.1 hj with rfl | hj
    ·exact fun h4=>h2 (kW h h4)
    ·exact h3 j hj
theorem ve (he:lC b) (hd:eH b) (hs:∀ p ∈ b.sites,p<b.nodes.length) {l:List fA} (hl:l=eW ((fJ b b.nodes.length [⟨[],gY b,[]⟩]).map (cS b))) (d:fA) (hdl:d ∈ l) :
  ((cU l d).code,(cU l d).order)=dx b b.nodes.length (gY b)/\cU l d=cS b ⟨(cU l d).order,(cU l d).order.foldl (bA b) (gY b),((cU l d).code.take ((cU l d).code.length - (gK b ((cU l d).order.foldl (bA b) (gY b))).1.length))⟩:=by
 have hL:=x9 he hd (lay0 (b:=b));generalize fJ b b.nodes.length [⟨[],gY b,[]⟩]=L at hL hl;obtain⟨f1,f2,f3⟩:=nt l d;have hf:cU l d ∈ l:=by
  rcases f1 with f1 | f1
  ·rw[f1];exact hdl
  ·exact f1
 generalize cU l d=r at f1 f2 f3 hf;subst hl;obtain⟨g1,g2⟩:=c5.1 hf;obtain⟨a,ha,rfl⟩:=List.mem_map.1 g1;have hrun:=hL.run a ha;refine⟨tM.uniq ⟨?_,fun p hp hlt=>?_⟩ (jV he hd hs w6),?_⟩
 ·have:=hL.sound a ha _ (List.mem_singleton.2 rfl);simpa[cS] using this
 ·obtain⟨a',ha',q,hq,hn⟩:=hL.cover p hp;simp only[eO,List.mem_singleton] at hq;subst hq;have hm':cS b a' ∈ L.map (cS b):=List.mem_map.2 ⟨a',ha',rfl⟩;have e1:=g2 _ hm';apply hn;have hlt':uh p ((cS b a).code,(cS b a).order):=hlt;have:uh p ((cS b a').code,(cS b a').order):=by
   rcases Int.lt_trichotomy (cmpL (cS b a).code (cS b a').code) 0 with h1 | h1 | h1
   ·exact fS hlt' (.inl h1)
   ·have h2:=cmpL_eq h1;have h3:=f3 _ (c5.2 ⟨hm',fun y hy=>by rw[<- h2];exact g2 y hy⟩);rcases Int.lt_trichotomy (cmpL (cS b a).order (cS b a').order) 0 with h4 | h4 | h4
    ·exact fS hlt' (.inr ⟨h2,h4⟩)
    ·rw[h2,cmpL_eq h4] at hlt';exact hlt'
    ·exact absurd (by rw[dQ (cS b a).order];omega) h3
   ·exact absurd (by rw[dQ (cS b a).code];omega) e1
  simpa[cS] using this
 ·have e:(cS b a).order=a.order:=rfl;rw[e,<- hrun];simp[cS]
end
end Go.Ab.Vg
namespace Go.Ab
open Go.Proofs
theorem DL:aZ prog 55:=aZ.of func55 (by kernel_rfl) rfl
theorem e97:aZ prog 97:=aZ.of func97 (by kernel_rfl) rfl
theorem fI (n lo hi:Int):aC prog 55 [int n,int lo,int hi] (fun r=>r=bool (within n lo hi)):=by
 refine aC.of func55 rfl ntmps55 (by simp) fun Q hQ=>?_
 refine zE fun _ V=>?_
 simp;refine V _ _ _ (zE fun _ V=>?_);simp
 by_cases h:lo<=n
 all_goals
  simp[h];refine V _ _ _ (J.ret func55 (aK.one results55) (hQ _ _ _ _ (ej.v _ _ _) ?_));simp[within,h]
theorem uA {s:bc} {k:Nat} (hk:k<s.length) (h:lower s[k]=false):kC s=false:=by
 have:s.all lower=false:=by
  rw[List.all_eq_false];exact⟨s[k],List.getElem_mem hk,by simp[h]⟩
 simp[kC,this]
theorem rI (s:bc) (hs:s.length<=4294967296):aC prog 97 [str s] (fun r=>r=bool (kC s)):=by
 refine aC.of func97 rfl ntmps97 (by simp) fun Q hQ=>?_
 refine zE fun _ V=>?_
 simp;apply V;refine zS fun _ V=>?_
 simp;apply V;refine J.block (J.bM s.length (fun k O H n=>O 0=str s/\O 3=int k/\(s.take k).all lower=true) ?_ ?_)
 ·simp
 ·rintro k O H n hk ⟨h0,h3,hall⟩ IH;refine zS fun _ V=>?_
  simp [h0, h3];apply V;refine J.ite rfl (fun hc1 => ?_) (fun hc1 => ?_)
  ·simp at hc1;apply zK;apply J.block;refine zE fun _ V=>?_
   simp [h0, h3, hc1]
   by_cases ha:(s[k].toNat:Int)<97
   ·simp[ha];apply V;refine J.ite rfl (fun _=>?_) (fun h=>by simp at h);refine zE fun _ V=>?_
    simp;apply V;refine J.ret func97 (aK.one results97) (hQ _ _ _ _ (.v _ _ _) ?_);rw[uA hc1 (by simp[lower];omega)]
   ·by_cases hz:(122:Int)<s[k].toNat
    ·simp[ha,hz,h0,h3,hc1];apply V;refine J.ite rfl (fun _=>?_) (fun h=>by simp at h);refine zE fun _ V=>?_
     simp;apply V;refine J.ret func97 (aK.one results97) (hQ _ _ _ _ (.v _ _ _) ?_);rw[uA hc1 (by simp[lower];omega)]
    ·simp[ha,hz,h0,h3,hc1];apply V;refine J.ite rfl (fun h=>by simp at h) (fun _=>?_);apply J.skip;refine zI fun _ V=>?_
     simp [h3, bf (show k < 4611686018427387904 by omega)];apply V;refine IH hc1 _ _ _ ?_;rw[List.take_succ_eq_append_getElem hc1,List.all_append,hall];simp[h0,lower];omega
  ·simp at hc1;refine J.exit rfl ?_;refine zE fun _ V=>?_
   simp [h0];refine zA (fI s.length 1 4) DL (.cons (.v _ _ _) (.cons (.v _ _ _) (.cons (.v _ _ _) .nil))) (by simp) ?_;rintro _ rfl;simp;apply V;refine J.ret func97 (aK.one results97) (hQ _ _ _ _ (.v _ _ _) ?_);rw[List.take_of_length_le hc1] at hall;simp only[kC,hall,Bool.and_true]
end Go.Ab
namespace Go.Ab
open Go.Proofs
theorem e76:aZ prog 76:=aZ.of func76 (by kernel_rfl) rfl
theorem e60:aZ prog 60:=aZ.of func60 (by kernel_rfl) rfl
theorem e73:aZ prog 73:=aZ.of func73 (by kernel_rfl) rfl
theorem e59:aZ prog 59:=aZ.of func59 (by kernel_rfl) rfl
theorem q9 (b:aG) (l:Int) (he:0<=b.edges/\b.edges<=8) (ho:b.outer.length<=1048576):aC prog 76 [cG false b,int l] (fun r=>r=bool (c9 b l)):=by
 have hw1:IntKind.i64.wrap (b.edges+b.outer.length)=b.edges+b.outer.length:=by rw[wrap64]<;>omega
 have hw2:IntKind.i64.wrap (b.edges+b.outer.length - 1)=b.edges+b.outer.length - 1:=by rw[wrap64]<;>omega
 refine aC.of func76 rfl ntmps76 (by simp) fun Q hQ=>?_
 refine zE fun _ V=>?_
 simp [cG, aG.cells];apply V;refine zE fun _ V=>?_
 simp [encS, hw1, hw2];refine zA (eA l 0 (b.edges+b.outer.length - 1)) Eu (.cons (.v _ _ _) (.cons (.v _ _ _) (.cons (.v _ _ _) .nil))) (by simp) ?_;rintro _ rfl;simp;apply V;exact J.ret func76 (aK.one results76) (hQ _ _ _ _ (.v _ _ _) rfl)
theorem rN (b:aG) (l:Int) (he:0<=b.edges/\b.edges<=8) (ho:b.outer.length<=1048576):aC prog 60 [cG false b,int l] (fun r=>r=bool (c9 b l)):=by
 have hw1:IntKind.i64.wrap (b.edges+b.outer.length)=b.edges+b.outer.length:=by rw[wrap64]<;>omega
 have hw2:IntKind.i64.wrap (b.edges+b.outer.length - 1)=b.edges+b.outer.length - 1:=by rw[wrap64]<;>omega
 refine aC.of func60 rfl ntmps60 (by simp) fun Q hQ=>?_
 refine zE fun _ V=>?_
 simp [cG, aG.cells];apply V;refine zE fun _ V=>?_
 simp [encS, hw1, hw2];refine zA (fI l 0 (b.edges+b.outer.length - 1)) DL (.cons (.v _ _ _) (.cons (.v _ _ _) (.cons (.v _ _ _) .nil))) (by simp) ?_;rintro _ rfl;simp;apply V;exact J.ret func60 (aK.one results60) (hQ _ _ _ _ (.v _ _ _) rfl)
def Dj (b:aG) (x:Int):Bool:=within x 0 ((b.nodes.length:Int) - 1)
def nP (sig:cV) (b:aG) (below:Nat):Prop:=∀ i,i<below->0<=(b.nodes.getD i default).control/\(b.nodes.getD i default).control<sig.length
theorem nL (sig:cV) (b:aG) (parent:Int) (below:Nat) (hr:0<=b.roots/\b.roots<=4) (hb:below<=b.nodes.length) (hc:nP sig b below) :
  aC prog 73 [cG false b,bt false sig,int parent,int below] (fun r=>r=bool (bZ sig b parent below)):=by
 refine aC.of func73 rfl ntmps73 (by simp) fun Q hQ=>?_
 refine zE fun _ V=>?_
 simp [cG, aG.cells];apply V;refine zS fun _ V=>?_
 simp;apply V;refine J.ite rfl (fun hc1 => ?_) (fun hc1 => ?_)
 ·have hc1:parent<0:=by simpa using hc1
  have hw:IntKind.i64.wrap (0 - b.roots) = -b.roots:=by rw[wrap64]<;>omega
  refine zE fun _ V=>?_
  have hw':IntKind.i64.wrap (-b.roots) = -b.roots:=by rw[wrap64]<;>omega
  simp [hw, hw'];apply V;exact J.ret func73 (aK.one results73) (hQ _ _ _ _ (.v _ _ _) (by simp[bZ,hc1]))
 ·have hc1:¬ parent<0:=by simpa using hc1
  apply J.skip;refine zE fun _ V=>?_
  by_cases hlt:parent<(below:Int)
  ·obtain⟨q,rfl⟩:∃ q:Nat,parent=q:=⟨parent.toNat,by omega⟩
   have hq:q<b.nodes.length:=by omega
   have hcq:=hc q (by omega);have hg:b.nodes.getD q default=b.nodes[q]:=by simp[hq]
   rw[hg] at hcq;obtain⟨c,hcc⟩:∃ c:Nat,b.nodes[q].control=c:=⟨b.nodes[q].control.toNat,by omega⟩
   have hcl:c<sig.length:=by omega
   simp [hlt, bB, bt, hq, ay.cells, hcc, hcl, Control.cells, guardOf];apply V;refine J.ret func73 (aK.one results73) (hQ _ _ _ _ (.v _ _ _) ?_);have hlt':q<below:=by omega
   simp[bZ,hlt',hq,hcc,hcl]
   rfl
  ·simp [hlt, guardOf];apply V;exact J.ret func73 (aK.one results73) (hQ _ _ _ _ (.v _ _ _) (by simp[bZ,hc1,hlt]))
theorem pV (sig:cV) (b:aG) (parent:Int) (below:Nat) (hp:bu parent) (hr:0<=b.roots/\b.roots<=4) (hb:below<=b.nodes.length) (hc:nP sig b below) :
  aC prog 59 [bt false sig,cG false b,int parent,int below] (fun r=>r=bool (bZ sig b parent below)):=by
 obtain⟨hp1,hp2⟩:=hp;refine aC.of func59 rfl ntmps59 (by simp) fun Q hQ=>?_
 refine zE fun _ V=>?_
 simp [cG, aG.cells];apply V;refine zS fun _ V=>?_
 simp;apply V;refine J.ite rfl (fun hc1 => ?_) (fun hc1 => ?_)
 ·have hc1:parent<0:=by simpa using hc1
  have hw:IntKind.i64.wrap (-1 - parent) = -1 - parent:=by rw[wrap64]<;>omega
  have hw2:IntKind.i64.wrap (b.roots - 1)=b.roots - 1:=by rw[wrap64]<;>omega
  refine zE fun _ V=>?_
  simp [hw, hw2];refine zA (fI (-1 - parent) 0 (b.roots - 1)) DL (.cons (.v _ _ _) (.cons (.v _ _ _) (.cons (.v _ _ _) .nil))) (by simp) ?_;rintro _ rfl;simp;apply V;refine J.ret func59 (aK.one results59) (hQ _ _ _ _ (.v _ _ _) ?_);have:within (-1 - parent) 0 (b.roots - 1)=decide (-b.roots<=parent):=by
   simp only[within]
   by_cases h : -b.roots<=parent
   ·simp[h];omega
   ·simp[h];omega
  simp[bZ,hc1,this]
 ·have hc1:¬ parent<0:=by simpa using hc1
  apply J.skip;refine zE fun _ V=>?_
  by_cases hlt:parent<(below:Int)
  ·obtain⟨q,rfl⟩:∃ q:Nat,parent=q:=⟨parent.toNat,by omega⟩
   have hq:q<b.nodes.length:=by omega
   have hcq:=hc q (by omega);have hg:b.nodes.getD q default=b.nodes[q]:=by simp[hq]
   rw[hg] at hcq;obtain⟨c,hcc⟩:∃ c:Nat,b.nodes[q].control=c:=⟨b.nodes[q].control.toNat,by omega⟩
   have hcl:c<sig.length:=by omega
   simp [hlt, bB, bt, hq, ay.cells, hcc, hcl, Control.cells, guardOf];apply V;refine J.ret func59 (aK.one results59) (hQ _ _ _ _ (.v _ _ _) ?_);have hlt':q<below:=by omega
   simp[bZ,hlt',hq,hcc,hcl]
   rfl
  ·simp [hlt, guardOf];apply V;exact J.ret func59 (aK.one results59) (hQ _ _ _ _ (.v _ _ _) (by simp[bZ,hc1,hlt]))
end Go.Ab
namespace Go.Ab
open Go.Proofs
theorem e71:aZ prog 71:=aZ.of func71 (by kernel_rfl) rfl
theorem e56:aZ prog 56:=aZ.of func56 (by kernel_rfl) rfl
theorem tx:∀ (s p:bc),(Op.bytesLess s p || s == p) = !Op.bytesLess p s
 | [],[]=>by simp[Op.bytesLess]
 | [],_::_=>by simp[Op.bytesLess]
 | _::_,[]=>by simp[Op.bytesLess]
 | a::x,b::y=>by
  have ih:=tx x y;simp only[Op.bytesLess];rcases Nat.lt_trichotomy a.toNat b.toNat with h | h | h
  ·have h1:a<b:=h;have h2:¬ b<a:=fun h'=>by have h':b.toNat<a.toNat:=h';omega
   have h3:(b == a)=false:=by
    rw[beq_eq_false_iff_ne];rintro rfl;omega
   simp[h1,h2,h3]
  ·have h0:a=b:=UInt8.toNat_inj.1 h;subst h0;have h2:¬ a<a:=fun h'=>by have h':a.toNat<a.toNat:=h';omega
   simp[h2];rw[<- ih];try (cases Op.bytesLess x y<;>simp)
   try (by_cases hxy:x=y<;>simp[hxy])
  ·have h1:b<a:=h;have h2:¬ a<b:=fun h'=>by have h':a.toNat<b.toNat:=h';omega
   have h3:(a == b)=false:=by
    rw[beq_eq_false_iff_ne];rintro rfl;omega
   have h4:¬ a=b:=by simpa using h3
   simp[h1,h2,h4]
theorem dE {n k:Nat} {q:Nat->Bool} (hk:k<n) (h:q k=false):(List.range n).all q=false:=by
 rw[List.all_eq_false];exact⟨k,by simpa using hk,by simp[h]⟩
theorem dG {n:Nat} {q:Nat->Bool} (h:∀ i,i<n->q i=true):(List.range n).all q=true:=by
 simpa[List.all_eq_true] using h
def en (l:List bc) (i:Nat):Bool:=kC (l.getD i []) && km l i
theorem eL (l:List bc):cA l=(decide (l.length<=16) && (List.range l.length).all (en l)):=rfl
theorem od (l:List bc) (hl:l.length<=1048576) (hs:∀ s ∈ l,s.length<=1048576):aC prog 71 [encS false l] (fun r=>r=bool (cA l)):=by
 refine aC.of func71 rfl ntmps71 (by simp) fun Q hQ=>?_
 refine zE fun k' V=>?_
 simp [encS];apply V;refine zS fun k' V=>?_
 simp;apply V;refine J.block (J.bM l.length (fun k O H n=>O 0 = .list false (l.map a7)/\O 5 = .list false (l.map a7)/\O 6=int l.length/\O 7=int k/\∀ i,i<k->en l i=true) ?_ ?_)
 ·simp
 ·rintro k O H n hk ⟨h0,h5,h6,h7,hall⟩ IH;refine zE fun k' V=>?_
  simp [h6, h7];apply V;apply J.seq;refine J.ite rfl (fun hc1 => ?_) (fun hc1 => ?_)
  ·have hc1:k<l.length:=by simpa using hc1
   apply zK;apply J.block;refine zE fun k' V=>?_
   simp [h5, h7, hc1, a7];apply V;refine zE fun k' V=>?_
   have fin:∀ O:Env,O 0 = .list false (l.map a7)->O 5 = .list false (l.map a7)->O 6=int l.length->O 7=int k->O 27=bool (!en l k)->J prog 71 32 k' O H n Q:=by
    intro O h0 h5 h6 h7 h27;apply V;refine J.ite h27 (fun hc2 => ?_) (fun hc2 => ?_)
    ·have hb:en l k=false:=by simpa using hc2
     refine zE fun k' V=>?_
     simp;apply V;exact J.ret func71 (aK.one results71) (hQ _ _ _ _ (.v _ _ _) (by rw[eL,dE hc1 hb,Bool.and_false]))
    ·have hb:en l k=true:=by simpa using hc2
     apply J.skip;refine zI fun k' V=>?_
     simp [h7, bf (show k < 4611686018427387904 by omega)];apply V;refine IH hc1 _ _ _ ⟨by simp[h0],by simp[h5],by simp[h6],by simp,fun i hi=>?_⟩;rcases Nat.lt_or_ge i k with h | h
     ·exact hall i h
     ·rw[show i=k by omega];exact hb
   have hgk:l.getD k []=l[k]:=by simp[hc1]
   simp;refine zA (rE l[k] (Nat.le_trans (hs _ (List.getElem_mem hc1)) (by decide))) e106 (.cons (.v _ _ _) .nil) (by simp) ?_;rintro _ rfl;cases hnm:kC l[k]
   ·simp[guardOf];exact fin _ (by simp[h0]) (by simp[h5]) (by simp[h6]) (by simp[h7]) (by simp[en,hc1,hnm])
   ·by_cases hk0:k=0
    ·subst hk0;simp[guardOf];exact fin _ (by simp[h0]) (by simp[h5]) (by simp[h6]) (by simp[h7]) (by simp[en,hc1,hnm,km])
    ·have hk1:0<k:=by omega
     have hw:IntKind.i64.wrap ((k:Int) - 1)=((k - 1:Nat):Int):=by rw[wrap64]<;>omega
     have hkl:k - 1<l.length:=by omega
     have hgk1:l.getD (k - 1) []=l[k - 1]:=by simp[hkl]
     have hp:=tx l[k] l[k - 1];simp[guardOf,hk1,h0,hw,hkl,a7];refine fin _ (by simp[h0]) (by simp[h5]) (by simp[h6]) (by simp[h7]) ?_;simp only[en,hgk,hnm,km,hgk1,hk0,decide_false,Bool.false_or,Bool.true_and];rw[<- hp];simp
  ·have hc1:¬ k<l.length:=by simpa using hc1
   have hke:k=l.length:=by omega
   subst hke;refine J.exit rfl ?_;refine zE fun k' V=>?_
   simp [h0];apply V;refine J.ret func71 (aK.one results71) (hQ _ _ _ _ (.v _ _ _) ?_);rw[eL,dG hall];simp;omega
end Go.Ab
namespace Go.Ab
open Go.Proofs
theorem e72:aZ prog 72:=aZ.of func72 (by kernel_rfl) rfl
theorem e57:aZ prog 57:=aZ.of func57 (by kernel_rfl) rfl
theorem qy (l:List bc) (hl:l.length<=1048576) (hs:∀ s ∈ l,s.length<=1048576):aC prog 56 [encS false l] (fun r=>r=bool (cA l)):=by
 refine aC.of func56 rfl ntmps56 (by simp) fun Q hQ=>?_
 refine zE fun k' V=>?_
 simp [encS];apply V;refine zS fun k' V=>?_
 simp;apply V;refine J.block (J.bM l.length (fun k O H n=>O 0 = .list false (l.map a7)/\O 3=int k/\∀ i,i<k->en l i=true) ?_ ?_)
 ·simp
 ·rintro k O H n hk ⟨h0,h3,hall⟩ IH;refine zS fun k' V=>?_
  simp [h0, h3];apply V;refine J.ite rfl (fun hc1 => ?_) (fun hc1 => ?_)
  ·have hc1:k<l.length:=by simpa using hc1
   apply zK;apply J.block;refine J.fv av aE bL (by decide) (by kernel_rfl) fun k' V=>?_
   have fin:∀ O:Env,O 0 = .list false (l.map a7)->O 3=int k->O 31=bool (!en l k)->J prog 56 35 k' O H n Q:=by
    intro O h0 h3 h31;apply V;refine J.ite h31 (fun hc2=>?_) (fun hc2=>?_)
    ·have hb:en l k=false:=by simpa using hc2
     refine zE fun k' V=>?_
     simp;apply V;exact J.ret func56 (aK.one results56) (hQ _ _ _ _ (.v _ _ _) (by rw[eL,dE hc1 hb,Bool.and_false]))
    ·have hb:en l k=true:=by simpa using hc2
     apply J.skip;refine zI fun k' V=>?_
     simp [h3, bf (show k < 4611686018427387904 by omega)];apply V;refine IH hc1 _ _ _ ⟨by simp[h0],by simp,fun i hi=>?_⟩;rcases Nat.lt_or_ge i k with h | h
     ·exact hall i h
     ·rw[show i=k by omega];exact hb
   have hgk:l.getD k []=l[k]:=by simp[hc1]
   simp [h0, h3, hc1, a7];refine bh.b7 av aE (rI l[k] (Nat.le_trans (hs _ (List.getElem_mem hc1)) (by decide))) e97 (.cons (.v _ _ _) .nil) (by decide) rfl (by simp) ?_;cases hnm:kC l[k]
   ·simp[guardOf];exact fin _ (by simp[h0,a7]) (by simp[h3]) (by simp[en,hc1,hnm])
   ·by_cases hk0:k=0
    ·subst hk0;simp[h3,guardOf];exact fin _ (by simp[h0,a7]) (by simp[h3]) (by simp[en,hc1,hnm,km])
    ·have hk1:0<k:=by omega
     have hw:IntKind.i64.wrap ((k:Int) - 1)=((k - 1:Nat):Int):=by rw[wrap64]<;>omega
     have hkl:k - 1<l.length:=by omega
     have hgk1:l.getD (k - 1) []=l[k - 1]:=by simp[hkl]
     simp[guardOf,hk1,h0,h3,hw,hkl,hc1,a7];refine fin _ (by simp[h0,a7]) (by simp[h3]) ?_;simp only[en,hgk,hnm,km,hgk1,hk0,decide_false,Bool.false_or,Bool.true_and];simp
  ·have hc1:¬ k<l.length:=by simpa using hc1
   have hke:k=l.length:=by omega
   subst hke;refine J.exit rfl ?_;refine zE fun k' V=>?_
   simp [h0];apply V;refine J.ret func56 (aK.one results56) (hQ _ _ _ _ (.v _ _ _) ?_);rw[eL,dG hall];simp;omega
def names (b:aG):List bc:=b.inner.map (·.name)
theorem q0 (b:aG) (hl:b.inner.length<=1048576):aC prog 72 [cG false b] (fun r=>r=encS true (names b)):=by
 refine aC.of func72 rfl ntmps72 (by simp) fun Q hQ=>?_
 refine zE fun _ V=>?_
 simp [cG, aG.cells];apply V;refine zE fun _ V=>?_
 simp;apply V;refine zS fun _ V=>?_
 simp [bH];apply V;refine J.block (J.bM b.inner.length (fun k O H n=>O 8 = .list false (b.inner.map aN.cells)/\O 9=int b.inner.length/\O 10=int k/\O 3 = .arr (1,6) k 0 k/\H (1,6)=some ⟨1,((names b).take k).map a7⟩) ?_ ?_)
 ·simp
 ·rintro k O H n hk ⟨h8,h9,h10,h3,hH⟩ IH;refine zE fun _ V=>?_
  simp [h9, h10];apply V;apply J.seq;refine J.ite rfl (fun hc1 => ?_) (fun hc1 => ?_)
  ·have hc1:k<b.inner.length:=by simpa using hc1
   have htk:(((names b).take k).map a7).length=k:=by simp[names];omega
   have hts:(names b).take (k+1)=(names b).take k++[b.inner[k].name]:=by
    rw[List.take_succ_eq_append_getElem (by simpa[names] using hc1)];simp[names]
   apply zK;apply J.block;refine zE fun _ V=>?_
   simp [h8, h10, hc1, aN.cells];apply V;refine zF fun _ V=>?_
   generalize hels:((names b).take k).map a7=els at hH htk;simp [h3, hH, htk, live, show k <= 1073741823 by omega];apply V;refine zI fun _ V=>?_
   simp [h10, bf (show k < 4611686018427387904 by omega)];apply V;refine IH hc1 _ _ _ ⟨by simp[h8],by simp[h9],by simp,by simp,?_⟩;simp[hts,<- hels,a7]
  ·have hc1:¬ k<b.inner.length:=by simpa using hc1
   have hke:k=b.inner.length:=by omega
   subst hke;refine J.exit rfl ?_;refine zE fun _ V=>?_
   simp [h3];apply V;have he:(names b).take b.inner.length=names b:=List.take_of_length_le (by simp[names]);rw[he] at hH;exact J.ret func72 (aK.one results72) (hQ _ _ _ _ (.of (ic.xh (by simp[live,hH,names];rfl) (by simp[a7]))) rfl)
theorem wG (b:aG) (hl:b.inner.length<=1048576):aC prog 57 [cG false b] (fun r=>r=encS true (names b)):=by
 refine aC.of func57 rfl ntmps57 (by simp) fun Q hQ=>?_
 refine zE fun _ V=>?_
 simp [cG, aG.cells];apply V;refine zE fun _ V=>?_
 simp;apply V;refine zS fun _ V=>?_
 simp [bH];apply V;refine J.block (J.bM b.inner.length (fun k O H n=>O 1 = .ptr (0,1) 1 0 0/\H (0,1)=some ⟨6,[b.cells false]⟩/\O 4=int k/\O 3 = .arr (1,5) k 0 k/\H (1,5)=some ⟨1,((names b).take k).map a7⟩) ?_ ?_)
 ·simp[aG.cells,bH]
 ·rintro k O H n hk ⟨h1,hb,h4,h3,hH⟩ IH;refine zS fun _ V=>?_
  simp [h1, hb, h4, aG.cells, bH];apply V;refine J.ite rfl (fun hc1 => ?_) (fun hc1 => ?_)
  ·have hc1:k<b.inner.length:=by simpa using hc1
   have htk:(((names b).take k).map a7).length=k:=by simp[names];omega
   have hts:(names b).take (k+1)=(names b).take k++[b.inner[k].name]:=by
    rw[List.take_succ_eq_append_getElem (by simpa[names] using hc1)];simp[names]
   apply zK;apply J.block;refine zF fun _ V=>?_
   generalize hels:((names b).take k).map a7=els at hH htk;simp [h1, hb, h3, h4, hH, htk, hc1, live, aG.cells, bH, aN.cells, show k <= 1073741823 by omega];apply V;refine zI fun _ V=>?_
   simp [h4, bf (show k < 4611686018427387904 by omega)];apply V;refine IH hc1 _ _ _ ⟨by simp[h1],by simp[hb,aG.cells,bH],by simp,by simp,?_⟩;simp[hts,<- hels,a7]
  ·have hc1:¬ k<b.inner.length:=by simpa using hc1
   have hke:k=b.inner.length:=by omega
   subst hke;refine J.exit rfl ?_;refine zE fun _ V=>?_
   simp [h3];apply V;have he:(names b).take b.inner.length=names b:=List.take_of_length_le (by simp[names]);rw[he] at hH;exact J.ret func57 (aK.one results57) (hQ _ _ _ _ (.of (ic.xh (by simp[live,hH,names];rfl) (by simp[a7]))) rfl)
end Go.Ab
namespace Go.Ab
open Go.Proofs
def qN {α:Type} (l:List α) (p:α->Bool):Int:=if l.findIdx p<l.length then (l.findIdx p:Int) else -1
theorem oy {α:Type} {l:List α} {p:α->Bool} {k:Nat} (hk:k<l.length) (h:p l[k]=true) (hno:∀ i (h:i<l.length),i<k->p l[i]=false):qN l p=k:=by
 have:l.findIdx p=k:=(List.findIdx_eq hk).2 ⟨h,fun j hj=>hno j (by omega) hj⟩;rw[qN,this,if_pos hk]
theorem oA {α:Type} {l:List α} {p:α->Bool} (hno:∀ i (h:i<l.length),p l[i]=false):qN l p = -1:=by
 have:l.findIdx p=l.length:=List.findIdx_eq_length.2 fun x hx=>by
  obtain⟨i,hi,rfl⟩:=List.getElem_of_mem hx;exact hno i hi
 rw[qN,this,if_neg (Nat.lt_irrefl _)]
theorem mg {α:Type} (l:List α) (p:α->Bool):decide (0<=qN l p)=l.any p:=by
 unfold qN;cases h:l.any p
 ·have:l.findIdx p=l.length:=List.findIdx_eq_length.2 fun x hx=>by
   rw[List.any_eq_false] at h;simpa using h x hx
  rw[if_neg (by omega)];simp
 ·have:l.findIdx p<l.length:=by
   rw[List.findIdx_lt_length];simpa[List.any_eq_true] using h
  rw[if_pos this];simp
theorem e109:aZ prog 109:=aZ.of func109 (by kernel_rfl) rfl
theorem e74:aZ prog 74:=aZ.of func74 (by kernel_rfl) rfl
theorem qH {H:Heap} {n:Nat} {cl:I} (t:Bool) (l:List (Int)) (p:Int->Bool) (hl:l.length<=1048576) (hcl:∀ x ∈ l,jC prog H n cl [int x] (fun r=>r=bool (p x))) :
  cL prog 109 [.list t (l.map au),cl] H n (fun r=>r=int (qN l p)):=by
 refine cL.of func109 rfl ntmps109 (by simp) fun Q _ hQ=>?_
 refine zE fun _ V=>?_
 simp;apply V;refine zS fun _ V=>?_
 simp;apply V;refine J.block (J.bM l.length (fun k O H' n'=>O 0 = .list t (l.map au)/\O 1=cl/\O 7=int l.length/\O 8=int k/\H'=H/\n'=n/\∀ i (h:i<l.length),i<k->p l[i]=false) ?_ ?_)
 ·simp
 ·rintro k O H' n' hk ⟨h0,h1,h7,h8,rfl,rfl,hno⟩ IH;refine zE fun _ V=>?_
  simp [h7, h8];apply V;apply J.seq;refine J.ite rfl (fun hc1 => ?_) (fun hc1 => ?_)
  ·have hc1:k<l.length:=by simpa using hc1
   apply zK;apply J.block;refine zE fun _ V=>?_
   simp [h8];apply V;refine zE fun _ V=>?_
   simp [h0, h1, hc1, au];refine bw.Bk av (hcl l[k] (List.getElem_mem hc1)) (by decide) (by decide) (by simp[h1]) (by simp) ?_;rintro _ rfl;simp;apply V;refine J.ite rfl (fun hc2 => ?_) (fun hc2 => ?_)
   ·have hc2:p l[k]=true:=by simpa using hc2
    refine zE fun _ V=>?_
    simp;apply V;refine J.ret func109 (aK.one results109) (hQ _ _ _ _ (.qO (.v _)) (Frame.refl _ _) ?_);simp[oy hc1 hc2 hno]
   ·have hc2:p l[k]=false:=by simpa using hc2
    apply J.skip;refine zI fun _ V=>?_
    simp [h8, bf (show k < 4611686018427387904 by omega)];apply V;refine IH hc1 _ _ _ ⟨by simp[h0,au],by simp[h1],by simp[h7],by simp,rfl,rfl,fun i h hi=>?_⟩;rcases Nat.lt_or_ge i k with hik | hik
    ·exact hno i h hik
    ·have:i=k:=by omega
     subst this;exact hc2
  ·have hc1:¬ k<l.length:=by simpa using hc1
   have hke:k=l.length:=by omega
   subst hke;refine J.exit rfl ?_;refine zE fun _ V=>?_
   simp;apply V;refine J.ret func109 (aK.one results109) (hQ _ _ _ _ (.qO (.v _)) (Frame.refl _ _) ?_);simp[oA fun i h=>hno i h h]
theorem iw {H:Heap} {n:Nat} {cl:I} (t:Bool) (l:List (Int)) (p:Int->Bool) (hl:l.length<=1048576) (hcl:∀ x ∈ l,jC prog H n cl [int x] (fun r=>r=bool (p x))) :
  cL prog 74 [.list t (l.map au),cl] H n (fun r=>r=bool (l.any p)):=by
 refine cL.of func74 rfl ntmps74 (by simp) fun Q _ hQ=>?_
 refine zE fun _ V=>?_
 simp;apply V;refine zE fun _ V=>?_
 simp;refine bw.je av (qH t l p hl hcl) e109 (by decide) (by decide) rfl (by simp) ?_;rintro _ rfl;simp;apply V;refine J.ret func74 (aK.one results74) (hQ _ _ _ _ (.qO (.v _)) (Frame.refl _ _) ?_);simp[mg]
theorem e110:aZ prog 110:=aZ.of func110 (by kernel_rfl) rfl
theorem e78:aZ prog 78:=aZ.of func78 (by kernel_rfl) rfl
theorem qK {H:Heap} {n:Nat} {cl:I} (t:Bool) (l:List (aN)) (p:aN->Bool) (hl:l.length<=1048576) (hcl:∀ x ∈ l,jC prog H n cl [.agg x.cells] (fun r=>r=bool (p x))) :
  cL prog 110 [.list t (l.map aN.cells),cl] H n (fun r=>r=int (qN l p)):=by
 refine cL.of func110 rfl ntmps110 (by simp) fun Q _ hQ=>?_
 refine zE fun _ V=>?_
 simp;apply V;refine zS fun _ V=>?_
 simp;apply V;refine J.block (J.bM l.length (fun k O H' n'=>O 0 = .list t (l.map aN.cells)/\O 1=cl/\O 7=int l.length/\O 8=int k/\H'=H/\n'=n/\∀ i (h:i<l.length),i<k->p l[i]=false) ?_ ?_)
 ·simp
 ·rintro k O H' n' hk ⟨h0,h1,h7,h8,rfl,rfl,hno⟩ IH;refine zE fun _ V=>?_
  simp [h7, h8];apply V;apply J.seq;refine J.ite rfl (fun hc1 => ?_) (fun hc1 => ?_)
  ·have hc1:k<l.length:=by simpa using hc1
   apply zK;apply J.block;refine zE fun _ V=>?_
   simp [h8];apply V;refine zE fun _ V=>?_
   simp [h0, h1, hc1, aN.cells];refine bw.Bk av (hcl l[k] (List.getElem_mem hc1)) (by decide) (by decide) (by simp[h1]) (by simp[aN.cells]) ?_;rintro _ rfl;simp;apply V;refine J.ite rfl (fun hc2 => ?_) (fun hc2 => ?_)
   ·have hc2:p l[k]=true:=by simpa using hc2
    refine zE fun _ V=>?_
    simp;apply V;refine J.ret func110 (aK.one results110) (hQ _ _ _ _ (.qO (.v _)) (Frame.refl _ _) ?_);simp[oy hc1 hc2 hno]
   ·have hc2:p l[k]=false:=by simpa using hc2
    apply J.skip;refine zI fun _ V=>?_
    simp [h8, bf (show k < 4611686018427387904 by omega)];apply V;refine IH hc1 _ _ _ ⟨by simp[h0,aN.cells],by simp[h1],by simp[h7],by simp,rfl,rfl,fun i h hi=>?_⟩;rcases Nat.lt_or_ge i k with hik | hik
    ·exact hno i h hik
    ·have:i=k:=by omega
     subst this;exact hc2
  ·have hc1:¬ k<l.length:=by simpa using hc1
   have hke:k=l.length:=by omega
   subst hke;refine J.exit rfl ?_;refine zE fun _ V=>?_
   simp;apply V;refine J.ret func110 (aK.one results110) (hQ _ _ _ _ (.qO (.v _)) (Frame.refl _ _) ?_);simp[oA fun i h=>hno i h h]
theorem nz {H:Heap} {n:Nat} {cl:I} (t:Bool) (l:List (aN)) (p:aN->Bool) (hl:l.length<=1048576) (hcl:∀ x ∈ l,jC prog H n cl [.agg x.cells] (fun r=>r=bool (p x))) :
  cL prog 78 [.list t (l.map aN.cells),cl] H n (fun r=>r=bool (l.any p)):=by
 refine cL.of func78 rfl ntmps78 (by simp) fun Q _ hQ=>?_
 refine zE fun _ V=>?_
 simp;apply V;refine zE fun _ V=>?_
 simp;refine bw.je av (qK t l p hl hcl) e110 (by decide) (by decide) rfl (by simp) ?_;rintro _ rfl;simp;apply V;refine J.ret func78 (aK.one results78) (hQ _ _ _ _ (.qO (.v _)) (Frame.refl _ _) ?_);simp[mg]
theorem e136:aZ prog 136:=aZ.of func136 (by kernel_rfl) rfl
theorem e107:aZ prog 107:=aZ.of func107 (by kernel_rfl) rfl
theorem qG {H:Heap} {n:Nat} {cl:I} (t:Bool) (l:List (Control)) (p:Control->Bool) (hl:l.length<=1048576) (hcl:∀ x ∈ l,jC prog H n cl [.agg x.cells] (fun r=>r=bool (p x))) :
  cL prog 136 [.list t (l.map Control.cells),cl] H n (fun r=>r=int (qN l p)):=by
 refine cL.of func136 rfl ntmps136 (by simp) fun Q _ hQ=>?_
 refine zE fun _ V=>?_
 simp;apply V;refine zS fun _ V=>?_
 simp;apply V;refine J.block (J.bM l.length (fun k O H' n'=>O 0 = .list t (l.map Control.cells)/\O 1=cl/\O 7=int l.length/\O 8=int k/\H'=H/\n'=n/\∀ i (h:i<l.length),i<k->p l[i]=false) ?_ ?_)
 ·simp
 ·rintro k O H' n' hk ⟨h0,h1,h7,h8,rfl,rfl,hno⟩ IH;refine zE fun _ V=>?_
  simp [h7, h8];apply V;apply J.seq;refine J.ite rfl (fun hc1 => ?_) (fun hc1 => ?_)
  ·have hc1:k<l.length:=by simpa using hc1
   apply zK;apply J.block;refine zE fun _ V=>?_
   simp [h8];apply V;refine zE fun _ V=>?_
   simp [h0, h1, hc1, Control.cells];refine bw.Bk av (hcl l[k] (List.getElem_mem hc1)) (by decide) (by decide) (by simp[h1]) (by simp[Control.cells]) ?_;rintro _ rfl;simp;apply V;refine J.ite rfl (fun hc2 => ?_) (fun hc2 => ?_)
   ·have hc2:p l[k]=true:=by simpa using hc2
    refine zE fun _ V=>?_
    simp;apply V;refine J.ret func136 (aK.one results136) (hQ _ _ _ _ (.qO (.v _)) (Frame.refl _ _) ?_);simp[oy hc1 hc2 hno]
   ·have hc2:p l[k]=false:=by simpa using hc2
    apply J.skip;refine zI fun _ V=>?_
    simp [h8, bf (show k < 4611686018427387904 by omega)];apply V;refine IH hc1 _ _ _ ⟨by simp[h0,Control.cells],by simp[h1],by simp[h7],by simp,rfl,rfl,fun i h hi=>?_⟩;rcases Nat.lt_or_ge i k with hik | hik
    ·exact hno i h hik
    ·have:i=k:=by omega
     subst this;exact hc2
  ·have hc1:¬ k<l.length:=by simpa using hc1
   have hke:k=l.length:=by omega
   subst hke;refine J.exit rfl ?_;refine zE fun _ V=>?_
   simp;apply V;refine J.ret func136 (aK.one results136) (hQ _ _ _ _ (.qO (.v _)) (Frame.refl _ _) ?_);simp[oA fun i h=>hno i h h]
theorem mS {H:Heap} {n:Nat} {cl:I} (t:Bool) (l:List (Control)) (p:Control->Bool) (hl:l.length<=1048576) (hcl:∀ x ∈ l,jC prog H n cl [.agg x.cells] (fun r=>r=bool (p x))) :
  cL prog 107 [.list t (l.map Control.cells),cl] H n (fun r=>r=bool (l.any p)):=by
 refine cL.of func107 rfl ntmps107 (by simp) fun Q _ hQ=>?_
 refine zE fun _ V=>?_
 simp;apply V;refine zE fun _ V=>?_
 simp;refine bw.je av (qG t l p hl hcl) e136 (by decide) (by decide) rfl (by simp) ?_;rintro _ rfl;simp;apply V;refine J.ret func107 (aK.one results107) (hQ _ _ _ _ (.qO (.v _)) (Frame.refl _ _) ?_);simp[mg]
end Go.Ab
namespace Go.Ab
open Go.Proofs
theorem e69:aZ prog 69:=aZ.of func69 (by kernel_rfl) rfl
theorem e54:aZ prog 54:=aZ.of func54 (by kernel_rfl) rfl
theorem e108:aZ prog 108:=aZ.of func108 (by kernel_rfl) rfl
theorem Dp {H:Heap} {n:Nat} {X:Id} (c:Control) (hX:H X=some ⟨3,[c.cells]⟩) (d:Control):jC prog H n (.fn (.func 108) [] [.ptr X 1 0 0]) [.agg d.cells] (fun r=>r=bool (d.name == c.name)):=by
 refine⟨108,[],[.ptr X 1 0 0],rfl,e108,?_⟩;refine cL.of func108 rfl ntmps108 (by simp) fun Q hB hQ=>?_
 have hXn:=(hB X _ hX).1;have hX2:¬ X=(n,2):=by rintro rfl;simp at hXn
 refine zE fun _ V=>?_
 simp [Control.cells];apply V;refine zE fun _ V=>?_
 simp [hX2, hX, Control.cells];apply V;exact J.ret func108 (aK.one results108) (hQ _ _ _ _ (.qO (.v _)) (Frame.set (by simp) (Frame.refl _ _)) (by simp))
def gP (sig:cV) (i:Nat):Bool:=cH (sig.getD i default) && newName sig i
theorem gf (sig:cV):eM sig=(within sig.length 1 6 && (List.range sig.length).all (gP sig)):=rfl
theorem qv (sig:cV) (hl:sig.length<=1048576) (hs:∀ c ∈ sig,c.name.length<=1048576):aC prog 69 [bt false sig] (fun r=>r=bool (eM sig)):=by
 refine aC.of func69 rfl ntmps69 (by simp) fun Q hQ=>?_
 refine zE fun k' V=>?_
 simp [bt];apply V;refine zS fun k' V=>?_
 simp;refine zA (eA sig.length 1 6) Eu (.cons (.v _ _ _) (.cons (.v _ _ _) (.cons (.v _ _ _) .nil))) (by simp) ?_;rintro _ rfl;simp;apply V;refine J.ite rfl (fun hc1 => ?_) (fun hc1 => ?_)
 ·have hw:within sig.length 1 6=false:=by simpa using hc1
  refine zE fun k' V=>?_
  simp;apply V;exact J.ret func69 (aK.one results69) (hQ _ _ _ _ (.v _ _ _) (by rw[gf,hw,Bool.false_and]))
 ·have hw:within sig.length 1 6=true:=by simpa using hc1
  apply J.skip;refine zS fun k' V=>?_
  simp;apply V;refine J.block (J.bM sig.length (fun k O H n=>O 0 = .list false (sig.map Control.cells)/\O 9 = .list false (sig.map Control.cells)/\O 10=int sig.length/\O 11=int k/\∀ i,i<k->gP sig i=true) ?_ ?_)
  ·simp
  ·rintro k O H n hk ⟨h0,h9,h10,h11,hall⟩ IH;refine zE fun k' V=>?_
   simp [h10, h11];apply V;apply J.seq;refine J.ite rfl (fun hc1 => ?_) (fun hc1 => ?_)
   ·have hc1:k<sig.length:=by simpa using hc1
    have hgk:sig.getD k default=sig[k]:=by simp[hc1]
    apply zK;apply J.block;refine zE fun k' V=>?_
    simp [h9, h11, hc1, Control.cells];apply V;refine J.cut (fun O H n=>O 0 = .list false (sig.map Control.cells)/\O 9 = .list false (sig.map Control.cells)/\O 10=int sig.length/\O 11=int k/\O 3=int k/\∃ m,O 4 = .ptr (m,4) 1 0 0/\H (m,4)=some ⟨3,[sig[k].cells]⟩) ?_ ?_
    ·exact⟨by simp[h0],by simp[h9],by simp[h10],by simp[h11],by simp,n,by simp,by simp[Control.cells]⟩
    clear V h0 h9 h10 h11;rintro O H n ⟨h0,h9,h10,h11,h3,m,h4,hm⟩;refine zE fun k' V=>?_
    have fin:∀ O:Env,O 0 = .list false (sig.map Control.cells)->O 9 = .list false (sig.map Control.cells)->O 10=int sig.length->O 11=int k->O 38=bool (!gP sig k)->J prog 69 40 k' O H n Q:=by
     intro O h0 h9 h10 h11 h38;apply V;refine J.ite h38 (fun hc2 => ?_) (fun hc2 => ?_)
     ·have hb:gP sig k=false:=by simpa using hc2
      refine zE fun k' V=>?_
      simp;apply V;exact J.ret func69 (aK.one results69) (hQ _ _ _ _ (.v _ _ _) (by rw[gf,dE hc1 hb,Bool.and_false]))
     ·have hb:gP sig k=true:=by simpa using hc2
      apply J.skip;refine zI fun k' V=>?_
      simp [h11, bf (show k < 4611686018427387904 by omega)];apply V;refine IH hc1 _ _ _ ⟨by simp[h0],by simp[h9],by simp[h10],by simp,fun i hi=>?_⟩;rcases Nat.lt_or_ge i k with h | h
      ·exact hall i h
      ·rw[show i=k by omega];exact hb
    have hm':=hm;simp only[Control.cells] at hm';simp [h4, hm'];refine zA (rE sig[k].name (Nat.le_trans (hs _ (List.getElem_mem hc1)) (by decide))) e106 (.cons (.v _ _ _) .nil) (by simp) ?_;rintro _ rfl;cases hnm:kC sig[k].name
    ·simp[guardOf];exact fin _ (by simp[h0]) (by simp[h9]) (by simp[h10]) (by simp[h11]) (by simp only[gP,hgk,cH,hnm];simp)
    ·simp[h4,hm',guardOf];refine zA (eA sig[k].ports 0 3) Eu (.cons (.v _ _ _) (.cons (.v _ _ _) (.cons (.v _ _ _) .nil))) (by simp) ?_;rintro _ rfl;cases hpo:within sig[k].ports 0 3
     ·simp[guardOf];exact fin _ (by simp[h0]) (by simp[h9]) (by simp[h10]) (by simp[h11]) (by simp only[gP,hgk,cH,hnm,hpo];simp)
     ·simp[h4,hm',guardOf];refine zA (eA sig[k].kind 0 2) Eu (.cons (.v _ _ _) (.cons (.v _ _ _) (.cons (.v _ _ _) .nil))) (by simp) ?_;rintro _ rfl;cases hki:within sig[k].kind 0 2
      ·simp[guardOf];exact fin _ (by simp[h0]) (by simp[h9]) (by simp[h10]) (by simp[h11]) (by simp only[gP,hgk,cH,hnm,hpo,hki];simp)
      ·have hkl:(k:Int)<=sig.length:=by omega
       simp[h0,h3,h4,hkl,guardOf,Control.cells];refine bw.je av (mS false (sig.take k) (fun d=>d.name == sig[k].name) (by simp;omega) (fun d _=>Dp sig[k] hm d)) e107 (by decide) (by decide) rfl (by simp[Control.cells]) ?_;rintro _ rfl;simp[guardOf];refine fin _ (by simp[h0,Control.cells]) (by simp[h9,Control.cells]) (by simp[h10]) (by simp[h11]) ?_;simp only[gP,hgk,cH,hnm,hpo,hki,newName];simp
   ·have hc1:¬ k<sig.length:=by simpa using hc1
    have hke:k=sig.length:=by omega
    subst hke;refine J.exit rfl ?_;refine zE fun k' V=>?_
    simp;apply V;exact J.ret func69 (aK.one results69) (hQ _ _ _ _ (.v _ _ _) (by rw[gf,hw,dG hall];rfl))
end Go.Ab
namespace Go.Ab
open Go.Proofs
theorem xp {sig:cV} {i j:Nat} (hi:i<sig.length) (hj:j<i) (h:sig[j].name=sig[i].name):newName sig i=false:=by
 have hg:sig.getD i default=sig[i]:=by simp[hi]
 have:(sig.take i).any (fun d=>d.name == sig[i].name)=true:=by
  rw[List.any_eq_true];refine⟨sig[j],?_,by simpa using h⟩;rw[List.mem_take_iff_getElem];exact⟨j,by omega,rfl⟩
 rw[newName,hg,this]
 rfl
theorem uK {sig:cV} {i:Nat} (hi:i<sig.length) (h:∀ j (hj:j<sig.length),j<i->¬ sig[j].name=sig[i].name):newName sig i=true:=by
 have hg:sig.getD i default=sig[i]:=by simp[hi]
 have:(sig.take i).any (fun d=>d.name == sig[i].name)=false:=by
  rw[List.any_eq_false];intro d hd;rw[List.mem_take_iff_getElem] at hd;obtain⟨j,hj,rfl⟩:=hd;have:=h j (by omega) (by omega);simpa using this
 rw[newName,hg,this]
 rfl
theorem B3 (sig:cV) (hl:sig.length<=1048576) (hs:∀ c ∈ sig,c.name.length<=1048576):aC prog 54 [bt false sig] (fun r=>r=bool (eM sig)):=by
 refine aC.of func54 rfl ntmps54 (by simp) fun Q hQ=>?_
 refine zE fun k' V=>?_
 simp [bt];apply V;refine zS fun k' V=>?_
 simp;apply V;have bad:∀ k,k<sig.length->gP sig k=false->∀ H n,Q (bool false) H n:=fun k hk hb H n=>hQ _ _ _ _ (.v _ _ _) (by rw[gf,dE hk hb,Bool.and_false])
 refine J.block (J.bM sig.length (fun k O H n=>O 0 = .list false (sig.map Control.cells)/\O 3=int k/\∀ i,i<k->gP sig i=true) ?_ ?_)
 ·simp
 ·rintro k O H n hk ⟨h0,h3,hall⟩ IH;refine zS fun k' V=>?_
  simp [h0, h3];apply V;refine J.ite rfl (fun hc1 => ?_) (fun hc1 => ?_)
  ·have hc1:k<sig.length:=by simpa using hc1
   have hgk:sig.getD k default=sig[k]:=by simp[hc1]
   apply zK;apply J.block;refine zS fun k' V=>?_
   have fin:∀ O:Env,O 0 = .list false (sig.map Control.cells)->O 3=int k->O 35=bool (!cH sig[k])->J prog 54 55 k' O H n Q:=by
    intro O h0 h3 h35;apply V;refine J.ite h35 (fun hc2 => ?_) (fun hc2 => ?_)
    ·have hb:cH sig[k]=false:=by simpa using hc2
     refine zE fun k' V=>?_
     simp;apply V;exact J.ret func54 (aK.one results54) (bad k hc1 (by rw[gP,hgk,hb,Bool.false_and]) _ _)
    ·have hb:cH sig[k]=true:=by simpa using hc2
     apply J.skip;refine zE fun k' V=>?_
     simp;apply V;refine J.block (J.bM k (fun j O H n=>O 0 = .list false (sig.map Control.cells)/\O 3=int k/\O 4=int j/\∀ q (hq:q<sig.length),q<j->¬ sig[q].name=sig[k].name) ?_ ?_)
     ·simp[h0,h3]
     ·rintro j O H n hj ⟨h0,h3,h4,hno⟩ IH2;refine zS fun k' V=>?_
      simp [h3, h4];apply V;refine J.ite rfl (fun hc3 => ?_) (fun hc3 => ?_)
      ·have hc3:j<k:=by simpa using hc3
       have hjl:j<sig.length:=by omega
       apply zK;apply J.block;refine J.fv av aE bL (by decide) (by kernel_rfl) fun k' V=>?_
       simp [h0, h3, h4, hc1, hjl, Control.cells];apply V;refine J.ite rfl (fun hc4 => ?_) (fun hc4 => ?_)
       ·have hc4:sig[j].name=sig[k].name:=by simpa using hc4
        refine zE fun k' V=>?_
        simp;apply V;exact J.ret func54 (aK.one results54) (bad k hc1 (by rw[gP,xp hc1 hc3 hc4,Bool.and_false]) _ _)
       ·have hc4:¬ sig[j].name=sig[k].name:=by simpa using hc4
        apply J.skip;refine zI fun k' V=>?_
        simp [h4, bf (show j < 4611686018427387904 by omega)];apply V;refine IH2 hc3 _ _ _ ⟨by simp[h0,Control.cells],by simp[h3],by simp,fun q hq hqj=>?_⟩;rcases Nat.lt_or_ge q j with h | h
        ·exact hno q hq h
        ·have:q=j:=by omega
         subst this;exact hc4
      ·have hc3:¬ j<k:=by simpa using hc3
       have hje:j=k:=by omega
       subst hje;refine J.exit rfl ?_;refine zI fun k' V=>?_
       simp [h3, bf (show j < 4611686018427387904 by omega)];apply V;refine IH hc1 _ _ _ ⟨by simp[h0],by simp,fun i hi=>?_⟩;rcases Nat.lt_or_ge i j with h | h
       ·exact hall i h
       ·rw[show i=j by omega,gP,hgk,hb,uK hc1 hno]
        rfl
   simp [h0, h3, hc1, Control.cells];refine zA (rI sig[k].name (Nat.le_trans (hs _ (List.getElem_mem hc1)) (by decide))) e97 (.cons (.v _ _ _) .nil) (by simp) ?_;rintro _ rfl;cases hnm:kC sig[k].name
   ·simp[guardOf];exact fin _ (by simp[h0,Control.cells]) (by simp[h3]) (by simp only[cH,hnm];simp)
   ·simp[h0,h3,hc1,Control.cells,guardOf];refine zA (fI sig[k].ports 0 3) DL (.cons (.v _ _ _) (.cons (.v _ _ _) (.cons (.v _ _ _) .nil))) (by simp) ?_;rintro _ rfl;cases hpo:within sig[k].ports 0 3
    ·simp[guardOf];exact fin _ (by simp[h0,Control.cells]) (by simp[h3]) (by simp only[cH,hnm,hpo];simp)
    ·simp[h0,h3,hc1,Control.cells,guardOf];refine zA (fI sig[k].kind 0 2) DL (.cons (.v _ _ _) (.cons (.v _ _ _) (.cons (.v _ _ _) .nil))) (by simp) ?_;rintro _ rfl;simp[guardOf];exact fin _ (by simp[h0,Control.cells]) (by simp[h3]) (by simp only[cH,hnm,hpo];simp)
  ·have hc1:¬ k<sig.length:=by simpa using hc1
   have hke:k=sig.length:=by omega
   subst hke;refine J.exit rfl ?_;refine zE fun k' V=>?_
   simp [h0];refine zA (fI sig.length 1 6) DL (.cons (.v _ _ _) (.cons (.v _ _ _) (.cons (.v _ _ _) .nil))) (by simp) ?_;rintro _ rfl;simp;apply V;exact J.ret func54 (aK.one results54) (hQ _ _ _ _ (.v _ _ _) (by rw[gf,dG hall,Bool.and_true]))
end Go.Ab
namespace Go.Ab
open Go.Proofs
theorem e32:aZ prog 32:=aZ.of func32 (by kernel_rfl) rfl
theorem e75:aZ prog 75:=aZ.of func75 (by kernel_rfl) rfl
theorem e77:aZ prog 77:=aZ.of func77 (by kernel_rfl) rfl
theorem e79:aZ prog 79:=aZ.of func79 (by kernel_rfl) rfl
structure gx (sig:cV) (b:aG):Prop where
 sigLen:sig.length<=1048576
 sigNames:∀ c ∈ sig,c.name.length<=1048576
 nodesLen:b.nodes.length<=1048576
 sitesLen:b.sites.length<=1048576
 outerLen:b.outer.length<=1048576
 innerLen:b.inner.length<=1048576
 outerNames:∀ s ∈ b.outer,s.length<=1048576
 innerNames:∀ w ∈ b.inner,w.name.length<=1048576
 linksLen:∀ x ∈ b.nodes,x.links.length<=1048576
 parents:∀ x ∈ b.nodes,bu x.parent
 sites64:∀ p ∈ b.sites,bu p
theorem clos76 {H:Heap} {n:Nat} {X:Id} (b:aG) (he:0<=b.edges/\b.edges<=8) (ho:b.outer.length<=1048576) (hX:H X=some ⟨6,[b.cells false]⟩) (l:Int):jC prog H n (.fn (.func 75) [] [.ptr X 1 0 0]) [int l] (fun r=>r=bool (!c9 b l)):=by
 refine⟨75,[],[.ptr X 1 0 0],rfl,e75,?_⟩;have hX':=hX;simp only[aG.cells] at hX';refine cL.of func75 rfl ntmps75 (by simp) fun Q hB hQ=>?_
 refine zE fun _ V=>?_
 simp;apply V;refine zE fun _ V=>?_
 simp [hX'];refine zA (q9 b l he ho) e76 (.cons (aM.cG false b) (.cons (.v _ _ _) .nil)) (by simp[cG,aG.cells]) ?_;rintro _ rfl;simp;apply V;exact J.ret func75 (aK.one results75) (hQ _ _ _ _ (.qO (.v _)) (Frame.refl _ _) (by simp))
theorem clos80 {H:Heap} {n:Nat} {X:Id} (b:aG) (he:0<=b.edges/\b.edges<=8) (ho:b.outer.length<=1048576) (hX:H X=some ⟨6,[b.cells false]⟩) (w:aN):jC prog H n (.fn (.func 79) [] [.ptr X 1 0 0]) [.agg w.cells] (fun r=>r=bool (!c9 b w.link)):=by
 refine⟨79,[],[.ptr X 1 0 0],rfl,e79,?_⟩;have hX':=hX;simp only[aG.cells] at hX';refine cL.of func79 rfl ntmps79 (by simp) fun Q hB hQ=>?_
 have hXn:=(hB X _ hX).1;have hX2:¬ X=(n,2):=by rintro rfl;simp at hXn
 refine zE fun _ V=>?_
 simp [aN.cells];apply V;refine zE fun _ V=>?_
 simp [hX2, hX'];refine zA (q9 b w.link he ho) e76 (.cons (aM.cG false b) (.cons (.v _ _ _) .nil)) (by simp[cG,aG.cells]) ?_;rintro _ rfl;simp;apply V;exact J.ret func79 (aK.one results79) (hQ _ _ _ _ (.qO (.v _)) (Frame.set (by simp) (Frame.refl _ _)) (by simp))
theorem clos78 {H:Heap} {n:Nat} {X ak:Id} (sig:cV) (b:aG) (hr:0<=b.roots/\b.roots<=4) (hc:nP sig b b.nodes.length) (hX:H X=some ⟨6,[b.cells false]⟩) (hY:H ak=some ⟨1,[[bt false sig]]⟩) (p:Int) :
  jC prog H n (.fn (.func 77) [] [.ptr X 1 0 0,.ptr ak 1 0 0]) [int p] (fun r=>r=bool (!bZ sig b p b.nodes.length)):=by
 refine⟨77,[],[.ptr X 1 0 0,.ptr ak 1 0 0],rfl,e77,?_⟩;have hX':=hX;simp only[aG.cells,bB] at hX';have hY':=hY;simp only[bt] at hY';refine cL.of func77 rfl ntmps77 (by simp) fun Q hB hQ=>?_
 refine zE fun _ V=>?_
 simp;apply V;refine zE fun _ V=>?_
 simp [hX', hY'];refine zA (nL sig b p b.nodes.length hr (Nat.le_refl _) hc) e73 (.cons (aM.cG false b) (.cons (aM.bt false sig) (.cons (.v _ _ _) (.cons (.v _ _ _) .nil)))) (by simp[cG,aG.cells,bB,bt]) ?_;rintro _ rfl;simp;apply V;exact J.ret func77 (aK.one results77) (hQ _ _ _ _ (.qO (.v _)) (Frame.refl _ _) (by simp))
theorem tU {sig:cV} {b:aG} {k:Nat} (h:ck sig b k=true) (hk:nP sig b k):nP sig b (k+1):=by
 intro i hi;rcases Nat.lt_or_ge i k with h1 | h1
 ·exact hk i h1
 ·have:i=k:=by omega
  subst this;simp only[ck,within,Bool.and_eq_true,decide_eq_true_eq] at h;omega
def dy (sig:cV) (b:aG):Bool:=
 eM sig && within b.roots 0 4 && decide (b.nodes.length<=8) && decide (b.sites.length<=4) && within b.edges 0 8 && cA b.outer && cA (names b)
theorem ef (sig:cV) (b:aG):jQ sig b=(dy sig b && (List.range b.nodes.length).all (ck sig b) && b.sites.all (fun p=>bZ sig b p b.nodes.length) && b.inner.all (fun w=>c9 b w.link)):=rfl
theorem sT {α:Type} (l:List α) (p:α->Bool):(l.any fun x => !p x) = !l.all p:=by
 induction l with
 | nil=>rfl
 | cons a l ih=>simp[ih]
theorem sH (sig:cV) (b:aG) (hs:gx sig b):aC prog 32 [bt false sig,cG false b] (fun r=>r=bool (jQ sig b)):=by
 obtain⟨s1,s2,s3,s4,s5,s6,s7,s8,s9,_,_⟩:=hs;have hnl:(names b).length<=1048576:=by simpa[names] using s6
 have hnn:∀ s ∈ names b,s.length<=1048576:=by
  intro s hs;obtain⟨w,hw,rfl⟩:=List.mem_map.1 hs;exact s8 w hw
 refine aC.of func32 rfl ntmps32 (by simp) fun Q hQ=>?_
 refine zE fun k' V=>?_
 simp [bt, cG, aG.cells];apply V;refine J.cut (fun O H n=>O 2 = .ptr (0,2) 1 0 0/\O 3 = .ptr (1,3) 1 0 0/\H (0,2)=some ⟨1,[[bt false sig]]⟩/\H (1,3)=some ⟨6,[b.cells false]⟩) ⟨by simp,by simp,by simp[bt],by simp[aG.cells]⟩ ?_;clear V;rintro O H n ⟨h2,h3,hm2,hm3⟩;have hm2':=hm2;simp only[bt] at hm2';have hm3':=hm3;simp only[aG.cells,bB,encI,encS,bH] at hm3';refine zS fun k' V=>?_
 have fin:∀ O:Env,O 2 = .ptr (0,2) 1 0 0->O 3 = .ptr (1,3) 1 0 0->O 45=bool (!dy sig b)->J prog 32 101 k' O H n Q:=by
  intro O h2 h3 h45;apply V;refine J.ite h45 (fun hc1 => ?_) (fun hc1 => ?_)
  ·have hb:dy sig b=false:=by simpa using hc1
   refine zE fun k' V=>?_
   simp;apply V;exact J.ret func32 (aK.one results32) (hQ _ _ _ _ (.v _ _ _) (by rw[ef,hb];rfl))
  ·have hb:dy sig b=true:=by simpa using hc1
   have hb':=hb;simp only[dy,within,Bool.and_eq_true,decide_eq_true_eq] at hb';obtain⟨⟨⟨⟨⟨⟨_,hr⟩,hn8⟩,_⟩,hed⟩,_⟩,_⟩:=hb';apply J.skip;refine zS fun k' V=>?_
   simp [h3, hm3'];apply V;refine J.block (J.bM b.nodes.length (fun k O H n=>O 2 = .ptr (0,2) 1 0 0/\O 3 = .ptr (1,3) 1 0 0/\O 47 = .list false (b.nodes.map (ay.cells false))/\O 48=int b.nodes.length/\O 49=int k /\
    H (0,2)=some ⟨1,[[bt false sig]]⟩/\H (1,3)=some ⟨6,[b.cells false]⟩/\nP sig b k/\(∀ i,i<k->ck sig b i=true)) ?_ ?_)
   ·exact⟨by simp[h2],by simp[h3],by simp,by simp,by simp,hm2,hm3,fun i hi=>by omega,fun i hi=>by omega⟩
   ·clear h2 h3 hm2' hm3';rintro k O H n hk ⟨h2,h3,h47,h48,h49,hm2,hm3,hctl,hall⟩ IH;have hm2':=hm2;simp only[bt] at hm2';have hm3':=hm3;simp only[aG.cells,bB,encI,encS,bH] at hm3';refine zE fun k' V=>?_
    simp [h48, h49];apply V;apply J.seq;refine J.ite rfl (fun hc2 => ?_) (fun hc2 => ?_)
    ·have hc2:k<b.nodes.length:=by simpa using hc2
     have hgk:b.nodes.getD k default=b.nodes[k]:=by simp[hc2]
     apply zK;apply J.block;refine zE fun k' V=>?_
     simp [h47, h49, hc2, ay.cells];apply V;refine J.cut (fun O H m=>O 2 = .ptr (0,2) 1 0 0/\O 3 = .ptr (1,3) 1 0 0/\O 47 = .list false (b.nodes.map (ay.cells false))/\O 48=int b.nodes.length/\O 49=int k/\O 5=int k/\O 6 = .ptr (n,6) 1 0 0 /\
      H (0,2)=some ⟨1,[[bt false sig]]⟩/\H (1,3)=some ⟨6,[b.cells false]⟩/\H (n,6)=some ⟨3,[b.nodes[k].cells false]⟩/\m=n+1) ?_ ?_
     ·exact⟨by simp[h2],by simp[h3],by simp[h47],by simp[h48],by simp[h49],by simp,by simp,by simp[hm2],by simp[hm3],by simp[ay.cells],rfl⟩
     clear V h2 h3 h47 h48 h49 hm2 hm3 hm2' hm3';rintro O H m ⟨h2,h3,h47,h48,h49,h5,h6,hm2,hm3,hm6,rfl⟩;have hm2':=hm2;simp only[bt] at hm2';have hm3':=hm3;simp only[aG.cells,bB,encI,encS,bH] at hm3';have hm6':=hm6;simp only[ay.cells] at hm6';refine J.fv av aE bL (by decide) (by kernel_rfl) fun k' V=>?_
     have fin:∀ O:Env,O 2 = .ptr (0,2) 1 0 0->O 3 = .ptr (1,3) 1 0 0->O 47 = .list false (b.nodes.map (ay.cells false))->O 48=int b.nodes.length->O 49=int k->O 87=bool (!ck sig b k)->J prog 32 101 k' O H (n+1) Q:=by
      intro O h2 h3 h47 h48 h49 h87;apply V;refine J.ite h87 (fun hc3 => ?_) (fun hc3 => ?_)
      ·have hb:ck sig b k=false:=by simpa using hc3
       refine zE fun k' V=>?_
       simp;apply V;exact J.ret func32 (aK.one results32) (hQ _ _ _ _ (.v _ _ _) (by rw[ef,dE hc2 hb,Bool.and_false];rfl))
      ·have hb:ck sig b k=true:=by simpa using hc3
       apply J.skip;refine zI fun k' V=>?_
       simp [h49, bf (show k < 4611686018427387904 by omega)];apply V;refine IH hc2 _ _ _ ⟨by simp[h2],by simp[h3],by simp[h47],by simp[h48],by simp,hm2,hm3,tU hb hctl,fun i hi=>?_⟩;rcases Nat.lt_or_ge i k with h | h
       ·exact hall i h
       ·rw[show i=k by omega];exact hb
     have hw:IntKind.i64.wrap ((sig.length:Int) - 1)=(sig.length:Int) - 1:=by rw[wrap64]<;>omega
     simp [h2, h6, hm2', hm6', hw];refine bh.b7 av aE (eA b.nodes[k].control 0 ((sig.length:Int) - 1)) Eu (.cons (.v _ _ _) (.cons (.v _ _ _) (.cons (.v _ _ _) .nil))) (by decide) rfl (by simp) ?_;cases q1:within b.nodes[k].control 0 ((sig.length:Int) - 1)
     ·simp[guardOf];exact fin _ (by simp[h2]) (by simp[h3]) (by simp[h47]) (by simp[h48]) (by simp[h49]) (by simp only[ck,hgk,q1];simp)
     simp[h2,h3,h5,h6,hm2',hm3',hm6',guardOf];refine bh.b7 av aE (nL sig b b.nodes[k].parent k hr (by omega) hctl) e73 (.cons (aM.cG false b) (.cons (aM.bt false sig) (.cons (.v _ _ _) (.cons (.v _ _ _) .nil)))) (by decide) rfl (by simp[cG,aG.cells,bB,encI,encS,bH,bt]) ?_;cases q2:bZ sig b b.nodes[k].parent k
     ·simp[guardOf];exact fin _ (by simp[h2]) (by simp[h3]) (by simp[h47]) (by simp[h48]) (by simp[h49]) (by simp only[ck,hgk,q2];simp)
     have q1':=q1;simp only[within,Bool.and_eq_true,decide_eq_true_eq] at q1';obtain⟨c,hc⟩:∃ c:Nat,b.nodes[k].control=c:=⟨b.nodes[k].control.toNat,by omega⟩
     have hcl:c<sig.length:=by omega
     have q1c:=q1;rw[hc] at q1c;have hgc:sig.getD c default=sig[c]:=by simp[hcl]
     by_cases q3:(b.nodes[k].links.length:Int)=sig[c].ports
     ·have q3':((b.nodes[k].links.length:Int) != sig[c].ports)=false:=by simpa using q3
      simp[h2,h3,h6,hm2',hm6',hc,hcl,q3',Control.cells,guardOf];refine bh.je av aE (iw false b.nodes[k].links (fun l => !c9 b l) (s9 _ (List.getElem_mem hc2)) (fun l _=>clos76 b hed s5 hm3 l)) e74 (by decide) rfl (by simp) ?_;simp;refine fin _ (by simp[h2]) (by simp[h3]) (by simp[h47]) (by simp[h48]) (by simp[h49]) ?_;simp only[ck,hgk,q1c,q2,hc,Int.toNat_natCast,hgc,q3,sT];simp
     ·have q3':((b.nodes[k].links.length:Int) != sig[c].ports)=true:=by simpa using q3
      simp[h2,h3,h6,hm2',hm6',hc,hcl,q3',Control.cells,guardOf];exact fin _ (by simp[h2]) (by simp[h3]) (by simp[h47]) (by simp[h48]) (by simp[h49]) (by simp only[ck,hgk,q1c,q2,hc,Int.toNat_natCast,hgc,q3];simp)
    ·have hc2:¬ k<b.nodes.length:=by simpa using hc2
     have hke:k=b.nodes.length:=by omega
     subst hke;have hnodes:=dG hall;refine J.exit rfl ?_;refine zE fun k' V=>?_
     simp [h2, h3, hm3'];refine bw.je av (iw false b.sites (fun p => !bZ sig b p b.nodes.length) s4 (fun p _=>clos78 sig b hr hctl hm3 hm2 p)) e74 (by decide) (by decide) rfl (by simp) ?_;rintro _ rfl;rw[sT];cases r1:b.sites.all (fun p=>bZ sig b p b.nodes.length)
     ·simp[guardOf];apply V;exact J.ret func32 (aK.one results32) (hQ _ _ _ _ (.v _ _ _) (by rw[ef,r1];simp))
     ·simp[h3,hm3',guardOf];refine bw.je av (nz false b.inner (fun w => !c9 b w.link) s6 (fun w _=>clos80 b hed s5 hm3 w)) e78 (by decide) (by decide) rfl (by simp) ?_;rintro _ rfl;rw[sT];simp;apply V;exact J.ret func32 (aK.one results32) (hQ _ _ _ _ (.v _ _ _) (by rw[ef,hb,hnodes,r1];simp))
 simp [h2, hm2'];refine zA (qv sig s1 s2) e69 (.cons (aM.bt false sig) .nil) (by simp[bt]) ?_;rintro _ rfl;cases p1:eM sig
 ·simp[guardOf];exact fin _ (by simp[h2]) (by simp[h3]) (by simp only[dy,p1];simp)
 simp[h3,hm3',guardOf];refine zA (eA b.roots 0 4) Eu (.cons (.v _ _ _) (.cons (.v _ _ _) (.cons (.v _ _ _) .nil))) (by simp) ?_;rintro _ rfl;cases p2:within b.roots 0 4
 ·simp[guardOf];exact fin _ (by simp[h2]) (by simp[h3]) (by simp only[dy,p2];simp)
 by_cases p3:(8:Int)<b.nodes.length
 ·simp[h3,hm3',p3,guardOf];exact fin _ (by simp[h2]) (by simp[h3]) (by simp only[dy,show ¬ b.nodes.length<=8 by omega];simp)
 by_cases p4:(4:Int)<b.sites.length
 ·simp[h3,hm3',p3,p4,guardOf];exact fin _ (by simp[h2]) (by simp[h3]) (by simp only[dy,show ¬ b.sites.length<=4 by omega];simp)
 simp[h3,hm3',p3,p4,guardOf];refine zA (eA b.edges 0 8) Eu (.cons (.v _ _ _) (.cons (.v _ _ _) (.cons (.v _ _ _) .nil))) (by simp) ?_;rintro _ rfl;cases p5:within b.edges 0 8
 ·simp[guardOf];exact fin _ (by simp[h2]) (by simp[h3]) (by simp only[dy,p5];simp)
 simp[h3,hm3',guardOf];refine zA (od b.outer s5 s7) e71 (.cons (aM.encS false b.outer) .nil) (by simp[encS]) ?_;rintro _ rfl;cases p6:cA b.outer
 ·simp[guardOf];exact fin _ (by simp[h2]) (by simp[h3]) (by simp only[dy,p6];simp)
 simp[h3,hm3',guardOf];refine zA (q0 b s6) e72 (.cons (aM.cG false b) .nil) (by simp[cG,aG.cells,bB,encI,encS,bH]) ?_;rintro _ rfl;simp;refine zA (od (names b) hnl hnn) e71 (.cons (aM.encS true (names b)) .nil) (by simp[encS]) ?_;rintro _ rfl;simp;exact fin _ (by simp[h2]) (by simp[h3]) (by simp only[dy,p1,p2,p5,p6,show b.nodes.length<=8 by omega,show b.sites.length<=4 by omega];simp)
end Go.Ab
namespace Go.Ab
open Go.Proofs
theorem e23:aZ prog 23:=aZ.of func23 (by kernel_rfl) rfl
theorem e58:aZ prog 58:=aZ.of func58 (by kernel_rfl) rfl
theorem sb {α:Type} {l:List α} {p:α->Bool} {k:Nat} (hk:k<l.length) (h:p l[k]=false):l.all p=false:=by
 rw[List.all_eq_false];exact⟨l[k],List.getElem_mem hk,by simp[h]⟩
theorem sC {α:Type} {l:List α} {p:α->Bool} (h:∀ i (hi:i<l.length),p l[i]=true):l.all p=true:=by
 rw[List.all_eq_true];intro x hx;obtain⟨i,hi,rfl⟩:=List.getElem_of_mem hx;exact h i hi
theorem yv (sig:cV) (b:aG) (hs:gx sig b) (k:Nat) (hk:k<b.nodes.length) (hr:0<=b.roots/\b.roots<=4) (he:0<=b.edges/\b.edges<=8) (hctl:nP sig b k) :
  aC prog 58 [bt false sig,cG false b,int k] (fun r=>r=bool (ck sig b k)):=by
 have hgk:b.nodes.getD k default=b.nodes[k]:=by simp[hk]
 have hll:=hs.linksLen _ (List.getElem_mem hk);have hpar:=hs.parents _ (List.getElem_mem hk);have hol:=hs.outerLen;have hsl:=hs.sigLen;refine aC.of func58 rfl ntmps58 (by simp) fun Q hQ=>?_
 refine zE fun k' V=>?_
 simp [bt, cG, aG.cells];apply V;refine zE fun k' V=>?_
 simp [bB, hk, ay.cells];apply V;refine J.cut (fun O H n=>O 0 = .list false (sig.map Control.cells)/\O 2=int k/\O 4 = .ptr (0,4) 1 0 0/\O 7 = .ptr (1,7) 1 0 0/\H (0,4)=some ⟨6,[b.cells false]⟩/\H (1,7)=some ⟨3,[b.nodes[k].cells false]⟩) ⟨by simp,by simp,by simp,by simp,by simp[aG.cells,bB,ay.cells],by simp[ay.cells]⟩ ?_;clear V;rintro O H n ⟨h0,h2,h4,h7,hm4,hm7⟩;have hm4':=hm4;simp only[aG.cells,bB,encI,encS,bH] at hm4';have hm7':=hm7;simp only[ay.cells] at hm7';apply J.seq;refine J.fv av aE bL (by decide) (by kernel_rfl) fun k' V=>?_
 have fin:∀ (O:Env) (pre:Bool),O 4 = .ptr (0,4) 1 0 0->O 7 = .ptr (1,7) 1 0 0->O 41=bool (!pre)->ck sig b k=(pre && b.nodes[k].links.all (c9 b))->J prog 58 57 k' O H n Q:=by
  intro O pre h4 h7 h41 hpre;apply V;refine J.ite h41 (fun hc1 => ?_) (fun hc1 => ?_)
  ·have hb:pre=false:=by simpa using hc1
   refine zE fun k' V=>?_
   simp;apply V;exact J.ret func58 (aK.one results58) (hQ _ _ _ _ (.v _ _ _) (by rw[hpre,hb];rfl))
  ·have hb:pre=true:=by simpa using hc1
   rw[hb,Bool.true_and] at hpre;apply J.skip;refine zS fun k' V=>?_
   simp;apply V;refine J.block (J.bM b.nodes[k].links.length (fun j ρ' H' n'=>ρ' 4 = .ptr (0,4) 1 0 0/\ρ' 7 = .ptr (1,7) 1 0 0/\ρ' 8=int j/\H'=H/\n'=n/\∀ i (hi:i<b.nodes[k].links.length),i<j->c9 b b.nodes[k].links[i]=true) ?_ ?_)
   ·exact⟨by simp[h4],by simp[h7],by simp,rfl,rfl,fun i hi h=>by omega⟩
   ·clear h4 h7;rintro j O H' n' hj ⟨h4,h7,h8,rfl,rfl,hall⟩ IH;refine zS fun k' V=>?_
    simp [h7, h8, hm7'];apply V;refine J.ite rfl (fun hc2 => ?_) (fun hc2 => ?_)
    ·have hc2:j<b.nodes[k].links.length:=by simpa using hc2
     apply zK;apply J.block;refine J.fv av aE bL (by decide) (by kernel_rfl) fun k' V=>?_
     simp [h4, h7, h8, hm4', hm7', hc2, au];refine bh.b7 av aE (rN b b.nodes[k].links[j] he hol) e60 (.cons (aM.cG false b) (.cons (.v _ _ _) .nil)) (by decide) rfl (by simp[cG,aG.cells,bB,encI,encS,bH,au]) ?_;simp;apply V;refine J.ite rfl (fun hc3 => ?_) (fun hc3 => ?_)
     ·have hb3:c9 b b.nodes[k].links[j]=false:=by simpa using hc3
      refine zE fun k' V=>?_
      simp;apply V;exact J.ret func58 (aK.one results58) (hQ _ _ _ _ (.v _ _ _) (by rw[hpre,sb hc2 hb3]))
     ·have hb3:c9 b b.nodes[k].links[j]=true:=by simpa using hc3
      apply J.skip;refine zI fun k' V=>?_
      simp [h8, bf (show j < 4611686018427387904 by omega)];apply V;refine IH hc2 _ _ _ ⟨by simp[h4],by simp[h7],by simp,rfl,rfl,fun i hi hij=>?_⟩;rcases Nat.lt_or_ge i j with h | h
      ·exact hall i hi h
      ·have:i=j:=by omega
       subst this;exact hb3
    ·have hc2:¬ j<b.nodes[k].links.length:=by simpa using hc2
     have hje:j=b.nodes[k].links.length:=by omega
     subst hje;refine J.exit rfl ?_;refine zE fun k' V=>?_
     simp;apply V;exact J.ret func58 (aK.one results58) (hQ _ _ _ _ (.v _ _ _) (by rw[hpre,sC fun i hi=>hall i hi hi]))
 have hw:IntKind.i64.wrap ((sig.length:Int) - 1)=(sig.length:Int) - 1:=by rw[wrap64]<;>omega
 simp [h0, h7, hm7', hw];refine bh.b7 av aE (fI b.nodes[k].control 0 ((sig.length:Int) - 1)) DL (.cons (.v _ _ _) (.cons (.v _ _ _) (.cons (.v _ _ _) .nil))) (by decide) rfl (by simp) ?_;cases q1:within b.nodes[k].control 0 ((sig.length:Int) - 1)
 ·simp[guardOf];exact fin _ false (by simp[h4]) (by simp[h7]) (by simp) (by simp only[ck,hgk,q1];simp)
 simp[h0,h2,h4,h7,hm4',hm7',guardOf];refine bh.b7 av aE (pV sig b b.nodes[k].parent k hpar hr (by omega) hctl) e59 (.cons (aM.bt false sig) (.cons (aM.cG false b) (.cons (.v _ _ _) (.cons (.v _ _ _) .nil)))) (by decide) rfl (by simp[cG,aG.cells,bB,encI,encS,bH,bt]) ?_;cases q2:bZ sig b b.nodes[k].parent k
 ·simp[guardOf];exact fin _ false (by simp[h4]) (by simp[h7]) (by simp) (by simp only[ck,hgk,q2];simp)
 have q1':=q1;simp only[within,Bool.and_eq_true,decide_eq_true_eq] at q1';obtain⟨c,hc⟩:∃ c:Nat,b.nodes[k].control=c:=⟨b.nodes[k].control.toNat,by omega⟩
 have hcl:c<sig.length:=by omega
 have q1c:=q1;rw[hc] at q1c;have hgc:sig.getD c default=sig[c]:=by simp[hcl]
 by_cases q3:(b.nodes[k].links.length:Int)=sig[c].ports
 ·have q3':((b.nodes[k].links.length:Int) != sig[c].ports)=false:=by simpa using q3
  simp[h0,h7,hm7',hc,hcl,q3',Control.cells,guardOf];exact fin _ true (by simp[h4]) (by simp[h7]) (by simp) (by simp only[ck,hgk,q1c,q2,hc,Int.toNat_natCast,hgc,q3];simp)
 ·have q3':((b.nodes[k].links.length:Int) != sig[c].ports)=true:=by simpa using q3
  simp[h0,h7,hm7',hc,hcl,q3',Control.cells,guardOf];exact fin _ false (by simp[h4]) (by simp[h7]) (by simp) (by simp only[ck,hgk,q1c,q2,hc,Int.toNat_natCast,hgc,q3];simp)
end Go.Ab
namespace Go.Ab
open Go.Proofs
theorem yn {sig:cV} {b:aG} {k:Nat} (h:∀ i,i<k->ck sig b i=true):nP sig b k:=by
 induction k with
 | zero=>intro i hi;omega
 | succ k ih=>exact tU (h k (by omega)) (ih fun i hi=>h i (by omega))
def pN (sig:cV) (b:aG):Bool:=eM sig && within b.roots 0 4 && decide (b.nodes.length<=8) && decide (b.sites.length<=4) && within b.edges 0 8
def uv (b:aG):Bool:=cA b.outer && cA (names b)
theorem k5 (sig:cV) (b:aG):dy sig b=(pN sig b && uv b):=by
 simp only[dy,pN,uv,Bool.and_assoc]
theorem yT (sig:cV) (b:aG) (hs:gx sig b):aC prog 23 [bt false sig,cG false b] (fun r=>r=bool (jQ sig b)):=by
 obtain⟨s1,s2,s3,s4,s5,s6,s7,s8,s9,s10,s11⟩:=id hs;have hnl:(names b).length<=1048576:=by simpa[names] using s6
 have hnn:∀ s ∈ names b,s.length<=1048576:=by
  intro s hs;obtain⟨w,hw,rfl⟩:=List.mem_map.1 hs;exact s8 w hw
 refine aC.of func23 rfl ntmps23 (by simp) fun Q hQ=>?_
 have no:jQ sig b=false->∀ H n,Q (bool false) H n:=fun h H n=>hQ _ _ _ _ (.v _ _ _) (by rw[h])
 refine zE fun k' V=>?_
 simp [bt, cG, aG.cells];apply V;refine J.cut (fun O H n=>O 0 = .list false (sig.map Control.cells)/\O 3 = .ptr (0,3) 1 0 0/\H (0,3)=some ⟨6,[b.cells false]⟩) ⟨by simp,by simp,by simp[aG.cells]⟩ ?_;clear V;rintro O H n ⟨h0,h3,hm3⟩;have hm3':=hm3;simp only[aG.cells,bB,encI,encS,bH] at hm3';refine zS fun k' V=>?_
 have fin:∀ O:Env,O 0 = .list false (sig.map Control.cells)->O 3 = .ptr (0,3) 1 0 0->O 34=bool (!pN sig b)->J prog 23 98 k' O H n Q:=by
  clear h0 h3;intro O h0 h3 h34;apply V;refine J.ite h34 (fun hc1 => ?_) (fun hc1 => ?_)
  ·have hb:pN sig b=false:=by simpa using hc1
   refine zE fun k' V=>?_
   simp;apply V;exact J.ret func23 (aK.one results23) (no (by rw[ef,k5,hb];rfl) _ _)
  ·have hb1:pN sig b=true:=by simpa using hc1
   have hb':=hb1;simp only[pN,within,Bool.and_eq_true,decide_eq_true_eq] at hb';obtain⟨⟨⟨⟨_,hr⟩,hn8⟩,_⟩,hed⟩:=hb';apply J.skip;refine zS fun k' V=>?_
   have fin2:∀ O:Env,O 0 = .list false (sig.map Control.cells)->O 3 = .ptr (0,3) 1 0 0->O 50=bool (!uv b)->J prog 23 98 k' O H n Q:=by
    clear h0 h3;intro O h0 h3 h50;apply V;refine J.ite h50 (fun hc1 => ?_) (fun hc1 => ?_)
    ·have hb:uv b=false:=by simpa using hc1
     refine zE fun k' V=>?_
     simp;apply V;exact J.ret func23 (aK.one results23) (no (by rw[ef,k5,hb,Bool.and_false];rfl) _ _)
    ·have hb2:uv b=true:=by simpa using hc1
     have hpre:dy sig b=true:=by rw[k5,hb1,hb2];rfl
     apply J.skip;refine zS fun k' V=>?_
     simp;apply V;refine J.block (J.bM b.nodes.length (fun k ρ' H' n'=>ρ' 0 = .list false (sig.map Control.cells)/\ρ' 3 = .ptr (0,3) 1 0 0/\ρ' 5=int k/\H'=H/\n'=n/\∀ i,i<k->ck sig b i=true) ?_ ?_)
     ·exact⟨by simp[h0],by simp[h3],by simp,rfl,rfl,fun i hi=>by omega⟩
     ·clear h0 h3;rintro k O H' n' hk ⟨h0,h3,h5,rfl,rfl,hall⟩ IH;refine zS fun k' V=>?_
      simp [h3, h5, hm3'];apply V;refine J.ite rfl (fun hc2 => ?_) (fun hc2 => ?_)
      ·have hc2:k<b.nodes.length:=by simpa using hc2
       apply zK;apply J.block;refine zE fun k' V=>?_
       simp [h0, h3, h5, hm3'];refine zA (yv sig b hs k hc2 hr hed (yn hall)) e58 (.cons (aM.bt false sig) (.cons (aM.cG false b) (.cons (.v _ _ _) .nil))) (by simp[h0,h5,bt,cG,aG.cells,bB,encI,encS,bH]) ?_;rintro _ rfl;simp;apply V;refine J.ite rfl (fun hc3 => ?_) (fun hc3 => ?_)
       ·have hb3:ck sig b k=false:=by simpa using hc3
        refine zE fun k' V=>?_
        simp;apply V;exact J.ret func23 (aK.one results23) (no (by rw[ef,dE hc2 hb3,Bool.and_false];rfl) _ _)
       ·have hb3:ck sig b k=true:=by simpa using hc3
        apply J.skip;refine zI fun k' V=>?_
        simp [h5, bf (show k < 4611686018427387904 by omega)];apply V;refine IH hc2 _ _ _ ⟨by simp[h0],by simp[h3],by simp,rfl,rfl,fun i hi=>?_⟩;rcases Nat.lt_or_ge i k with h | h
        ·exact hall i h
        ·rw[show i=k by omega];exact hb3
      ·have hc2:¬ k<b.nodes.length:=by simpa using hc2
       have hke:k=b.nodes.length:=by omega
       subst hke;have hnodes:=dG hall;have hctl:=yn hall;refine J.exit rfl ?_;refine zS fun k' V=>?_
       simp;apply V;clear IH hall h5;refine J.block (J.bM b.sites.length (fun k ρ' H2 n2=>ρ' 0 = .list false (sig.map Control.cells)/\ρ' 3 = .ptr (0,3) 1 0 0/\ρ' 6=int k/\H2=H'/\n2=n'/\∀ i (hi:i<b.sites.length),i<k->bZ sig b b.sites[i] b.nodes.length=true) ?_ ?_)
       ·exact⟨by simp[h0],by simp[h3],by simp,rfl,rfl,fun i hi h=>by omega⟩
       ·clear h0 h3;rintro k O H2 n2 hk2 ⟨h0,h3,h6,rfl,rfl,hall⟩ IH;refine zS fun k' V=>?_
        simp [h3, h6, hm3'];apply V;refine J.ite rfl (fun hc4 => ?_) (fun hc4 => ?_)
        ·have hc4:k<b.sites.length:=by simpa using hc4
         apply zK;apply J.block;refine J.fv av aE bL (by decide) (by kernel_rfl) fun k' V=>?_
         simp [h0, h3, h6, hm3', hc4, au];refine bh.b7 av aE (pV sig b b.sites[k] b.nodes.length (s11 _ (List.getElem_mem hc4)) hr (Nat.le_refl _) hctl) e59 (.cons (aM.bt false sig) (.cons (aM.cG false b) (.cons (.v _ _ _) (.cons (.v _ _ _) .nil)))) (by decide) rfl (by simp[h0,bt,cG,aG.cells,bB,encI,encS,bH,au]) ?_;simp;apply V;refine J.ite rfl (fun hc5 => ?_) (fun hc5 => ?_)
         ·have hb3:bZ sig b b.sites[k] b.nodes.length=false:=by simpa using hc5
          refine zE fun k' V=>?_
          simp;apply V;exact J.ret func23 (aK.one results23) (no (by rw[ef,sb hc4 hb3,Bool.and_false];rfl) _ _)
         ·have hb3:bZ sig b b.sites[k] b.nodes.length=true:=by simpa using hc5
          apply J.skip;refine zI fun k' V=>?_
          simp [h6, bf (show k < 4611686018427387904 by omega)];apply V;refine IH hc4 _ _ _ ⟨by simp[h0],by simp[h3],by simp,rfl,rfl,fun i hi hij=>?_⟩;rcases Nat.lt_or_ge i k with h | h
          ·exact hall i hi h
          ·have:i=k:=by omega
           subst this;exact hb3
        ·have hc4:¬ k<b.sites.length:=by simpa using hc4
         have hke:k=b.sites.length:=by omega
         subst hke;have hsites:=sC (l:=b.sites) (p:=fun p=>bZ sig b p b.nodes.length) fun i hi=>hall i hi hi
         refine J.exit rfl ?_;refine zS fun k' V=>?_
         simp;apply V;clear IH hall h6;refine J.block (J.bM b.inner.length (fun k ρ' H3 n3=>ρ' 3 = .ptr (0,3) 1 0 0/\ρ' 7=int k/\H3=H2/\n3=n2/\∀ i (hi:i<b.inner.length),i<k->c9 b b.inner[i].link=true) ?_ ?_)
         ·exact⟨by simp[h3],by simp,rfl,rfl,fun i hi h=>by omega⟩
         ·clear h0 h3;rintro k O H3 n3 hk3 ⟨h3,h7,rfl,rfl,hall⟩ IH;refine zS fun k' V=>?_
          simp [h3, h7, hm3'];apply V;refine J.ite rfl (fun hc6 => ?_) (fun hc6 => ?_)
          ·have hc6:k<b.inner.length:=by simpa using hc6
           apply zK;apply J.block;refine J.fv av aE bL (by decide) (by kernel_rfl) fun k' V=>?_
           simp [h3, h7, hm3', hc6, aN.cells];refine bh.b7 av aE (rN b b.inner[k].link hed s5) e60 (.cons (aM.cG false b) (.cons (.v _ _ _) .nil)) (by decide) rfl (by simp[cG,aG.cells,bB,encI,encS,bH,aN.cells]) ?_;simp;apply V;refine J.ite rfl (fun hc7 => ?_) (fun hc7 => ?_)
           ·have hb3:c9 b b.inner[k].link=false:=by simpa using hc7
            refine zE fun k' V=>?_
            simp;apply V;exact J.ret func23 (aK.one results23) (no (by rw[ef,sb (l:=b.inner) (p:=fun w=>c9 b w.link) hc6 hb3,Bool.and_false]) _ _)
           ·have hb3:c9 b b.inner[k].link=true:=by simpa using hc7
            apply J.skip;refine zI fun k' V=>?_
            simp [h7, bf (show k < 4611686018427387904 by omega)];apply V;refine IH hc6 _ _ _ ⟨by simp[h3],by simp,rfl,rfl,fun i hi hij=>?_⟩;rcases Nat.lt_or_ge i k with h | h
            ·exact hall i hi h
            ·have:i=k:=by omega
             subst this;exact hb3
          ·have hc6:¬ k<b.inner.length:=by simpa using hc6
           have hke:k=b.inner.length:=by omega
           subst hke;have hinner:=sC (l:=b.inner) (p:=fun w=>c9 b w.link) fun i hi=>hall i hi hi
           refine J.exit rfl ?_;refine zE fun k' V=>?_
           simp;apply V;exact J.ret func23 (aK.one results23) (hQ _ _ _ _ (.v _ _ _) (by rw[ef,hpre,hnodes,hsites,hinner];rfl))
   simp [h3, hm3'];refine zA (qy b.outer s5 s7) e56 (.cons (aM.encS false b.outer) .nil) (by simp[encS]) ?_;rintro _ rfl;cases p6:cA b.outer
   ·simp[guardOf];exact fin2 _ (by simp[h0]) (by simp[h3]) (by simp only[uv,p6];simp)
   by_cases p7:(16:Int)<b.inner.length
   ·simp[h3,hm3',p7,guardOf];refine fin2 _ (by simp[h0]) (by simp[h3]) ?_;have:cA (names b)=false:=by
     rw[eL,show decide ((names b).length<=16)=false by simp[names];omega,Bool.false_and]
    simp only[uv,this];simp
   simp[h3,hm3',p7,guardOf];refine zA (wG b s6) e57 (.cons (aM.cG false b) .nil) (by simp[cG,aG.cells,bB,encI,encS,bH]) ?_;rintro _ rfl;simp;refine zA (qy (names b) hnl hnn) e56 (.cons (aM.encS true (names b)) .nil) (by simp[encS]) ?_;rintro _ rfl;simp;exact fin2 _ (by simp[h0]) (by simp[h3]) (by simp only[uv,p6];simp)
 simp [h0];refine zA (B3 sig s1 s2) e54 (.cons (aM.bt false sig) .nil) (by simp[bt,h0]) ?_;rintro _ rfl;cases p1:eM sig
 ·simp[guardOf];exact fin _ (by simp[h0]) (by simp[h3]) (by simp only[pN,p1];simp)
 simp[h3,hm3',guardOf];refine zA (fI b.roots 0 4) DL (.cons (.v _ _ _) (.cons (.v _ _ _) (.cons (.v _ _ _) .nil))) (by simp) ?_;rintro _ rfl;cases p2:within b.roots 0 4
 ·simp[guardOf];exact fin _ (by simp[h0]) (by simp[h3]) (by simp only[pN,p2];simp)
 by_cases p3:(8:Int)<b.nodes.length
 ·simp[h3,hm3',p3,guardOf];exact fin _ (by simp[h0]) (by simp[h3]) (by simp only[pN,show ¬ b.nodes.length<=8 by omega];simp)
 by_cases p4:(4:Int)<b.sites.length
 ·simp[h3,hm3',p3,p4,guardOf];exact fin _ (by simp[h0]) (by simp[h3]) (by simp only[pN,show ¬ b.sites.length<=4 by omega];simp)
 simp[h3,hm3',p3,p4,guardOf];refine zA (fI b.edges 0 8) DL (.cons (.v _ _ _) (.cons (.v _ _ _) (.cons (.v _ _ _) .nil))) (by simp) ?_;rintro _ rfl;simp;exact fin _ (by simp[h0]) (by simp[h3]) (by simp only[pN,p1,p2,show b.nodes.length<=8 by omega,show b.sites.length<=4 by omega];simp)
end Go.Ab
namespace Go.Ab
open Go.Proofs
theorem e88:aZ prog 88:=aZ.of func88 (by kernel_rfl) rfl
theorem e86:aZ prog 86:=aZ.of func86 (by kernel_rfl) rfl
theorem e105:aZ prog 105:=aZ.of func105 (by kernel_rfl) rfl
theorem BK (t:Bool) (l:List Int) (x:Int) (hl:l.length<=1048576):aC prog 88 [encI t l,int x] (fun r=>r=int (qN l (fun y=>x == y))):=by
 refine aC.of func88 rfl ntmps88 (by simp) fun Q hQ=>?_
 refine zE fun _ V=>?_
 simp [encI];apply V;refine zS fun _ V=>?_
 simp;apply V;refine J.block (J.bM l.length (fun k O H' n'=>O 0 = .list t (l.map au)/\O 1=int x/\O 7=int l.length/\O 8=int k/\∀ i (h:i<l.length),i<k->(x == l[i])=false) ?_ ?_)
 ·simp
 ·rintro k O H' n' hk ⟨h0,h1,h7,h8,hno⟩ IH;refine zE fun _ V=>?_
  simp [h7, h8];apply V;apply J.seq;refine J.ite rfl (fun hc1 => ?_) (fun hc1 => ?_)
  ·have hc1:k<l.length:=by simpa using hc1
   apply zK;apply J.block;refine zE fun _ V=>?_
   simp [h8];apply V;refine zE fun _ V=>?_
   simp [h0, h1, hc1, au];apply V;refine J.ite rfl (fun hc2 => ?_) (fun hc2 => ?_)
   ·have hc2:(x == l[k])=true:=by simpa using hc2
    refine zE fun _ V=>?_
    simp;apply V;refine J.ret func88 (aK.one results88) (hQ _ _ _ _ (.v _ _ _) ?_);simp[oy (p:=fun y=>x == y) hc1 hc2 hno]
   ·have hc2:(x == l[k])=false:=by simpa using hc2
    apply J.skip;refine zI fun _ V=>?_
    simp [h8, bf (show k < 4611686018427387904 by omega)];apply V;refine IH hc1 _ _ _ ⟨by simp[h0,au],by simp[h1],by simp[h7],by simp,fun i h hi=>?_⟩;rcases Nat.lt_or_ge i k with hik | hik
    ·exact hno i h hik
    ·have:i=k:=by omega
     subst this;exact hc2
  ·have hc1:¬ k<l.length:=by simpa using hc1
   have hke:k=l.length:=by omega
   subst hke;refine J.exit rfl ?_;refine zE fun _ V=>?_
   simp;apply V;refine J.ret func88 (aK.one results88) (hQ _ _ _ _ (.v _ _ _) ?_);simp[oA (p:=fun y=>x == y) fun i h=>hno i h h]
theorem nQ (l:List Int) (x:Int) (hl:l.length<=1048576):aC prog 86 [encI false l,int x] (fun r=>r=bool (l.any (fun y=>x == y))):=by
 refine aC.of func86 rfl ntmps86 (by simp) fun Q hQ=>?_
 refine zE fun _ V=>?_
 simp [encI];apply V;refine zE fun _ V=>?_
 simp;refine zA (BK false l x hl) e88 (.cons (aM.encI false l) (.cons (.v _ _ _) .nil)) (by simp[encI]) ?_;rintro _ rfl;simp;apply V;refine J.ret func86 (aK.one results86) (hQ _ _ _ _ (.v _ _ _) ?_);have:=mg l (fun y=>x == y);simp only[Env.put];simp[this]
theorem CZ (l:List Int) (x:Int) (hl:l.length<=1048576):aC prog 105 [encI false l,int x] (fun r=>r=bool (l.any (fun y=>x == y))):=by
 refine aC.of func105 rfl ntmps105 (by simp) fun Q hQ=>?_
 refine zE fun _ V=>?_
 simp [encI];apply V;refine zS fun _ V=>?_
 simp;apply V;refine J.block (J.bM l.length (fun k O H' n'=>O 0 = .list false (l.map au)/\O 1=int x/\O 5=int k/\∀ i (h:i<l.length),i<k->¬ l[i]=x) ?_ ?_)
 ·simp
 ·rintro k O H' n' hk ⟨h0,h1,h5,hno⟩ IH;refine zS fun _ V=>?_
  simp [h0, h5];apply V;refine J.ite rfl (fun hc1 => ?_) (fun hc1 => ?_)
  ·have hc1:k<l.length:=by simpa using hc1
   apply zK;apply J.block;refine zE fun _ V=>?_
   simp [h0, h1, h5, hc1, au];apply V;refine J.ite rfl (fun hc2 => ?_) (fun hc2 => ?_)
   ·have hc2:l[k]=x:=by simpa using hc2
    refine zE fun _ V=>?_
    simp;apply V;refine J.ret func105 (aK.one results105) (hQ _ _ _ _ (.v _ _ _) ?_);have:l.any (fun y=>x == y)=true:=by
     rw[List.any_eq_true];exact⟨l[k],List.getElem_mem hc1,by simp[hc2]⟩
    rw[this];try rfl
   ·have hc2:¬ l[k]=x:=by simpa using hc2
    apply J.skip;refine zI fun _ V=>?_
    simp [h5, bf (show k < 4611686018427387904 by omega)];apply V;refine IH hc1 _ _ _ ⟨by simp[h0,au],by simp[h1],by simp,fun i h hi=>?_⟩;rcases Nat.lt_or_ge i k with hik | hik
    ·exact hno i h hik
    ·have:i=k:=by omega
     subst this;exact hc2
  ·have hc1:¬ k<l.length:=by simpa using hc1
   have hke:k=l.length:=by omega
   subst hke;refine J.exit rfl ?_;refine zE fun _ V=>?_
   simp;apply V;refine J.ret func105 (aK.one results105) (hQ _ _ _ _ (.v _ _ _) ?_);have:l.any (fun y=>x == y)=false:=by
    rw[List.any_eq_false];intro y hy;obtain⟨i,hi,rfl⟩:=List.getElem_of_mem hy;have:=hno i hi hi;simpa using fun h=>this h.symm
   rw[this];try rfl
end Go.Ab
namespace Go.Ab
open Go.Proofs
end Go.Ab
namespace Go.Ab.Vg
structure A4 (sig:cV):Prop where
 len:1<=sig.length/\sig.length<=6
 ports:∀ c ∈ sig,0<=c.ports/\c.ports<=3
 kind:∀ c ∈ sig,0<=c.kind/\c.kind<=2
structure bo (sig:cV) (b:aG):Prop where
 sg:A4 sig
 roots:0<=b.roots/\b.roots<=4
 len:b.nodes.length<=8
 slen:b.sites.length<=4
 edges:0<=b.edges/\b.edges<=8
 outer:b.outer.length<=16
 inner:b.inner.length<=16
 ctl:∀ i (h:i<b.nodes.length),0<=b.nodes[i].control/\b.nodes[i].control<sig.length
 par:∀ i (h:i<b.nodes.length),-b.roots<=b.nodes[i].parent/\b.nodes[i].parent<i
 ports:∀ i (h:i<b.nodes.length),(b.nodes[i].links.length:Int)=(sig.getD b.nodes[i].control.toNat default).ports
 links:∀ i (h:i<b.nodes.length),∀ l ∈ b.nodes[i].links,0<=l/\l<b.edges+b.outer.length
 sites:∀ p ∈ b.sites,-b.roots<=p/\p<b.nodes.length
 wires:∀ w ∈ b.inner,0<=w.link/\w.link<b.edges+b.outer.length
theorem qL {sig:cV} (h:eM sig=true):A4 sig:=by
 simp only[eM,within,cH,Bool.and_eq_true,decide_eq_true_eq,List.all_eq_true,List.mem_range] at h;obtain⟨h1,h2⟩:=h;refine⟨by omega,fun c hc=>?_,fun c hc=>?_⟩<;>obtain⟨i,hi,rfl⟩:=List.getElem_of_mem hc<;>have:=h2 i hi<;>simp only[List.getD_eq_getElem?_getD,List.getElem?_eq_getElem hi,Option.getD_some] at this
 ·exact this.1.1.2
 ·exact this.1.2
theorem jq {sig:cV} {b:aG} (h:jQ sig b=true):bo sig b:=by
 simp only[jQ,Bool.and_eq_true,decide_eq_true_eq,List.all_eq_true,List.mem_range] at h;obtain⟨⟨⟨⟨⟨⟨⟨⟨⟨hs,hr⟩,hn⟩,hst⟩,he⟩,ho⟩,hi⟩,hno⟩,hsi⟩,hw⟩:=h;have hV:=qL hs;simp only[within,Bool.and_eq_true,decide_eq_true_eq] at hr he;simp only[cA,Bool.and_eq_true,decide_eq_true_eq,List.length_map] at ho hi;have hno2:∀ i (h:i<b.nodes.length),(0<=b.nodes[i].control/\b.nodes[i].control<=(sig.length:Int) - 1)/\bZ sig b b.nodes[i].parent i=true/\(b.nodes[i].links.length:Int)=(sig.getD b.nodes[i].control.toNat default).ports/\∀ l ∈ b.nodes[i].links,c9 b l=true:=fun i h=>by
  have:=hno i h;simp only[ck,within,Bool.and_eq_true,decide_eq_true_eq,List.all_eq_true,List.getD_eq_getElem?_getD,List.getElem?_eq_getElem h,Option.getD_some] at this;exact⟨this.1.1.1,this.1.1.2,by simpa using this.1.2,this.2⟩
 have hp:∀ p (m:Nat),bZ sig b p m=true -> -b.roots<=p/\p<m:=fun p m h=>by
  simp only[bZ] at h
  split at h
  ·simp only[decide_eq_true_eq] at h;omega
  ·simp only[Bool.and_eq_true,decide_eq_true_eq] at h;omega
 have hl:∀ l,c9 b l=true->0<=l/\l<b.edges+b.outer.length:=fun l h=>by
  simp only[c9,within,Bool.and_eq_true,decide_eq_true_eq] at h;omega
 exact⟨hV,hr,hn,hst,he,ho.1,hi.1,fun i h=>by have:=(hno2 i h).1;omega,fun i h=>hp _ _ (hno2 i h).2.1,fun i h=>(hno2 i h).2.2.1,fun i h l hm=>hl l ((hno2 i h).2.2.2 l hm),fun p hm=>hp _ _ (hsi p hm),fun w hm=>hl _ (hw w hm)⟩
theorem at_mem {α:Type} [Inhabited α] {l:List α} {i:Int} (h:0<=i/\i<l.length):at' l i ∈ l:=by
 obtain⟨h1,h2⟩:=pL h rfl;exact h2 ▸ List.getElem_mem h1
theorem tF {α:Type} [Inhabited α] {l:List α} {i:Int} (h:0<=i/\i<l.length):∃ h':i.toNat<l.length,at' l i=l[i.toNat]:=by
 obtain⟨h1,h2⟩:=pL h rfl;exact⟨h1,h2.symm⟩
theorem bo.B6 {sig:cV} {b:aG} (h:bo sig b) {i:Int} (hi:0<=i/\i<b.nodes.length):0<=(at' b.nodes i).control/\(at' b.nodes i).control<sig.length:=by
 obtain⟨h1,h2⟩:=tF hi;rw[h2];exact h.ctl _ h1
theorem bo.jK {sig:cV} {b:aG} (h:bo sig b) {i:Int} (hi:0<=i/\i<b.nodes.length) : -b.roots<=(at' b.nodes i).parent/\(at' b.nodes i).parent<i:=by
 obtain⟨h1,h2⟩:=tF hi;rw[h2];have:=h.par _ h1;omega
theorem bo.rX {sig:cV} {b:aG} (h:bo sig b) {i:Int} (hi:0<=i/\i<b.nodes.length):((at' b.nodes i).links.length:Int)=(at' sig (at' b.nodes i).control).ports:=by
 obtain⟨h1,h2⟩:=tF hi;have h3:=h.ports _ h1;have h4:=h.ctl _ h1;rw[h2,h3];simp[at']
theorem bo.iM {sig:cV} {b:aG} (h:bo sig b) {i:Int} (hi:0<=i/\i<b.nodes.length):∀ l ∈ (at' b.nodes i).links,0<=l/\l<b.edges+b.outer.length:=by
 obtain⟨h1,h2⟩:=tF hi;rw[h2];exact h.links _ h1
theorem bo.fB {sig:cV} {b:aG} (h:bo sig b) {i:Int} (hi:0<=i/\i<b.nodes.length):(at' b.nodes i).links.length<=3:=by
 have h1:=h.rX hi;have h2:=h.B6 hi;have h3:=h.sg.ports _ (at_mem h2);omega
end Go.Ab.Vg
namespace Go.Ab.Vg
abbrev gr (many:Int):List Int:=List.replicate many.toNat (-1)
abbrev fR (many:Int):Prop:=0<=many/\many<=1048576
def lq (many:Int) (Z:(List Int)->Prop):Prop:=
 aL (σ:=Int × (List Int)) (fun (i12,l13) K17=>∀ c18:Bool,c18=decide (i12<many)->((c18=true->(l13.length+1<=1073741824)/\∀ l21:List Int,l21=l13++[(-1)]->(bu (i12+1))/\∀ v31:Int,v31=i12+1->K17 (v31,l21))/\(c18=false->Z l13))) (0,([]:List Int))
theorem Bs (many:Int) (h:fR many):lq many (fun y=>y=gr many):=by
 unfold lq;obtain⟨h1,h2⟩:=h;refine aL.oz many.toNat (fun k out=>out=List.replicate k (-1)) [] rfl ?_;rintro k _ K hk rfl IH;simp only[forall_eq,decide_eq_true_eq,decide_eq_false_iff_not,bu];refine⟨fun h3=>⟨by simp;omega,by omega,IH (by omega) _ List.replicate_succ'.symm⟩,fun h3=>?_⟩;rw[show k=many.toNat by omega]
abbrev vA (l:List Int):List Int:=l
abbrev fg (l:List Int):Prop:=l.length<=1048576
def ox (l:List Int) (Z:(List Int)->Prop):Prop:=
 (([]:List Int).length+l.length<=1073741824)/\∀ l4:List Int,l4=([]:List Int)++l->Z l4
theorem DU (l:List Int) (h:fg l):ox l (fun y=>y=vA l):=by
 unfold ox;exact⟨by simp;omega,fun _ h=>by simpa using h⟩
def fO (l:List Int):Int:=((l.filter fun x=>decide (0<=x)).length:Int)
abbrev lO (l:List Int):Prop:=l.length<=1048576
def oG (edges:List Int) (Z:Int->Prop):Prop:=
 aL (σ:=Int × Int) (fun (many5,i6) K9=>∀ ja:Int,ja=(edges.length:Int)->∀ c12:Bool,c12=decide (i6<ja)->((c12=true->(0<=i6/\i6<edges.length)/\∀ x15:Int,x15=at' edges i6->∀ c17:Bool,c17=decide (0<=x15)->((c17=true->(bu (many5+1))/\∀ v20:Int,v20=many5+1->(bu (i6+1))/\∀ v23:Int,v23=i6+1->K9 (v20,v23))/\(c17=false->(bu (i6+1))/\∀ v27:Int,v27=i6+1->K9 (many5,v27))))/\(c12=false->Z many5))) (0,0)
theorem D0 (l:List Int) (h:lO l):oG l (fun y=>y=fO l):=by
 unfold oG;refine aL.Dc l.length (fun k c=>c=(((l.take k).filter fun x=>decide (0<=x)).length:Int)) 0 (by simp) ?_;rintro k _ K hk rfl IH;have hl:((l.take k).filter fun x=>decide (0<=x)).length<=k:=Nat.le_trans (List.length_filter_le _ _) (by simp;omega);have h':l.length<=1048576:=h;simp only[forall_eq,decide_eq_true_eq,decide_eq_false_iff_not,bu];refine⟨fun h3=>?_,fun h3=>?_⟩
 ·have hkl:k<l.length:=by omega
  rw[bm hkl];refine⟨by omega,fun h4=>⟨by omega,by omega,IH hkl _ ?_⟩,fun h4=>⟨by omega,IH hkl _ ?_⟩⟩
  ·rw[<- List.take_append_getElem hkl,List.filter_append];simp[h4]
  ·rw[<- List.take_append_getElem hkl,List.filter_append];simp[h4]
 ·rw[show k=l.length by omega,List.take_length];rfl
abbrev Aa (p:Int) (pl:List Int):Int:=cp pl p
abbrev gm (p:Int) (pl:List Int):Prop:=p<pl.length/\bu (-1 - p)/\(0<=p->bu (4+at' pl p))
def oQ (parent:Int) (places:List Int) (Z:Int->Prop):Prop:=
 ∀ c2:Bool,c2=decide (parent<0)->((c2=true->(bu ((-1) - parent))/\∀ v5:Int,v5=(-1) - parent->Z v5)/\(c2=false->(0<=parent/\parent<places.length)/\∀ x8:Int,x8=at' places parent->(bu (4+x8))/\∀ v11:Int,v11=4+x8->Z v11))
theorem DN (p:Int) (pl:List Int) (h:gm p pl):oQ p pl (fun y=>y=Aa p pl):=by
 unfold oQ;obtain⟨h1,h2,h3⟩:=h;simp only[forall_eq,decide_eq_true_eq,decide_eq_false_iff_not];exact⟨fun h4=>⟨h2,by rw[Aa,cp,if_pos h4]⟩,fun h4=>⟨by omega,h3 (by omega),by rw[Aa,cp,if_neg h4]⟩⟩
def eD (b:aG):List Int->List Int->List Int × List Int
 | now,[]=>([],now)
 | now,l::t=>
  if l >= b.edges then let r:=eD b now t;((l - b.edges)::r.1,r.2)
  else let now2:=if at' now l<0 then now.set l.toNat (fO now) else now
   let r:=eD b now2 t;((16+at' now2 l)::r.1,r.2)
theorem eT (b:aG):∀ (l now:List Int),(eD b now l).1.length=l.length
 | [],_=>rfl
 | x::l,now=>by
  simp only[eD]
  split
  ·simp[eT b l now]
  ·simp[eT b l _]
structure jt (b:aG) (now:List Int):Prop where
 ed:0<=b.edges/\b.edges<=8
 len:(now.length:Int)=b.edges
 val:∀ v ∈ now,-1<=v/\v<=8
theorem ye (l:List Int):0<=fO l/\fO l<=l.length:=by
 have:=List.length_filter_le (fun x=>decide (0<=x)) l;simp only[fO];omega
theorem jt.set {b:aG} {now:List Int} (h:jt b now) (l:Int):jt b (now.set l.toNat (fO now)):=by
 have h1:=ye now;have h2:=h.len;have h3:=h.ed;refine⟨h.ed,by simpa using h.len,fun v hv=>?_⟩;rcases List.mem_or_eq_of_mem_set hv with hv | rfl
 ·exact h.val v hv
 ·omega
theorem mf {b:aG}:∀ (l now:List Int),jt b now->jt b (eD b now l).2
 | [],_,h=>h
 | x::l,now,h=>by
  simp only[eD]
  split
  ·exact mf l now h
  ·split
   ·exact mf l _ (h.set x)
   ·exact mf l _ h
theorem drop_at {l:List Int} {k:Nat} (h:k<l.length):l.drop k=at' l (k:Int)::l.drop (k+1):=by rw[bm h,List.drop_eq_getElem_cons h]
abbrev jr (b:aG) (links edges:List Int):List Int × List Int:=eD b edges links
abbrev ep (b:aG) (links edges:List Int):Prop:=jt b edges/\links.length<=1048576/\∀ l ∈ links,0<=l/\l<=1048576
def kc (b:aG) (links:List Int) (edges:List Int) (Z:((List Int) × (List Int))->Prop):Prop:=
 (fg edges)/\∀ r8:List Int,r8=vA edges->aL (σ:=Int × (List Int) × (List Int)) (fun (i29,l30,l31) K36=>∀ len37:Int,len37=(links.length:Int)->∀ c39:Bool,c39=decide (i29<len37)->((c39=true->(0<=i29/\i29<links.length)/\∀ x42:Int,x42=at' links i29->∀ c44:Bool,c44=decide (b.edges<=x42)->((c44=true->(0<=i29/\i29<links.length)/\∀ x47:Int,x47=at' links i29->(bu (x42 - b.edges))/\∀ v51:Int,v51=x42 - b.edges->(l30.length+1<=1073741824)/\∀ l54:List Int,l54=l30++[v51]->(bu (i29+1))/\∀ v65:Int,v65=i29+1->K36 (v65,l54,l31))/\(c44=false->(0<=i29/\i29<links.length)/\∀ x68:Int,x68=at' links i29->(0<=x42/\x42<l31.length)/\∀ x76:Int,x76=at' l31 x42->∀ c79:Bool,c79=decide (x76<0)->((c79=true->(0<=i29/\i29<links.length)/\∀ x85:Int,x85=at' links i29->(lO l31)/\∀ r88:Int,r88=fO l31->(0<=x85/\x85<l31.length)/\∀ x94:Int,x94=at' l31 x85->∀ l97:List Int,l97=l31.set x85.toNat r88->(0<=i29/\i29<links.length)/\∀ x105:Int,x105=at' links i29->(0<=x105/\x105<l97.length)/\∀ x112:Int,x112=at' l97 x105->(bu (16+x112))/\∀ v116:Int,v116=16+x112->(l30.length+1<=1073741824)/\∀ l119:List Int,l119=l30++[v116]->(bu (i29+1))/\∀ v130:Int,v130=i29+1->K36 (v130,l119,l97))/\(c79=false->(0<=i29/\i29<links.length)/\∀ x133:Int,x133=at' links i29->(0<=x133/\x133<l31.length)/\∀ x140:Int,x140=at' l31 x133->(bu (16+x140))/\∀ v144:Int,v144=16+x140->(l30.length+1<=1073741824)/\∀ l147:List Int,l147=l30++[v144]->(bu (i29+1))/\∀ v158:Int,v158=i29+1->K36 (v158,l147,l31))))))/\(c39=false->Z (l30,l31)))) (0,([]:List Int),r8)
theorem AH (b:aG) (links edges:List Int) (h:ep b links edges):kc b links edges (fun y=>y=jr b links edges):=by
 unfold kc;obtain⟨h1,h2,h3⟩:=h;have hE:=h1.ed;have hL:=h1.len;refine⟨by simp only[fg];omega,?_⟩;intro r8 hr8;rw[show r8=edges from hr8];refine aL.oz (τ:=List Int × List Int) links.length (fun k t=>jt b t.2/\t.1.length=k/\eD b edges links=(t.1++(eD b t.2 (links.drop k)).1,(eD b t.2 (links.drop k)).2)) ([],edges) ⟨h1,rfl,rfl⟩ ?_;rintro k ⟨out,now⟩ K hk ⟨hN,hlen,hI⟩ IH;simp only at hN hlen hI;have hnl:=hN.len;simp only[forall_eq,decide_eq_true_eq,decide_eq_false_iff_not];refine⟨fun h4=>?_,fun h4=>?_⟩
 ·have hkl:k<links.length:=by omega
  rw[drop_at hkl] at hI;have hx:=h3 (at' links (k:Int)) (by rw[bm hkl];exact List.getElem_mem hkl);generalize at' links (k:Int)=x at hI hx;refine⟨by omega,fun h5=>?_,fun h5=>?_⟩
  ·refine⟨by omega,⟨by omega,by omega⟩,by omega,⟨by omega,by omega⟩,IH hkl (_,_) ⟨hN,by simp[hlen],?_⟩⟩;rw[hI,eD,if_pos h5];simp
  ·have h5':¬ x >= b.edges:=h5;have hr:0<=x/\x<now.length:=⟨hx.1,by omega⟩
   refine⟨by omega,hr,fun h6=>?_,fun h6=>?_⟩
   ·have hv:=at_mem (l:=now.set x.toNat (fO now)) (i:=x) ⟨hr.1,by simpa using hr.2⟩;have hv2:=(hN.set x).val _ hv;refine⟨by omega,by simp only[lO];omega,hr,by omega,⟨hr.1,by simpa using hr.2⟩,⟨by omega,by omega⟩,by omega,⟨by omega,by omega⟩,IH hkl (_,_) ⟨hN.set x,by simp[hlen],?_⟩⟩;rw[hI,eD,if_neg h5'];simp[h6]
   ·have hv:=at_mem (l:=now) (i:=x) hr;have hv2:=hN.val _ hv;refine⟨by omega,hr,⟨by omega,by omega⟩,by omega,⟨by omega,by omega⟩,IH hkl (_,_) ⟨hN,by simp[hlen],?_⟩⟩;rw[hI,eD,if_neg h5'];simp[h6]
 ·have hkl:k=links.length:=by omega
  rw[hkl,List.drop_length] at hI;simp only[jr,hI,eD,List.append_nil]
def dP (b:aG) (node:Int) (places edges:List Int):List Int × List Int:=((at' b.nodes node).control::cp places (at' b.nodes node).parent::(eD b edges (at' b.nodes node).links).1,(eD b edges (at' b.nodes node).links).2)
abbrev eo (b:aG) (node:Int) (places edges:List Int):Prop:=(0<=node/\node<b.nodes.length)/\ep b (at' b.nodes node).links edges/\gm (at' b.nodes node).parent places
def j7 (b:aG) (node:Int) (places:List Int) (edges:List Int) (Z:((List Int) × (List Int))->Prop):Prop:=
 (0<=node/\node<b.nodes.length)/\∀ x5:ay,x5=at' b.nodes node->(ep b x5.links edges)/\∀ r10:(List Int) × (List Int),r10=jr b x5.links edges->(gm x5.parent places)/\∀ r27:Int,r27=Aa x5.parent places->∀ l28:List Int,l28=[x5.control,r27]->(l28.length+r10.1.length<=1073741824)/\∀ l37:List Int,l37=l28++r10.1->Z (l37,r10.2)
theorem yu (b:aG) (node:Int) (places edges:List Int) (h:eo b node places edges):j7 b node places edges (fun y=>y=dP b node places edges):=by
 unfold j7;obtain⟨h1,h2,h3⟩:=h;simp only[forall_eq];refine⟨h1,h2,h3,?_,?_⟩
 ·have h4:(jr b (at' b.nodes node).links edges).1.length=(at' b.nodes node).links.length:=eT b _ _;have:=h2.2.1;simp;omega
 ·simp[dP]
def kF (b:aG) (places edges:List Int):List Int × List Int:=(b.sites.map (cp places)++(eD b edges (b.inner.map fun w=>w.link)).1,(eD b edges (b.inner.map fun w=>w.link)).2)
abbrev ie (b:aG) (places edges:List Int):Prop:=ep b (b.inner.map fun w=>w.link) edges/\b.sites.length<=1048576/\∀ p ∈ b.sites,gm p places
def lD (b:aG) (places:List Int) (edges:List Int) (Z:((List Int) × (List Int))->Prop):Prop:=
 aL (σ:=Int × (List Int)) (fun (i14,l15) K19=>∀ len20:Int,len20=(b.sites.length:Int)->∀ c22:Bool,c22=decide (i14<len20)->((c22=true->(0<=i14/\i14<b.sites.length)/\∀ x25:Int,x25=at' b.sites i14->(gm x25 places)/\∀ r28:Int,r28=Aa x25 places->(l15.length+1<=1073741824)/\∀ l30:List Int,l30=l15++[r28]->(bu (i14+1))/\∀ v40:Int,v40=i14+1->K19 (v40,l30))/\(c22=false->aL (σ:=Int × (List Int)) (fun (i55,l56) K61=>∀ len62:Int,len62=(b.inner.length:Int)->∀ c64:Bool,c64=decide (i55<len62)->((c64=true->(0<=i55/\i55<b.inner.length)/\∀ x67:aN,x67=at' b.inner i55->(l56.length+1<=1073741824)/\∀ l70:List Int,l70=l56++[x67.link]->(bu (i55+1))/\∀ v81:Int,v81=i55+1->K61 (v81,l70))/\(c64=false->(ep b l56 edges)/\∀ r84:(List Int) × (List Int),r84=jr b l56 edges->(l15.length+r84.1.length<=1073741824)/\∀ l102:List Int,l102=l15++r84.1->Z (l102,r84.2)))) (0,([]:List Int))))) (0,([]:List Int))
theorem BI (b:aG) (places edges:List Int) (h:ie b places edges):lD b places edges (fun y=>y=kF b places edges):=by
 unfold lD;obtain⟨h1,h2,h3⟩:=h;have hi:b.inner.length<=1048576:=by have:=h1.2.1;simpa using this
 refine aL.oz b.sites.length (fun k out=>out=(b.sites.take k).map (cp places)) [] (by simp) ?_;rintro k _ K hk rfl IH;simp only[forall_eq,decide_eq_true_eq,decide_eq_false_iff_not,bu];refine⟨fun h4=>?_,fun h4=>?_⟩
 ·have hkl:k<b.sites.length:=by omega
  rw[bm hkl];refine⟨by omega,h3 _ (List.getElem_mem hkl),by simp;omega,by omega,IH hkl _ ?_⟩;rw[<- List.take_append_getElem hkl,List.map_append];rfl
 ·refine aL.oz b.inner.length (fun k out=>out=(b.inner.take k).map fun w=>w.link) [] (by simp) ?_;rintro j _ K2 hj rfl IH2;simp only[forall_eq,decide_eq_true_eq,decide_eq_false_iff_not];refine⟨fun h5=>?_,fun h5=>?_⟩
  ·have hjl:j<b.inner.length:=by omega
   rw[bm hjl];refine⟨by omega,by simp;omega,by omega,IH2 hjl _ ?_⟩;rw[<- List.take_append_getElem hjl,List.map_append];rfl
  ·rw[show k=b.sites.length by omega,show j=b.inner.length by omega,List.take_length,List.take_length];refine⟨h1,?_,rfl⟩;have h6:(jr b (b.inner.map fun w=>w.link) edges).1.length=(b.inner.map fun w=>w.link).length:=eT b _ _;simp only[List.length_map] at h6 ⊢;omega
structure Rz where
 out:List Int
 ed:List Int
 pl:List Int
def nk (b:aG) (s:Rz) (k:Int) (i:Nat):Rz:=⟨s.out++(dP b k s.pl s.ed).1,(dP b k s.pl s.ed).2,s.pl.set k.toNat (i:Int)⟩
def kB (b:aG) (order:List Int):Nat->Rz
 | 0=>⟨[],gr b.edges,gr b.nodes.length⟩
 | i+1=>nk b (kB b order i) (at' order (i:Int)) i
structure nA (b:aG) (i:Nat) (s:Rz):Prop where
 nums:jt b s.ed
 pl:s.pl.length=b.nodes.length
 lo:∀ v ∈ s.pl,-1<=v/\v<=8
 out:s.out.length<=5 * i
theorem nA.told {sig:cV} {b:aG} {i:Nat} {s:Rz} (hv:bo sig b) (h:nA b i s) {k:Int} (hk:0<=k/\k<b.nodes.length):ep b (at' b.nodes k).links s.ed:=by
 have h1:=hv.fB hk;refine⟨h.nums,by omega,fun l hl=>?_⟩;have h2:=hv.iM hk l hl;have h3:=hv.edges;have h4:=hv.outer;omega
theorem nA.par {b:aG} {i:Nat} {s:Rz} (h:nA b i s) (hn:b.nodes.length<=8) {p:Int} (h1 : -4<=p) (h2:p<b.nodes.length):gm p s.pl:=by
 refine⟨by rw[h.pl];omega,⟨by omega,by omega⟩,fun h0=>?_⟩;have:=h.lo _ (at_mem (l:=s.pl) (i:=p) ⟨h0,by rw[h.pl];omega⟩);exact⟨by omega,by omega⟩
theorem nA.chunk {sig:cV} {b:aG} {i:Nat} {s:Rz} (hv:bo sig b) (h:nA b i s) {k:Int} (hk:0<=k/\k<b.nodes.length):eo b k s.pl s.ed:=by
 have h1:=hv.jK hk;have h2:=hv.roots;exact⟨hk,h.told hv hk,h.par hv.len (by omega) (by omega)⟩
theorem nA.tail {sig:cV} {b:aG} {i:Nat} {s:Rz} (hv:bo sig b) (h:nA b i s):ie b s.pl s.ed:=by
 have h1:=hv.slen;have h2:=hv.inner;have h3:=hv.edges;have h4:=hv.outer;have h5:=hv.roots;refine⟨⟨h.nums,by simp;omega,fun l hl=>?_⟩,by omega,fun p hp=>?_⟩
 ·obtain⟨w,hw,rfl⟩:=List.mem_map.1 hl;have:=hv.wires w hw;omega
 ·have:=hv.sites p hp;exact h.par hv.len (by omega) (by omega)
theorem nA.step {sig:cV} {b:aG} {i:Nat} {s:Rz} (hv:bo sig b) (h:nA b i s) {k:Int} (hk:0<=k/\k<b.nodes.length) (hi:i<=8):nA b (i+1) (nk b s k i):=by
 have h1:=hv.fB hk;refine⟨mf _ _ h.nums,by simpa[nk] using h.pl,fun v hx=>?_,?_⟩
 ·simp only[nk] at hx;rcases List.mem_or_eq_of_mem_set hx with hx | rfl
  ·exact h.lo v hx
  ·omega
 ·have h2:=h.out;simp only[nk,dP,List.length_append,List.length_cons,eT];omega
theorem EC {sig:cV} {b:aG} {order:List Int} (hv:bo sig b) (ho:∀ k ∈ order,0<=k/\k<b.nodes.length) (hl:order.length<=8):∀ i≤order.length,nA b i (kB b order i)
 | 0,_=>by
  have h1:=hv.edges;refine⟨⟨h1,by simp[kB];omega,fun v hx=>?_⟩,by simp[kB],fun v hx=>?_,by simp[kB]⟩
  ·have:=(List.mem_replicate.1 hx).2;omega
  ·have:=(List.mem_replicate.1 hx).2;omega
 | i+1,h=>(EC hv ho hl i (by omega)).step hv (ho _ (by rw[bm (show i<order.length by omega)];exact List.getElem_mem _)) (by omega)
def kP (b:aG) (order:List Int):List Int × List Int:=((kB b order order.length).out++(kF b (kB b order order.length).pl (kB b order order.length).ed).1,(kF b (kB b order order.length).pl (kB b order order.length).ed).2)
abbrev kS (b:aG) (order:List Int):Prop:=(∃ sig,bo sig b)/\order.length<=8/\∀ k ∈ order,0<=k/\k<b.nodes.length
def ke (b:aG) (order:List Int) (Z:((List Int) × (List Int))->Prop):Prop:=
 (fR b.edges)/\∀ r8:List Int,r8=gr b.edges->∀ len19:Int,len19=(b.nodes.length:Int)->(fR len19)/\∀ r22:List Int,r22=gr len19->aL (σ:=Int × (List Int) × (List Int) × (List Int)) (fun (i47,l48,l49,l50) K56=>∀ len57:Int,len57=(order.length:Int)->∀ c59:Bool,c59=decide (i47<len57)->((c59=true->(0<=i47/\i47<order.length)/\∀ x66:Int,x66=at' order i47->(eo b x66 l48 l49)/\∀ r69:(List Int) × (List Int),r69=dP b x66 l48 l49->(0<=i47/\i47<order.length)/\∀ x172:Int,x172=at' order i47->(0<=x172/\x172<l48.length)/\∀ x179:Int,x179=at' l48 x172->∀ l182:List Int,l182=l48.set x172.toNat i47->(l50.length+r69.1.length<=1073741824)/\∀ l192:List Int,l192=l50++r69.1->(bu (i47+1))/\∀ v204:Int,v204=i47+1->K56 (v204,l182,r69.2,l192))/\(c59=false->(ie b l48 l49)/\∀ r207:(List Int) × (List Int),r207=kF b l48 l49->(l50.length+r207.1.length<=1073741824)/\∀ l225:List Int,l225=l50++r207.1->Z (l225,r207.2)))) (0,r22,r8,([]:List Int))
theorem yQ (b:aG) (order:List Int) (h:kS b order):ke b order (fun y=>y=kP b order):=by
 unfold ke;obtain⟨⟨sig,hv⟩,h2,h3⟩:=h;have h4:=hv.edges;have h5:=hv.len;have h6:=hv.slen;have h7:=hv.inner;refine⟨⟨h4.1,by omega⟩,?_⟩;rintro _ rfl _ rfl;refine⟨⟨by omega,by omega⟩,?_⟩;rintro _ rfl;refine aL.oz (τ:=List Int × List Int × List Int) order.length (fun k t=>t.1=(kB b order k).pl/\t.2.1=(kB b order k).ed/\t.2.2=(kB b order k).out) (gr b.nodes.length,gr b.edges,[]) ⟨rfl,rfl,rfl⟩ ?_;rintro k ⟨pl,ed,out⟩ K hk ⟨e1,e2,e3⟩ IH;simp only at e1 e2 e3;subst e1 e2 e3;have hR:=EC hv h3 h2 k hk;simp only[forall_eq,decide_eq_true_eq,decide_eq_false_iff_not];refine⟨fun h8=>?_,fun h8=>?_⟩
 ·have hkl:k<order.length:=by omega
  have hm:=h3 (at' order (k:Int)) (by rw[bm hkl];exact List.getElem_mem hkl);have hl3:=hv.fB hm;have ho:=hR.out;refine⟨by omega,hR.chunk hv hm,by omega,⟨hm.1,by rw[hR.pl];exact hm.2⟩,?_,⟨by omega,by omega⟩,IH hkl (_,_,_) ⟨rfl,rfl,rfl⟩⟩;simp only[dP,List.length_cons,eT];omega
 ·have hkl:k=order.length:=by omega
  subst hkl;have ho:=hR.out;refine⟨hR.tail hv,?_,rfl⟩;simp only[kF,List.length_append,List.length_map,eT];omega
end Go.Ab.Vg
