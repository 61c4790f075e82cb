/- Merged texts (2 of 12) of the proof that ends in Amy: K L ah N T Tb Tc Td Tf Vc Te. -/
import Derived.Test.YtfjladalegioaaaGreatDoorAbQam1
import Derived.Still
import Derived.Orders
import Derived.Laws.Strings
set_option linter.unusedSectionVars false
set_option linter.unusedSimpArgs false
namespace Go.Ab
variable [Inhabited cn]
abbrev aH:=List UInt8
abbrev int (n:Int):ao:=.v (.int .i64 n)
abbrev bool (b:Bool):ao:=.v (.bool b)
abbrev str (s:aH):ao:=.v (.string ⟨s.toArray⟩)
abbrev nilS:ao:=.v (.slice none 0 0)
def old:ao->ao
 | .agg cs=>.agg (oldL cs)
 | .tup cs=>.tup (oldL cs)
 | .list _ els=>.list false (oldLL els)
 | .iface t x=>.iface t (old x)
 | x=>x
 where
 oldL:List ao->List ao
  | []=>[]
  | a::l=>old a::oldL l
 oldLL:List (List ao)->List (List ao)
  | []=>[]
  | e::l=>oldL e::oldLL l
theorem ox (l:List ao):old.oldL l=l.map old:=by
 induction l with
 | nil=>rfl
 | cons a l ih=>simp[old.oldL,ih]
theorem vd (l:List (List ao)):old.oldLL l=l.map (fun e=>e.map old):=by
 induction l with
 | nil=>rfl
 | cons a l ih=>simp[old.oldLL,ih,ox]
theorem old_v (x:Value):old (.v x) = .v x:=rfl
theorem kP (cs:List ao):old (.agg cs) = .agg (cs.map old):=by simp[old,ox]
theorem eS (fr:Bool) (els:List (List ao)):old (.list fr els) = .list false (els.map (fun e=>e.map old)):=by simp[old,vd]
inductive gH:ao->Prop
 | v (x:Value):gH (.v x)
 | agg (cs:List ao) (h:∀ a ∈ cs,gH a):gH (.agg cs)
 | tup (cs:List ao) (h:∀ a ∈ cs,gH a):gH (.tup cs)
 | list (fr:Bool) (els:List (List ao)) (h:∀ e ∈ els,∀ a ∈ e,gH a):gH (.list fr els)
 | iface (t:TypeId) (a:ao) (h:gH a):gH (.iface t a)
theorem aU {α β:Type} {f:α->β} {l:List α} {i:Nat} {b:β} (h:(l.map f)[i]?=some b):∃ a,l[i]?=some a/\b=f a:=by
 rw[List.getElem?_map] at h;cases ha:l[i]? with
 | none=>simp[ha] at h
 | some a=>simp only[ha,Option.map_some,Option.some.injEq] at h;exact⟨a,rfl,h.symm⟩
theorem vf {c:Ctx} (h:∀ id,c.H id=none) (k:Nat):¬ c.mu k:=by
 rintro⟨id,o,ho,_⟩;rw[h] at ho;cases ho
theorem bj.old {c c':Ctx} (hw:c'.w=c.w) (hH:∀ id,c'.H id=none) {a:ao} {x:Value} (r:bj c a x) (hi:gH a):bj c' (old a) x:=by
 induction r with
 | undef=>cases hi
 | v x=>exact .v x
 | agg cs vs hl _ ih=>
  cases hi with
  | agg _ hi=>
  rw[kP];refine .agg _ vs (by simpa using hl) fun i a x ha hx=>?_
  obtain⟨b,hb,rfl⟩:=aU ha;exact ih i b x hb hx (hi b (List.mem_of_getElem? hb))
 | tup cs vs hl _ ih=>
  cases hi with
  | tup _ hi=>
  simp only[Ab.old,ox];refine .tup _ vs (by simpa using hl) fun i a x ha hx=>?_
  obtain⟨b,hb,rfl⟩:=aU ha;exact ih i b x hb hx (hi b (List.mem_of_getElem? hb))
 | lnil fr=>exact .lnil false
 | list fr els a cap sz cell hs cY hm hsz hc _ ih=>
  cases hi with
  | list _ _ hi=>
  rw[eS];have:=bj.list (c:=c') false (els.map fun e=>e.map Ab.old) a cap sz cell (fun hne=>hs (by intro h0;subst h0;simp at hne)) (by simpa using cY) (fun hne=>?_) (fun i e he=>?_) (fun i e j x he hx=>?_) (fun i e j x he hx=>?_)
  ·simpa using this
  ·obtain⟨_,h2,_⟩:=hm (by intro h0;simp[h0] at hne);exact⟨vf hH _,by rw[hw];exact h2,fun h=>by cases h⟩
  ·obtain⟨b,hb,rfl⟩:=aU he;rw[List.length_map];exact hsz i b hb
  ·obtain⟨b,hb,rfl⟩:=aU he;obtain⟨y,hy,rfl⟩:=aU hx;rw[hw];exact hc i b j y hb hy
  ·obtain⟨b,hb,rfl⟩:=aU he;obtain⟨y,hy,rfl⟩:=aU hx;exact ih i b j y hb hy (hi b (List.mem_of_getElem? hb) y (List.mem_of_getElem? hy))
 | arr=>cases hi
 | ptr=>cases hi
 | iptr=>cases hi
 | fn=>cases hi
 | iface t a x _ ih=>
  cases hi with
  | iface _ _ hi=>exact .iface t _ x (ih hi)
 | clip=>cases hi
theorem az.imm {H:au} {n:Nat} {a:ao} (hi:gH a):az H n a (old a):=fun _ _ _ _ _ r _ hw hH=>r.old hw hH hi
theorem az.v (H:au) (n:Nat) (x:Value):az H n (.v x) (.v x):=fun _ y _ _ _ r _ _ _=>by rw[r.bo];exact .v x
theorem az.rM {H:au} {n:Nat} {a b:ao} (hi:gH a) (h:old a=b):az H n a b:=h ▸ az.imm hi
theorem az.arr {H:au} {n:Nat} {id:Id} {g off len:Nat} {o:Ob} (hl:live H id g=some o) (hi:∀ e ∈ o.els,∀ a ∈ e,gH a):az H n (.arr id g off len) (.list false (((o.els.drop off).take len).map fun e=>e.map old)):=by
 intro c x hH hn gd r c' hw hc';subst hH;obtain⟨l1,l2⟩:=cu hl;cases r with
 | arr _ _ _ _ _ hone hn hg hp=>
 obtain⟨p1,⟨b,aoff,M⟩,cap,rfl,hab,hsp,hlc,cC,hcl⟩:=hp o l1 l2;simp only at hab hsp cC;subst hab hsp;obtain⟨hB,cl,el,hcell,hfit,hel⟩:=gd.obj id o l1;have hlen:(((o.els.drop off).take len).map fun e=>e.map old).length=len:=by simp;omega
 have hget:∀ (i:Nat) (e:List ao),(((o.els.drop off).take len).map fun e=>e.map old)[i]?=some e->i<len/\∃ e0,o.els[off+i]?=some e0/\e=e0.map old:=by
  intro i e he;obtain⟨e0,he0,rfl⟩:=aU he;rw[List.getElem?_take] at he0
  split at he0
  ·rename_i hi
   rw[List.getElem?_drop] at he0;exact⟨hi,e0,he0,rfl⟩
  ·cases he0
 have:=bj.list (c:=c') false (((o.els.drop off).take len).map fun e=>e.map old) ⟨c.β id,aoff,none⟩ cap o.size (fun i j=>cl.getD ((off+i) * o.size+j) Go.undef) (fun _=>rfl) (by omega) (fun _=>⟨vf hc' _,by rw[hw];exact gd.lt l1,fun h=>by cases h⟩)
  (fun i e he=>by obtain⟨_,e0,he0,rfl⟩:=hget i e he;rw[List.length_map];exact (hel _ _ he0).1) (fun i e j y he hy=>?_) (fun i e j y he hy=>?_)
 ·rw[hlen] at this;exact this
 ·obtain⟨hi,e0,he0,rfl⟩:=hget i e he;obtain⟨y0,hy0,rfl⟩:=aU hy;obtain⟨u,hu,hr⟩:=(hel _ _ he0).2 j y0 hy0;have hao:aoff=off * o.size:=by
   rcases cC with h | h
   ·exact h
   ·omega
  rw[hw,hao,<- Nat.add_assoc,<- Nat.add_mul];simp[World.cell?,hcell,hu,Array.getD_eq_getD_getElem?]
 ·obtain⟨hi2,e0,he0,rfl⟩:=hget i e he;obtain⟨y0,hy0,rfl⟩:=aU hy;obtain⟨u,hu,hr⟩:=(hel _ _ he0).2 j y0 hy0;rw[Array.getD_eq_getD_getElem?,hu];exact hr.old hw hc' (hi _ (List.mem_of_getElem? he0) _ (List.mem_of_getElem? hy0))
inductive hU (H:au):ao->ao->Prop
 | v (x:Value):hU H (.v x) (.v x)
 | agg {cs ds:List ao} (hl:cs.length=ds.length) (h:∀ (i:Nat) (a b:ao),cs[i]?=some a->ds[i]?=some b->hU H a b):hU H (.agg cs) (.agg ds)
 | tup {cs ds:List ao} (hl:cs.length=ds.length) (h:∀ (i:Nat) (a b:ao),cs[i]?=some a->ds[i]?=some b->hU H a b):hU H (.tup cs) (.tup ds)
 | list {els fls:List (List ao)} (hl:els.length=fls.length) (hl':∀ (i:Nat) (e f:List ao),els[i]?=some e->fls[i]?=some f->e.length=f.length)
   (h:∀ (i:Nat) (e f:List ao) (j:Nat) (a b:ao),els[i]?=some e->fls[i]?=some f->e[j]?=some a->f[j]?=some b->hU H a b):hU H (.list true els) (.list true fls)
 | nil (fr:Bool):hU H (.v (.slice none 0 0)) (.list fr [])
 | arr {id:Id} {g off len:Nat} {o:Ob} {fls:List (List ao)} (hlv:live H id g=some o) (hl:((o.els.drop off).take len).length=fls.length)
   (hl':∀ (i:Nat) (e f:List ao),((o.els.drop off).take len)[i]?=some e->fls[i]?=some f->e.length=f.length)
   (h:∀ (i:Nat) (e f:List ao) (j:Nat) (a b:ao),((o.els.drop off).take len)[i]?=some e->fls[i]?=some f->e[j]?=some a->f[j]?=some b->hU H a b):hU H (.arr id g off len) (.list true fls)
theorem aM {α:Type} {l:List α} {i:Nat} (h:i<l.length):∃ a,l[i]?=some a:=⟨l[i],List.getElem?_eq_getElem h⟩
theorem bj.ret {c c':Ctx} (g:Good c) (hw:c'.w=c.w) (hmu:∀ k,c'.mu k->k<c.B) (hB:c'.B<=c.B) {a b:ao} (r:hU c.H a b):∀ {x:Value},bj c a x->bj c' b x:=by
 induction r with
 | v x=>intro y h;rw[h.bo];exact .v x
 | agg hl _ ih=>
  intro x hx;cases hx with
  | agg _ vs hl' hr=>
  refine .agg _ vs (by omega) fun i b x hb hx=>?_
  have hi:=(List.getElem?_eq_some_iff.1 hb).1;obtain⟨a,ha⟩:=aM (l:=_) (i:=i) (by rw[hl];exact hi);exact ih i a b ha hb (hr i a x ha hx)
 | tup hl _ ih=>
  intro x hx;cases hx with
  | tup _ vs hl' hr=>
  refine .tup _ vs (by omega) fun i b x hb hx=>?_
  have hi:=(List.getElem?_eq_some_iff.1 hb).1;obtain⟨a,ha⟩:=aM (l:=_) (i:=i) (by rw[hl];exact hi);exact ih i a b ha hb (hr i a x ha hx)
 | nil fr=>intro x hx;rw[hx.bo];exact .lnil fr
 | @list els fls hl hl' _ ih=>
  intro x hx;cases hx with
  | lnil=>
   have:fls=[]:=List.eq_nil_of_length_eq_zero (by simpa using hl.symm);subst this;exact .lnil true
  | list _ _ a cap sz cell hs cY hm hsz hc hr=>
   have:=bj.list (c:=c') true fls a cap sz cell (fun hne=>hs (by intro h0;subst h0;exact hne (List.eq_nil_of_length_eq_zero (by simpa using hl.symm)))) (by omega) (fun hne=>?_) (fun i f hf=>?_) (fun i f j y hf hy=>?_) (fun i f j y hf hy=>?_)
   ·rw[<- hl] at this;exact this
   ·have hne':els ≠ []:=by intro h0;subst h0;exact hne (List.eq_nil_of_length_eq_zero (by simpa using hl.symm))
    obtain⟨h1,h2,h3⟩:=hm hne';refine⟨fun hmk=>?_,by rw[hw];exact h2,fun _=>Nat.le_trans hB (h3 rfl)⟩;have:=hmu _ hmk;have:=h3 rfl;omega
   ·have hi:=(List.getElem?_eq_some_iff.1 hf).1;obtain⟨e,he⟩:=aM (l:=els) (i:=i) (by omega);rw[<- hl' i e f he hf];exact hsz i e he
   ·have hi:=(List.getElem?_eq_some_iff.1 hf).1;obtain⟨e,he⟩:=aM (l:=els) (i:=i) (by omega);have hj:=(List.getElem?_eq_some_iff.1 hy).1;obtain⟨z,hz⟩:=aM (l:=e) (i:=j) (by rw[hl' i e f he hf];exact hj);rw[hw];exact hc i e j z he hz
   ·have hi:=(List.getElem?_eq_some_iff.1 hf).1;obtain⟨e,he⟩:=aM (l:=els) (i:=i) (by omega);have hj:=(List.getElem?_eq_some_iff.1 hy).1;obtain⟨z,hz⟩:=aM (l:=e) (i:=j) (by rw[hl' i e f he hf];exact hj);exact ih i e f j z y he hf hz hy (hr i e j z he hz)
 | @arr id gg off len o fls hlv hl hl' _ ih=>
  intro x hx;obtain⟨l1,l2⟩:=cu hlv;cases hx with
  | arr _ _ _ _ _ hone hn hg hp=>
  obtain⟨p1,⟨b,aoff,M⟩,cap,rfl,hab,hsp,hlc,cC,hcl⟩:=hp o l1 l2;simp only at hab hsp cC;subst hab hsp;obtain⟨hBo,cl,el,hcell,hfit,hel⟩:=g.obj id o l1;have hlen:((o.els.drop off).take len).length=len:=by simp;omega
  have hget:∀ (i:Nat) (e:List ao),((o.els.drop off).take len)[i]?=some e->i<len/\o.els[off+i]?=some e:=by
   intro i e he;rw[List.getElem?_take] at he
   split at he
   ·rename_i hi
    rw[List.getElem?_drop] at he;exact⟨hi,he⟩
   ·cases he
  have key:∀ (i:Nat) (f:List ao) (j:Nat) (y:ao),fls[i]?=some f->f[j]?=some y->∃ e z u,((o.els.drop off).take len)[i]?=some e/\e[j]?=some z/\cl[(off+i) * o.size+j]?=some u/\bj c z u/\aoff=off * o.size:=by
   intro i f j y hf hy;have hi:=(List.getElem?_eq_some_iff.1 hf).1;obtain⟨e,he⟩:=aM (l:=(o.els.drop off).take len) (i:=i) (by omega);have hj:=(List.getElem?_eq_some_iff.1 hy).1;obtain⟨z,hz⟩:=aM (l:=e) (i:=j) (by rw[hl' i e f he hf];exact hj);obtain⟨hi2,he0⟩:=hget i e he;obtain⟨u,hu,hr⟩:=(hel _ _ he0).2 j z hz;refine⟨e,z,u,he,hz,hu,hr,?_⟩;rcases cC with h | h
   ·exact h
   ·omega
  have:=bj.list (c:=c') true fls ⟨c.β id,aoff,none⟩ cap o.size (fun i j=>cl.getD ((off+i) * o.size+j) Go.undef) (fun _=>rfl) (by omega) (fun hne=>?_) (fun i f hf=>?_) (fun i f j y hf hy=>?_) (fun i f j y hf hy=>?_)
  ·rw[<- hl,hlen] at this;exact this
  ·refine⟨fun hmk=>?_,by rw[hw];exact g.lt l1,fun _=>Nat.le_trans hB hBo⟩;have:=hmu _ hmk;simp only at this;omega
  ·have hi:=(List.getElem?_eq_some_iff.1 hf).1;obtain⟨e,he⟩:=aM (l:=(o.els.drop off).take len) (i:=i) (by omega);rw[<- hl' i e f he hf];exact (hel _ _ (hget i e he).2).1
  ·obtain⟨e,z,u,he,hz,hu,hr,hao⟩:=key i f j y hf hy;rw[hw,hao,<- Nat.add_assoc,<- Nat.add_mul];simp[World.cell?,hcell,hu,Array.getD_eq_getD_getElem?]
  ·obtain⟨e,z,u,he,hz,hu,hr,hao⟩:=key i f j y hf hy;rw[Array.getD_eq_getD_getElem?,hu];exact ih i e f j z y he hf hz hy hr
theorem jJ.of {H:au} {n:Nat} {a b:ao} (r:hU H a b):jJ H n a b:=by
 intro c x hH _ g hx c' hw hmu hB;subst hH;exact bj.ret g hw hmu hB r hx
theorem jJ.v (H:au) (n:Nat) (x:Value):jJ H n (.v x) (.v x):=.of (.v x)
inductive ba:ao->Prop
 | v (x:Value):ba (.v x)
 | agg (cs:List ao) (h:∀ a ∈ cs,ba a):ba (.agg cs)
 | tup (cs:List ao) (h:∀ a ∈ cs,ba a):ba (.tup cs)
 | list (els:List (List ao)) (h:∀ e ∈ els,∀ a ∈ e,ba a):ba (.list true els)
@[simp] theorem fresh_v (x : Value) : ba (.v x) := .v x
@[simp] theorem fresh_list (els : List (List ao)) : ba (.list true els) ↔ ∀ e ∈ els, ∀ a ∈ e, ba a := ⟨fun h => by cases h with | list _ h => exact h, .list els⟩
theorem hU.fresh {H:au} {a:ao} (h:ba a):hU H a a:=by
 induction h with
 | v x=>exact .v x
 | agg cs _ ih=>exact .agg rfl fun i a b ha hb=>by rw[ha] at hb;cases hb;exact ih a (List.mem_of_getElem? ha)
 | tup cs _ ih=>exact .tup rfl fun i a b ha hb=>by rw[ha] at hb;cases hb;exact ih a (List.mem_of_getElem? ha)
 | list els _ ih=>exact .list rfl (fun i e f he hf=>by rw[he] at hf;cases hf;rfl) fun i e f j a b he hf ha hb=>by rw[he] at hf;cases hf;rw[ha] at hb;cases hb;exact ih e (List.mem_of_getElem? he) a (List.mem_of_getElem? ha)
theorem hU.pe {H:au} {id:Id} {g sz:Nat} {els:List (List ao)} (hl:live H id g=some ⟨sz,els⟩) (h:∀ e ∈ els,∀ a ∈ e,ba a):hU H (.arr id g 0 g) (.list true els):=by
 obtain⟨l1,l2⟩:=cu hl;simp only at l2;have e1:((Ob.mk sz els).els.drop 0).take g=els:=by simp[<- l2]
 refine .arr hl (by rw[e1]) (fun i e f he hf=>?_) fun i e f j a b he hf ha hb=>?_
 ·rw[e1,hf] at he;cases he;rfl
 ·rw[e1,hf] at he;cases he;rw[ha] at hb;cases hb;exact hU.fresh (h e (List.mem_of_getElem? hf) a (List.mem_of_getElem? ha))
def flat:ao->Bool
 | .v _=>true
 | _=>false
theorem ba.flat {a:ao} (h:Ab.flat a=true):ba a:=by
 cases a<;>simp[Ab.flat] at h;exact .v _
theorem gH.flat {a:ao} (h:Ab.flat a=true):gH a:=by
 cases a<;>simp[Ab.flat] at h;exact .v _
section
variable {P:Program} {N:Nat} {fn:Func} {O:Env} {H:au} {n:Nat}
theorem aG.zero (h:fn.results=#[]):aG P N fn O H n (.tup []):=fun c a _ _ _ r=>⟨.tuple #[],by simp[results,h],.tup [] [] rfl (by simp)⟩
theorem aG.one {t:Tmp} (h:fn.results=#[.tmp t]):aG P N fn O H n (O t):=fun c a _ _ _ r=>⟨a.tmps.getD t undef,results_tmp h a.tmps P c.w,r.rep t⟩
theorem aG.two {t u:Tmp} (h:fn.results=#[.tmp t,.tmp u]):aG P N fn O H n (.tup [O t,O u]):=fun c a _ _ _ r=>
 ⟨.tuple [a.tmps.getD t undef,a.tmps.getD u undef].toArray,by simp[results,h],.tup _ _ rfl fun i b x hb hx=>by
  match i with
  | 0=>simp at hb hx;rw[<- hb,<- hx];simpa using r.rep t
  | 1=>simp at hb hx;rw[<- hb,<- hx];simpa using r.rep u
  | i+2=>simp at hb⟩
end
section
variable {P:Program} {f:FuncId} {N:Nat} {k:List Item} {O:Env} {H:au} {n:Nat} {Q:ao->au->Nat->Prop}
theorem I.dQ {x:Code} (len:Nat) (an:Nat->Env->au->Nat->Prop) (h0:an 0 O H n)
  (step:∀ i O H n,i<=len->an i O H n->(i<len->∀ ρ' H' n',an (i+1) ρ' H' n'->I P f N (.inLoop x::k) ρ' H' n' Q)->I P f N (.code x::.inLoop x::k) O H n Q) :
  I P f N (.code (.loop x)::k) O H n Q:=by
 have key:∀ m i O H n,i+m=len->an i O H n->I P f N (.code x::.inLoop x::k) O H n Q:=by
  intro m
  induction m with
  | zero=>intro i O H n hi hI;exact step i O H n (by omega) hI (fun h=>by omega)
  | succ m ih=>intro i O H n hi hI;exact step i O H n (by omega) hI (fun _ ρ' H' n' hI'=>I.inLoop (ih (i+1) ρ' H' n' (by omega) hI'))
 exact I.loop (key len 0 O H n (by omega) h0)
theorem I.mR {x:Code} (an:Nat->Env->au->Nat->Prop) (m:Nat) (h0:an m O H n)
  (step:∀ m O H n,an m O H n->(∀ m' ρ' H' n',m'<m->an m' ρ' H' n'->I P f N (.inLoop x::k) ρ' H' n' Q)->I P f N (.code x::.inLoop x::k) O H n Q) :
  I P f N (.code (.loop x)::k) O H n Q:=by
 have key:∀ m O H n,an m O H n->I P f N (.code x::.inLoop x::k) O H n Q:=by
  intro m
  induction m using Nat.strongRecOn with
  | _ m ih=>intro O H n hI;exact step m O H n hI (fun m' ρ' H' n' hm hI'=>I.inLoop (ih m' hm ρ' H' n' hI'))
 exact I.loop (key m O H n h0)
theorem I.ite {t:Operand} {x y:Code} {b:Bool} (hb:O.ev t = .v (.bool b)) (hy:b=true->I P f N (.code x::k) O H n Q) (hn:b=false->I P f N (.code y::k) O H n Q):I P f N (.code (.cond t x y)::k) O H n Q:=by
 cases b with
 | true=>exact I.cond hb (hy rfl)
 | false=>exact I.cond hb (hn rfl)
theorem I.vK {x y:Code} (R:Env->au->Nat->Prop) (hx:(∀ O H n,R O H n->I P f N (.code y::k) O H n Q)->I P f N (.code x::.code y::k) O H n Q) (hy:∀ O H n,R O H n->I P f N (.code y::k) O H n Q):I P f N (.code (.seq x y)::k) O H n Q:=I.seq (hx hy)
end
theorem wrap64 {x:Int} (h1 : -9223372036854775808<=x) (h2:x<=9223372036854775807):IntKind.i64.wrap x=x:=by
 simp only[IntKind.wrap,IntKind.bits,IntKind.signed];simp only[Bool.true_and]
 split<;>rename_i h<;>simp at h<;>omega
theorem bY {k:Nat} (h:k<4611686018427387904):IntKind.i64.wrap ((k:Int)+1)=((k+1:Nat):Int):=by
 rw[wrap64 (by omega) (by omega)];omega
section
variable {P:Program} {f:FuncId} {N:Nat} {k:List Item} {O:Env} {H:au} {n:Nat} {Q:ao->au->Nat->Prop} {Ty:Types}
theorem I.seqE (hT:aN P Ty) {id:Nat} {ops:List Oper} {y:Code} (hN:ops.all (fun o=>cU N o.dst)=true)
  (h:∀ k':List Item,(∀ O H n,I P f N (.code y::k) O H n Q->I P f N k' O H n Q)->bI P f N k' Q Ty ops.toArray ops O H n):I P f N (.code (.seq (.region id ops.toArray false) y)::k) O H n Q:=
 I.seq (I.eval hT hN (h (.code y::k) fun _ _ _ h=>h))
theorem I.evalE (hT:aN P Ty) {id:Nat} {ops:List Oper} (hN:ops.all (fun o=>cU N o.dst)=true)
  (h:∀ k':List Item,(∀ O H n,I P f N k O H n Q->I P f N k' O H n Q)->bI P f N k' Q Ty ops.toArray ops O H n):I P f N (.code (.region id ops.toArray false)::k) O H n Q:=
 I.eval hT hN (h k fun _ _ _ h=>h)
end
def Post (R:ao->Prop) (Q:ao->au->Nat->Prop):Prop:=∀ v H n r,jJ H n v r->R r->Q v H n
theorem aA.of {P:Program} {f:FuncId} {fn:Func} {body:Code} {args:List ao} {R:ao->Prop} {N:Nat} (hfn:P.funcs[f]?=some fn) (hb:fn.body=some body) (hn:fn.ntmps=N) (hN:args.length<=N)
  (h:∀ Q,Post R Q->I P f N [.code body] (fw args) bc 0 Q):aA P f args R:=by
 subst hn;exact aA.jr hfn hb hN (h _ fun v H n r h1 h2=>⟨r,h1,h2⟩)
attribute [simp] au.set_set pH aK guardOf Env.vI Env.uc Env.ev nr fw au.df bT live cR mS eo bQ aJ aL one np chunks ax bR uE dU unF rq bL ar nE a6 b6 bf gU Ob.write c5 aR rI
end Go.Ab
namespace Go.Ab
variable [Inhabited cn]
def tmpsOf (op:Op):List Tmp:=op.operands.toList.filterMap fun | .tmp t=>some t | _=>none
def loc (op:Op) (O:Env):Env:=fun t=>if (tmpsOf op).contains t then O t else .undef
theorem gp {op:Op} {O:Env} {x:Operand} (h:x ∈ op.operands):(loc op O).ev x=O.ev x:=by
 cases x with
 | tmp t=>
  have:t ∈ tmpsOf op:=List.mem_filterMap.2 ⟨.tmp t,by simpa using h,rfl⟩;simp[Env.ev,loc,this]
 | _=>rfl
theorem dX {op:Op} {O:Env} {d:Option Tmp} {v:ao} (h:∀ t,d=some t->t ∉ tmpsOf op):loc op (O.put d v)=loc op O:=by
 cases d with
 | none=>rfl
 | some d=>
  funext t
  simp only[loc,Env.put]
  split
  ·rename_i ht
   rw[if_neg];intro he;subst he;exact h t rfl (by simpa using ht)
  ·rfl
theorem bV.loc {N:Nat} {c:Ctx} {O:Env} {a:Act} (op:Op) (r:bV N c O a):bV N c (loc op O) a:=by
 refine⟨r.defers,r.size,fun t=>?_⟩;simp only[Ab.loc]
 split
 ·exact r.rep t
 ·exact .undef _
theorem put_comm {O:Env} {x y:Option Nat} (v u:ao) (h:∀ d,x=some d->y ≠ some d):(O.put x v).put y u=(O.put y u).put x v:=by
 cases x with
 | none=>rfl
 | some d=>
  cases y with
  | none=>rfl
  | some e=>
   have hne:d ≠ e:=fun he=>h d rfl (he ▸ rfl)
   funext t
   simp only[Env.put]
   by_cases h1:t=e<;>by_cases h2:t=d<;>simp_all
def cA:Op->Nat
 | .move _ | .assign _ | .pick .. | .binOp .. | .unOp .. | .convert .. | .makeFunc .. | .extract .. | .field .. | .index .. | .build ..=>0
 | .load .. | .fieldAddr .. | .indexAddr .. | .slice .. | .nilCheck _ | .call ⟨.builtin .len,_,_⟩ | .call ⟨.value _,_,_⟩=>1
 | .buildSlice _ len _=>if len=0 then 2 else 0
 | _=>2
abbrev AS:=Env × au × Nat
def eG (ops:Array Oper) (o:Oper) (O:Env):Option Bool:=
 match o.guard with
 | none=>some true
 | some (j,w)=>match guardOf ops O j with
  | .v (.bool b)=>some (b == w)
  | .v (.tuple _)=>some false
  | _=>none
def rC (v:ao) (H:au) (n:Nat):ao->au->Nat->Prop:=fun v1 H1 U=>v1=v/\H1=H/\U=n
section
variable (P:Program) (N:Nat) (ops:Array Oper) (κ:Op->Nat)
def fR (o:Oper) (s s':AS):Prop:=
 (eG ops o s.1=some true/\∃ v,s'.1=s.1.put o.dst v/\(κ o.op=0->s'.2=s.2/\∀ H n,aE P N o (loc o.op s.1) H n (rC v H n))/\(κ o.op=1->s'.2=s.2)/\aE P N o (loc o.op s.1) s.2.1 s.2.2 (rC v s'.2.1 s'.2.2)) \/
 (eG ops o s.1=some false/\s'=(s.1.put o.dst gF,s.2))
def jo (R:AS->Prop):Nat->Array Bool->AS->Prop
 | 0,listed,s=>Region.ready .any ops listed=[]/\R s
 | fuel+1,listed,s=>(Region.ready .any ops listed=[]->R s)/\∀ i ∈ Region.ready .any ops listed,∃ o s',ops[i]?=some o/\fR P N ops κ o s s'/\jo R fuel (listed.setIfInBounds i true) s'
def vJ (R:AS->Prop):List Oper->AS->Prop
 | [],s=>R s
 | o::l,s=>∃ s',fR P N ops κ o s s'/\vJ R l s'
end
def eI (a b:Nat):Bool:=a == 0 || b == 0 || (a == 1 && b == 1)
section
variable {P:Program} {N:Nat} {ops:Array Oper} {κ:Op->Nat}
theorem fi {o:Oper} {O:Env} {d:Option Tmp} {v:ao} (h:∀ t,d=some t->t ∉ o.looksAt ops):eG ops o (O.put d v)=eG ops o O:=by
 unfold eG;cases hg:o.guard with
 | none=>rfl
 | some gw=>
  obtain⟨j,w⟩:=gw;have:guardOf ops (O.put d v) j=guardOf ops O j:=by
   unfold guardOf;cases ht:(ops[j]?).bind (·.dst) with
   | none=>rfl
   | some t=>
    cases d with
    | none=>rfl
    | some d=>
     simp only[Env.put];rw[if_neg];intro he;subst he;exact h t rfl (by simp[Oper.looksAt,hg,ht])
  simp only[this]
theorem cm {o:Oper} {d:Option Tmp} (h:∀ t,d=some t->t ∉ o.looksAt ops):∀ t,d=some t->t ∉ tmpsOf o.op:=fun t ht hm=>by
 obtain⟨x,hx,he⟩:=List.mem_filterMap.1 hm;cases x with
 | tmp t'=>cases he;exact h _ ht (List.mem_append_left _ (List.mem_filterMap.2 ⟨.tmp _,hx,rfl⟩))
 | _=>cases he
theorem fR.jH {oi oj:Oper} (hap:oi.apart ops oj=true) (hc:eI (κ oi.op) (κ oj.op)=true) {s si sij:AS} (hi:fR P N ops κ oi s si) (hj:fR P N ops κ oj si sij):∃ sj,fR P N ops κ oj s sj/\fR P N ops κ oi sj sij:=by
 obtain⟨h1,h2,h3⟩:=Oper.apart_spec hap;have lj:∀ v,loc oj.op (s.1.put oi.dst v)=loc oj.op s.1:=fun v=>dX (cm h1)
 have li:∀ v,loc oi.op (s.1.put oj.dst v)=loc oi.op s.1:=fun v=>dX (cm h3)
 have gj:∀ v,eG ops oj (s.1.put oi.dst v)=eG ops oj s.1:=fun v=>fi h1
 have gi:∀ v,eG ops oi (s.1.put oj.dst v)=eG ops oi s.1:=fun v=>fi h3
 have hcc:κ oi.op=0\/κ oj.op=0\/(κ oi.op=1/\κ oj.op=1):=by
  simp only[eI,Bool.or_eq_true,beq_iff_eq,Bool.and_eq_true] at hc;rcases hc with (h | h) | h
  ·exact .inl h
  ·exact .inr (.inl h)
  ·exact .inr (.inr h)
 obtain⟨O,H,n⟩:=s;obtain⟨ρi,Hi,ni⟩:=si;obtain⟨ρj,Hj,nj⟩:=sij;simp only at lj li gj gi;rcases hi with ⟨hgi,v,hv,hk0,hk1,hop⟩ | ⟨hgi,hs⟩
 ·simp only at hgi hv hk0 hk1 hop;subst hv;rcases hj with ⟨hgj,u,hu,hl0,hl1,hoq⟩ | ⟨hgj,hs'⟩
  ·simp only at hgj hu hl0 hl1 hoq;subst hu;rw[gj] at hgj;rw[lj] at hl0 hoq;rcases hcc with h0 | h0 | ⟨h0,h0'⟩
   ·obtain⟨he,hall⟩:=hk0 h0;cases he;refine⟨(O.put oj.dst u,Hj,nj),.inl ⟨hgj,u,rfl,hl0,hl1,hoq⟩,.inl ⟨by simpa only [gi] using hgi,v,by rw[put_comm v u h2],fun _=>⟨rfl,by simpa only [li] using hall⟩,fun _=>rfl,?_⟩⟩;simp only[li];exact hall Hj nj
   ·obtain⟨he,hall⟩:=hl0 h0;cases he;refine⟨(O.put oj.dst u,H,n),.inl ⟨hgj,u,rfl,fun _=>⟨rfl,hall⟩,fun _=>rfl,hall H n⟩,.inl ⟨by simpa only [gi] using hgi,v,by rw[put_comm v u h2],by simpa only [li] using hk0,hk1,?_⟩⟩;simp only[li];exact hop
   ·have e1:=hk1 h0;have e2:=hl1 h0';cases e1;cases e2;refine⟨(O.put oj.dst u,H,n),.inl ⟨hgj,u,rfl,hl0,hl1,hoq⟩,.inl ⟨by simpa only [gi] using hgi,v,by rw[put_comm v u h2],by simpa only [li] using hk0,hk1,?_⟩⟩;simp only[li];exact hop
  ·simp only at hgj hs';cases hs';rw[gj] at hgj;refine⟨(O.put oj.dst gF,H,n),.inr ⟨hgj,rfl⟩,.inl ⟨by simpa only [gi] using hgi,v,by rw[put_comm v gF h2],by simpa only [li] using hk0,hk1,?_⟩⟩;simp only[li];exact hop
 ·simp only at hgi hs;cases hs;rcases hj with ⟨hgj,u,hu,hl0,hl1,hoq⟩ | ⟨hgj,hs'⟩
  ·simp only at hgj hu hl0 hl1 hoq;subst hu;rw[gj] at hgj;rw[lj] at hl0 hoq;exact⟨(O.put oj.dst u,Hj,nj),.inl ⟨hgj,u,rfl,hl0,hl1,hoq⟩,.inr ⟨by simpa only [gi] using hgi,by rw[put_comm gF u h2]⟩⟩
  ·simp only at hgj hs';cases hs';rw[gj] at hgj;exact⟨(O.put oj.dst gF,H,n),.inr ⟨hgj,rfl⟩,.inr ⟨by simpa only [gi] using hgi,by rw[put_comm gF gF h2]⟩⟩
theorem jo.first {R:AS->Prop} {i:Nat} {oi:Oper} (hi:ops[i]?=some oi) (ak:List Nat) (hD:∀ j oj,ops[j]?=some oj->j ∈ ak->j ≠ i->∃ e ∈ oj.after,Region.binds .any e=true/\e.on ∈ ak):∀ (fuel:Nat) (listed:Array Bool) (s s':AS),
  (∀ j ∈ ak,listed.getD j true=false)->(∀ j oj,ops[j]?=some oj->j ≠ i->listed.getD j true=false->j ∉ ak->oi.apart ops oj=true/\eI (κ oi.op) (κ oj.op)=true) ->
  i ∈ Region.ready .any ops listed->fR P N ops κ oi s s'->jo P N ops κ R fuel (listed.setIfInBounds i true) s'->jo P N ops κ R (fuel+1) listed s:=by
 intro fuel
 induction fuel with
 | zero=>
  intro listed s s' _ _ hr hst H;refine⟨fun h=>(by rw[h] at hr;cases hr),fun j hj=>?_⟩
  by_cases hji:j=i
  ·subst hji;exact⟨oi,s',hi,hst,H⟩
  ·have:=ready_mono hj hji;rw[H.1] at this;cases this
 | succ fuel ih=>
  intro listed s s' hinv hfree hr hst H;refine⟨fun h=>(by rw[h] at hr;cases hr),fun j hj=>?_⟩
  by_cases hji:j=i
  ·subst hji;exact⟨oi,s',hi,hst,H⟩
  ·obtain⟨oj,s'',hoj,hstj,hrest⟩:=H.2 j (ready_mono hj hji);obtain⟨hjun,oj',hoj',hall⟩:=mem_ready.1 hj;rw[hoj] at hoj';cases hoj';have hnot:j ∉ ak:=fun hd=>by
    obtain⟨e,he,hb,hed⟩:=hD j oj hoj hd hji;have h1:=hall e he hb;have h0:=hinv e.on hed;rcases Nat.lt_or_ge e.on listed.size with h' | h'
    ·simp[h'] at h0 h1;rw[h0] at h1;cases h1
    ·simp[Array.getElem?_eq_none h'] at h1
   obtain⟨hap,hco⟩:=hfree j oj hoj hji hjun hnot;obtain⟨sj,h1,h2⟩:=fR.jH hap hco hst hstj;refine⟨oj,sj,hoj,h1,ih (listed.setIfInBounds j true) sj s'' (fun k hk=>?_) (fun k ok hk hki hun hno=>?_) (ready_mono hr (Ne.symm hji)) h2 ?_⟩
   ·have hjk:j ≠ k:=fun he=>hnot (he ▸ hk)
    rw[getD_set_ne true hjk];exact hinv k hk
   ·refine hfree k ok hk hki ?_ hno
    by_cases hjk:j=k
    ·subst hjk;exact hjun
    ·rw[getD_set_ne true hjk] at hun;exact hun
   ·rw[Array.setIfInBounds_comm _ _ hji];exact hrest
def behind (ops:Array Oper) (i:Nat):List Nat:=
 (List.range ops.size).foldl (fun ak j=>match ops[j]? with
  | some oj=>if oj.after.any (fun e=>Region.binds .any e && ak.contains e.on) then j::ak else ak
  | none=>ak) [i]
def ux (κ:Op->Nat) (ops:Array Oper) (listed:Array Bool) (i:Nat):Bool:=
 match ops[i]? with
 | none=>false
 | some oi=>((behind ops i).all fun j => !(listed.getD j true) && match ops[j]? with
   | none=>true
   | some oj=>j == i || oj.after.any (fun e=>Region.binds .any e && (behind ops i).contains e.on)) &&
  (List.range ops.size).all fun j=>match ops[j]? with
  | none=>true
  | some oj=>j == i || listed.getD j true || (behind ops i).contains j || (oi.apart ops oj && eI (κ oi.op) (κ oj.op))
def ld (κ:Op->Nat) (ops:Array Oper):Nat->Nat->Array Bool->Bool
 | 0,_,listed=>(Region.ready .any ops listed).isEmpty
 | fuel+1,k,listed=>(Region.ready .any ops listed).contains k && ux κ ops listed k && ld κ ops fuel (k+1) (listed.setIfInBounds k true)
def eW (κ:Op->Nat) (ops:Array Oper):Bool:=ld κ ops ops.size 0 (Array.replicate ops.size false)
theorem ji {listed:Array Bool} {i:Nat} {oi:Oper} (hi:ops[i]?=some oi) (h:ux κ ops listed i=true) :
  (∀ j oj,ops[j]?=some oj->j ∈ behind ops i->j ≠ i->∃ e ∈ oj.after,Region.binds .any e=true/\e.on ∈ behind ops i)/\(∀ j ∈ behind ops i,listed.getD j true=false) /\
  ∀ j oj,ops[j]?=some oj->j ≠ i->listed.getD j true=false->j ∉ behind ops i->oi.apart ops oj=true/\eI (κ oi.op) (κ oj.op)=true:=by
 unfold ux at h;simp only[hi,Bool.and_eq_true] at h;obtain⟨h1,h2⟩:=h;refine⟨fun j oj hj hd hji=>?_,fun j hd=>?_,fun j oj hj hji hun hno=>?_⟩
 ·have:=List.all_eq_true.1 h1 j hd;simp only[hj,Bool.and_eq_true,Bool.or_eq_true,beq_iff_eq] at this;rcases this.2 with h3 | h3
  ·exact absurd h3 hji
  ·obtain⟨e,he,hb⟩:=Array.any_eq_true'.1 h3;simp only[Bool.and_eq_true,List.contains_iff_mem] at hb;exact⟨e,he,hb.1,hb.2⟩
 ·have:=List.all_eq_true.1 h1 j hd;simp only[Bool.and_eq_true,Bool.not_eq_true'] at this;exact this.1
 ·have hlt:j<ops.size:=(Array.getElem?_eq_some_iff.1 hj).1;have:=List.all_eq_true.1 h2 j (List.mem_range.2 hlt);simp only[hj,hun,Bool.or_false,Bool.or_eq_true,beq_iff_eq,Bool.and_eq_true,List.contains_iff_mem] at this;rcases this with (h1 | h1) | h1
  ·exact absurd h1 hji
  ·exact absurd h1 hno
  ·exact h1
theorem jo.lex {R:AS->Prop}:∀ (l:List Oper) (k:Nat) (listed:Array Bool) (s:AS),(∀ j:Nat,l[j]?=ops[k+j]?)->ld κ ops l.length k listed=true->vJ P N ops κ R l s->jo P N ops κ R l.length listed s
 | [],_,_,_,_,hB,h=>⟨by simpa[ld] using hB,h⟩
 | o::l,k,listed,s,hl,hB,h=>by
  have h0:ops[k]?=some o:=by simpa using (hl 0).symm
  simp only[List.length_cons,ld,Bool.and_eq_true] at hB;obtain⟨⟨hr,hf⟩,hB'⟩:=hB;obtain⟨s',hst,hrest⟩:=h;obtain⟨f1,f2,f3⟩:=ji h0 hf;exact jo.first h0 (behind ops k) f1 l.length listed s s' f2 f3 (by simpa using hr) hst
   (jo.lex l (k+1) _ _ (fun j=>by have:=hl (j+1);simpa[Nat.add_assoc,Nat.add_comm 1 j] using this) hB' hrest)
theorem bA {c:Ctx} {O:Env} {a:Act} (r:bV N c O a) (hN:ops.toList.all (fun o=>cU N o.dst)=true) {o:Oper} {b:Bool} (h:eG ops o O=some b):Region.wanted o (yielded ops a.tmps)=b:=by
 unfold eG at h;cases hg:o.guard with
 | none=>simp only[hg,Option.some.injEq] at h;simp[Region.wanted,hg,<- h]
 | some gw=>
  obtain⟨j,w⟩:=gw;simp only[hg] at h
  split at h
  ·rename_i b' hv
   unfold guardOf at hv
   split at hv
   ·rename_i t hj
    have ht:cU N (some t)=true:=by
     cases ho:ops[j]? with
     | none=>simp[ho] at hj
     | some o'=>
      simp only[ho,Option.bind_some] at hj;have:=List.all_eq_true.1 hN o' (by rw[<- Array.getElem?_toList] at ho;exact List.mem_of_getElem? ho);rw[hj] at this;exact this
    have hy:=jd r hj ht hv;simp only[Option.some.injEq] at h;subst h;simp only[Region.wanted,hg,hy];cases b'<;>cases w<;>rfl
   ·cases hv
  ·rename_i xs hv
   unfold guardOf at hv
   split at hv
   ·rename_i t hj
    have ht:cU N (some t)=true:=by
     cases ho:ops[j]? with
     | none=>simp[ho] at hj
     | some o'=>
      simp only[ho,Option.bind_some] at hj;have:=List.all_eq_true.1 hN o' (by rw[<- Array.getElem?_toList] at ho;exact List.mem_of_getElem? ho);rw[hj] at this;exact this
    have hy:=jF r hj ht hv;simp only[Option.some.injEq] at h;subst h;simp only[Region.wanted,hg,hy]
    rfl
   ·cases hv
  ·cases h
theorem jo.sound {R:AS->Prop} (hN:ops.toList.all (fun o=>cU N o.dst)=true) {Q:Exit->Act->World->Prop} {c0:Ctx} (hQ:∀ a c O,aQ c0 c->Good c->bV N c O a->R (O,c.H,c.n)->Q .normal a c.w) :
  ∀ (fuel:Nat) (listed:Array Bool) (O:Env) (c:Ctx) (a:Act),aQ c0 c->Good c->bV N c O a->jo P N ops κ R fuel listed (O,c.H,c.n)->wpAny P .any ops Q fuel listed a c.w
 | 0,_,_,_,_,hk,g,r,h=>⟨h.1,hQ _ _ _ hk g r h.2⟩
 | fuel+1,listed,O,c,a,hk,g,r,h=>by
  refine⟨fun h0=>hQ _ _ _ hk g r (h.1 h0),fun i hi=>?_⟩;obtain⟨o,s',ho,hst,hrest⟩:=h.2 i hi;obtain⟨ρ',H',n'⟩:=s';have hd:cU N o.dst=true:=List.all_eq_true.1 hN o (by rw[<- Array.getElem?_toList] at ho;exact List.mem_of_getElem? ho);unfold wpOp;simp only[ho];rcases hst with ⟨hg,v,hv,_,_,hop⟩ | ⟨hg,hs⟩
  ·rw[if_pos (bA r hN hg)];simp only at hv hop;subst hv;refine .inl (hop c a rfl rfl g (r.loc o.op) _ _ ?_);rintro v1 x c' ⟨rfl,hH,hn⟩ hrep hgood hkeep;exact jo.sound hN hQ fuel _ _ c' _ (hk.trans hkeep) hgood ((r.keeps hkeep).put hd hrep) (by rw[hH,hn];exact hrest)
  ·rw[if_neg (by rw[bA r hN hg];simp)];cases hs;exact jo.sound hN hQ fuel _ _ c _ hk g (r.put hd (.v _)) hrest
end
section
variable {P:Program} {f:FuncId} {N:Nat} {k:List Item} {O:Env} {H:au} {n:Nat} {Q:ao->au->Nat->Prop} {κ:Op->Nat}
theorem I.draw {id:Nat} {ops:List Oper} (hm:P.follows .mixedOrders=true) (hN:ops.all (fun o=>cU N o.dst)=true) (hB:eW κ ops.toArray=true)
  (h:vJ P N ops.toArray κ (fun s=>I P f N k s.1 s.2.1 s.2.2 Q) ops (O,H,n)):I P f N (.code (.region id ops.toArray true)::k) O H n Q:=by
 intro c a hH hn g r b cs hf hk;subst hH;subst hn;obtain⟨d1,d2⟩:=eR g;have hany:=jo.lex (P:=P) (N:=N) (κ:=κ) (ops:=ops.toArray) ops 0 (Array.replicate ops.toArray.size false) (O,c.H,c.n) (by simp) (by simpa[eW] using hB) h;have hw:(Code.region id ops.toArray true).wp P (fun e a' w'=>e = .normal/\∃ c' ρ',c'.w=w'/\aQ c c'/\Good c'/\bV N c' ρ' a'/\I P f N k ρ' c'.H c'.n Q) a c.w:=by
  refine wp_region_any hm ?_;have:=jo.sound (P:=P) (N:=N) (κ:=κ) (ops:=ops.toArray) (c0:=c) (by simpa using hN) (Q:=fun e a' w'=>e = .normal/\∃ c' ρ',c'.w=w'/\aQ c c'/\Good c'/\bV N c' ρ' a'/\I P f N k ρ' c'.H c'.n Q)
   (R:=fun s=>I P f N k s.1 s.2.1 s.2.2 Q) (fun a' c' ρ' V hg' hr' hR=>⟨rfl,c',ρ',rfl,V,hg',hr',hR⟩) ops.length (Array.replicate ops.toArray.size false) O { c with w:={ c.w with drawn:=c.w.drawn+1 } } a d1 d2 (r.keeps d1) hany
  simpa using this
 obtain⟨e,a',w',⟨rfl,c',ρ',rfl,V,hg',hr',hR⟩,harr⟩:=hw b k cs;obtain⟨x,v,c'',fr,q,hr,hg,hke,hst,rest⟩:=hR c' a' rfl rfl hg' hr' b cs hf hk;exact⟨x,v,c'',fr,q,hr,hg,V.trans hke,Steps.trans harr hst,rest⟩
end
section
variable {P:Program} {N:Nat} {Ty:Types} {O ρ':Env} {H:au} {n:Nat} {d:Option Tmp}
theorem bP {op:Op}:aK Ty d op (loc op O) H n=aK Ty d op O H n:=by
 have h:∀ x,x ∈ op.operands->(loc op O).ev x=O.ev x:=fun x hx=>gp hx
 generalize loc op O=ρ' at h;cases op with
 | build t ps=>
  have:ps.toList.map (fun p=>(p.1,ρ'.ev p.2))=ps.toList.map (fun p=>(p.1,O.ev p.2)):=List.map_congr_left fun p hp=>by rw[h p.2 (by simp[Op.operands];exact⟨p.1,by simpa using hp⟩)]
  simp only[aK,this]
 | buildSlice t len ps=>
  have:ps.toList.map (fun p=>(p.1,ρ'.ev p.2))=ps.toList.map (fun p=>(p.1,O.ev p.2)):=List.map_congr_left fun p hp=>by rw[h p.2 (by simp[Op.operands];exact⟨p.1,by simpa using hp⟩)]
  simp only[aK,this]
 | makeFunc f first cap=>
  have h1:first.toList.map ρ'.ev=first.toList.map O.ev:=List.map_congr_left fun p hp=>h p (by simp[Op.operands];exact .inl (by simpa using hp))
  have h2:cap.toList.map ρ'.ev=cap.toList.map O.ev:=List.map_congr_left fun p hp=>h p (by simp[Op.operands];exact .inr (by simpa using hp))
  simp only[aK,h1,h2]
 | slice t x lo hi mx=>
  cases lo<;>cases hi<;>cases mx<;>simp_all [aK,Op.operands]
 | call c=>
  obtain⟨cal,args,ats⟩:=c;cases cal with
  | builtin b=>
   have ha:∀ x,x ∈ args.toList->ρ'.ev x=O.ev x:=fun x hx=>h x (by simp[Op.operands,Call.operands];simpa using hx)
   cases b<;>try rfl
   case append=>
    obtain⟨l⟩:=args;obtain⟨m⟩:=ats
    match l,m with
    | [s,x],[t,t']=>
     simp only[aK];rw[ha s (by simp),ha x (by simp)]
    | [],_ | [_],_ | _::_::_::_,_ | [_,_],[] | [_,_],[_] | [_,_],_::_::_::_=>rfl
   case len=>
    obtain⟨l⟩:=args;obtain⟨m⟩:=ats
    match l,m with
    | [x],[t]=>
     simp only[aK];rw[ha x (by simp)]
    | [],_ | _::_::_,_ | [_],[] | [_],_::_::_=>rfl
  | _=>rfl
 | _=>first | rfl | (simp_all [aK,Op.operands])
end
end Go.Ab
namespace Go.Ab
variable [Inhabited cn]
section
variable {Ty:Types} {O:Env} {H H':au} {n n':Nat} {d:Option Tmp} {v:ao}
theorem bp {x:Option ao} (h:x.map (fun y=>(y,H,n))=some (v,H',n')):x=some v/\H'=H/\n'=n:=by
 cases x with
 | none=>cases h
 | some y=>cases h;exact⟨rfl,rfl,rfl⟩
theorem jy {op:Op} (hk:cA op=0) (h:aK Ty d op O H n=some (v,H',n')):H'=H/\n'=n/\∀ H2 n2,aK Ty d op O H2 n2=some (v,H2,n2):=by
 cases op with
 | move x=>cases h;exact⟨rfl,rfl,fun _ _=>rfl⟩
 | assign x=>cases h;exact⟨rfl,rfl,fun _ _=>rfl⟩
 | pick c a b=>
  simp only[aK] at h ⊢
  split at h
  ·cases h;exact⟨rfl,rfl,fun _ _=>rfl⟩
  ·cases h
 | binOp op t x y t'=>obtain⟨h1,h2,h3⟩:=bp h;exact⟨h2,h3,fun _ _=>by simp only[aK,h1,Option.map_some]⟩
 | unOp op t x=>obtain⟨h1,h2,h3⟩:=bp h;exact⟨h2,h3,fun _ _=>by simp only[aK,h1,Option.map_some]⟩
 | convert s t x=>obtain⟨h1,h2,h3⟩:=bp h;exact⟨h2,h3,fun _ _=>by simp only[aK,h1,Option.map_some]⟩
 | makeFunc f a b=>cases h;exact⟨rfl,rfl,fun _ _=>rfl⟩
 | extract t i=>
  simp only[aK] at h ⊢
  split at h
  ·obtain⟨h1,h2,h3⟩:=bp h;exact⟨h2,h3,fun _ _=>by simp only[h1,Option.map_some]⟩
  ·cases h
 | field t x f=>
  simp only[aK] at h ⊢
  split at h
  ·split at h
   ·obtain⟨h1,h2,h3⟩:=bp h;exact⟨h2,h3,fun _ _=>by simp only[h1,Option.map_some]⟩
   ·cases h
  ·cases h
 | index t x i=>obtain⟨h1,h2,h3⟩:=bp h;exact⟨h2,h3,fun _ _=>by simp only[aK,h1,Option.map_some]⟩
 | build t ps=>obtain⟨h1,h2,h3⟩:=bp h;exact⟨h2,h3,fun _ _=>by simp only[aK,h1,Option.map_some]⟩
 | buildSlice t len ps=>
  simp only[cA] at hk
  split at hk
  ·cases hk
  ·rename_i h0
   simp only[aK] at h ⊢
   split at h
   ·rw[if_neg h0] at h
    split at h
    ·rename_i hc
     cases hf:eo (fun k=>some (k * _,_)) _ (ps.toList.map fun p=>(p.1,O.ev p.2)) with
     | none=>rw[hf] at h;cases h
     | some cs=>
      rw[hf] at h;cases h;refine⟨rfl,rfl,fun H2 n2=>?_⟩;rw[if_neg h0,if_pos hc]
      rfl
    ·cases h
   ·cases h
 | call c=>
  obtain⟨cal,args,ats⟩:=c;cases cal with
  | builtin b=>cases b<;>simp[cA] at hk
  | _=>simp[cA] at hk
 | _=>simp[cA] at hk
theorem fE {op:Op} (hk:cA op=1) (h:aK Ty d op O H n=some (v,H',n')):H'=H/\n'=n:=by
 cases op with
 | load t a=>
  simp only[aK] at h
  split at h
  ·split at h
   ·cases h;exact⟨rfl,rfl⟩
   ·cases h
  ·cases h
 | fieldAddr t a f=>
  simp only[aK] at h
  split at h
  ·split at h
   ·split at h
    ·cases h
    ·cases h;exact⟨rfl,rfl⟩
   ·cases h
  ·cases h
 | indexAddr t a i=>exact (bp h).2
 | slice t x lo hi mx=>
  cases mx with
  | none=>exact (bp h).2
  | some m=>cases h
 | nilCheck x=>
  simp only[aK] at h
  split at h
  ·cases h;exact⟨rfl,rfl⟩
  ·cases h
 | call c=>
  obtain⟨cal,args,ats⟩:=c;cases cal with
  | builtin b=>
   cases b<;>simp[cA] at hk;simp only[aK] at h
   split at h
   ·exact (bp h).2
   ·cases h
  | value g=>cases h
  | invoke r m=>simp[cA] at hk
 | buildSlice t len ps=>simp only[cA] at hk;split at hk<;>cases hk
 | _=>simp[cA] at hk
end
def vP (κ:Op->Nat):Prop:=∀ op,(κ op=0->cA op=0)/\(κ op=1->cA op=1)
theorem aD:vP cA:=fun _=>⟨id,id⟩
section
variable (P:Program) (f:FuncId) (N:Nat) (k:List Item) (Q:ao->au->Nat->Prop) (Ty:Types) (κ:Op->Nat) (ops:Array Oper)
def bw (l:List Oper) (O:Env) (H:au) (n:Nat):Prop:=vJ P N ops κ (fun s=>I P f N k s.1 s.2.1 s.2.2 Q) l (O,H,n)
mutual
def cI:List Oper->Env->au->Nat->Prop
 | [],O,H,n=>I P f N k O H n Q
 | o::l,O,H,n=>
  match o.guard with
  | none=>gS (aK Ty o.dst o.op O H n) o l O H n
  | some (j,want)=>match guardOf ops O j with
   | .v (.bool b)=>eO b want o l O H n
   | .v (.tuple _)=>cI l (O.put o.dst gF) H n
   | _=>bw P f N k Q κ ops (o::l) O H n
 termination_by l=>(l.length,0)
def gS:Option (ao × au × Nat)->Oper->List Oper->Env->au->Nat->Prop
 | some (v,H',n'),o,l,O,_,_=>cI l (O.put o.dst v) H' n'
 | none,o,l,O,H,n=>bw P f N k Q κ ops ({ o with guard:=none }::l) O H n
 termination_by _ _ l=>(l.length,1)
def eO (b want:Bool) (o:Oper) (l:List Oper) (O:Env) (H:au) (n:Nat):Prop:=
 if b=want then gS (aK Ty o.dst o.op O H n) o l O H n else cI l (O.put o.dst gF) H n
 termination_by (l.length,2)
end
end
section
variable {P:Program} {f:FuncId} {N:Nat} {k:List Item} {Q:ao->au->Nat->Prop} {Ty:Types} {κ:Op->Nat} {ops:Array Oper} {o:Oper} {l:List Oper} {O:Env} {H:au} {n:Nat}
@[simp] theorem evalD_nil : cI P f N k Q Ty κ ops [] O H n = I P f N k O H n Q := by rw [cI]
@[simp] theorem evalD_op {d : Option Tmp} {op : Op} {ty : TypeId} {pos : String} {af : Array Edge} : cI P f N k Q Ty κ ops (⟨d, op, ty, pos, af, none⟩ :: l) O H n = gS P f N k Q Ty κ ops (aK Ty d op O H n) ⟨d, op, ty, pos, af, none⟩ l O H n := by rw [cI]
@[simp] theorem wj {d : Option Tmp} {op : Op} {ty : TypeId} {pos : String} {af : Array Edge} {j : Nat} {want : Bool} : cI P f N k Q Ty κ ops (⟨d, op, ty, pos, af, some (j, want)⟩ :: l) O H n = (match guardOf ops O j with
   | .v (.bool b)=>eO P f N k Q Ty κ ops b want ⟨d,op,ty,pos,af,some (j,want)⟩ l O H n
   | .v (.tuple _)=>cI P f N k Q Ty κ ops l (O.put d gF) H n
   | _=>bw P f N k Q κ ops (⟨d,op,ty,pos,af,some (j,want)⟩::l) O H n):=by rw[cI]
@[simp] theorem gn {v : ao} {H' : au} {n' : Nat} : gS P f N k Q Ty κ ops (some (v, H', n')) o l O H n = cI P f N k Q Ty κ ops l (O.put o.dst v) H' n' := by rw [gS]
@[simp] theorem lp : gS P f N k Q Ty κ ops none o l O H n = bw P f N k Q κ ops ({ o with guard := none } :: l) O H n := by rw [gS]
@[simp] theorem guardD_tt : eO P f N k Q Ty κ ops true true o l O H n = gS P f N k Q Ty κ ops (aK Ty o.dst o.op O H n) o l O H n := by rw [eO, if_pos rfl]
@[simp] theorem guardD_ff : eO P f N k Q Ty κ ops false false o l O H n = gS P f N k Q Ty κ ops (aK Ty o.dst o.op O H n) o l O H n := by rw [eO, if_pos rfl]
@[simp] theorem guardD_tf : eO P f N k Q Ty κ ops true false o l O H n = cI P f N k Q Ty κ ops l (O.put o.dst gF) H n := by rw [eO, if_neg (by simp)]
@[simp] theorem guardD_ft : eO P f N k Q Ty κ ops false true o l O H n = cI P f N k Q Ty κ ops l (O.put o.dst gF) H n := by rw [eO, if_neg (by simp)]
theorem fR.iy (hT:aN P Ty) (hκ:vP κ) {v:ao} {H':au} {n':Nat} (hg:eG ops o O=some true) (hs:aK Ty o.dst o.op O H n=some (v,H',n')):fR P N ops κ o (O,H,n) (O.put o.dst v,H',n'):=by
 have hl:aK Ty o.dst o.op (loc o.op O) H n=some (v,H',n'):=by rw[bP];exact hs
 refine .inl ⟨hg,v,rfl,fun h0=>?_,fun h1=>?_,bN hT hl⟩
 ·obtain⟨e1,e2,hall⟩:=jy ((hκ o.op).1 h0) hl;subst e1;subst e2;exact⟨rfl,fun H2 n2=>bN hT (hall H2 n2)⟩
 ·obtain⟨e1,e2⟩:=fE ((hκ o.op).2 h1) hl;subst e1;subst e2
  rfl
theorem bw.ot {j:Nat} {want b:Bool} (hg:o.guard=some (j,want)) (hv:guardOf ops O j = .v (.bool b)) (hb:b=want) (h:bw P f N k Q κ ops ({ o with guard:=none }::l) O H n):bw P f N k Q κ ops (o::l) O H n:=by
 obtain⟨s',hst,hrest⟩:=h;refine⟨s',?_,hrest⟩;rcases hst with ⟨_,v,hv',h0,h1,hop⟩ | ⟨hgf,_⟩
 ·exact .inl ⟨by simp only[eG,hg,hv,hb];cases want<;>rfl,v,hv',h0,h1,hop⟩
 ·simp[eG] at hgf
theorem cS (hT:aN P Ty) (hκ:vP κ):∀ (l:List Oper) (O:Env) (H:au) (n:Nat),cI P f N k Q Ty κ ops l O H n->bw P f N k Q κ ops l O H n
 | [],O,H,n,h=>by
  rw[cI] at h;exact h
 | o::l,O,H,n,h=>by
  rw[cI] at h
  split at h
  ·rename_i hg
   cases hs:aK Ty o.dst o.op O H n with
   | some r=>
    obtain⟨v,H',n'⟩:=r;rw[hs,gn] at h;exact⟨_,fR.iy hT hκ (by simp[eG,hg]) hs,cS hT hκ l _ _ _ h⟩
   | none=>
    rw[hs,lp] at h;obtain⟨d,op,ty,pos,af,gu⟩:=o;simp only at hg;subst hg;exact h
  ·rename_i j want hg
   split at h
   ·rename_i b hv
    rw[eO] at h
    split at h
    ·rename_i hb
     cases hs:aK Ty o.dst o.op O H n with
     | some r=>
      obtain⟨v,H',n'⟩:=r;rw[hs,gn] at h;exact⟨_,fR.iy hT hκ (by simp only[eG,hg,hv,hb];cases want<;>rfl) hs,cS hT hκ l _ _ _ h⟩
     | none=>
      rw[hs,lp] at h;exact bw.ot hg hv hb h
    ·rename_i hb
     refine⟨_,.inr ⟨?_,rfl⟩,cS hT hκ l _ _ _ h⟩;simp only[eG,hg,hv];cases b<;>cases want<;>simp_all
   ·rename_i xs hv
    exact⟨_,.inr ⟨by simp only[eG,hg,hv],rfl⟩,cS hT hκ l _ _ _ h⟩
   ·exact h
theorem bw.op (hT:aN P Ty) (hκ:vP κ) {v:ao} {H':au} {n':Nat} (hg:o.guard=none) (h0:κ o.op ≠ 0) (h1:κ o.op=1->H'=H/\n'=n) (hop:aE P N o (loc o.op O) H n (rC v H' n'))
  (h:cI P f N k Q Ty κ ops l (O.put o.dst v) H' n'):bw P f N k Q κ ops (o::l) O H n:=
 ⟨(O.put o.dst v,H',n'),.inl ⟨by simp[eG,hg],v,rfl,fun h=>absurd h h0,fun h=>by obtain⟨e1,e2⟩:=h1 h;rw[e1,e2],hop⟩,cS hT hκ l _ _ _ h⟩
theorem I.gY (hT:aN P Ty) (hκ:vP κ) {id:Nat} {ops:List Oper} {y:Code} (hm:P.follows .mixedOrders=true) (hN:ops.all (fun o=>cU N o.dst)=true) (hB:eW κ ops.toArray=true)
  (h:∀ k':List Item,(∀ O H n,I P f N (.code y::k) O H n Q->I P f N k' O H n Q)->cI P f N k' Q Ty κ ops.toArray ops O H n):I P f N (.code (.seq (.region id ops.toArray true) y)::k) O H n Q:=
 I.seq (I.draw hm hN hB (cS hT hκ ops _ _ _ (h (.code y::k) fun _ _ _ h=>h)))
theorem I.lx (hT:aN P Ty) (hκ:vP κ) {id:Nat} {ops:List Oper} (hm:P.follows .mixedOrders=true) (hN:ops.all (fun o=>cU N o.dst)=true) (hB:eW κ ops.toArray=true)
  (h:∀ k':List Item,(∀ O H n,I P f N k O H n Q->I P f N k' O H n Q)->cI P f N k' Q Ty κ ops.toArray ops O H n):I P f N (.code (.region id ops.toArray true)::k) O H n Q:=
 I.draw hm hN hB (cS hT hκ ops _ _ _ (h k fun _ _ _ h=>h))
theorem aE.wk {d:Option Tmp} {g:Operand} {args:Array Operand} {ats:Array TypeId} {ty:TypeId} {pos:String} {af:Array Edge} {gu:Option (Nat × Bool)} {v:ao}
  {f:FuncId} {bX:List ao} (hg:O.ev g = .fn (.func f) [] []) (cM:aV P f) (ha:cD H n (args.toList.map O.ev) bX) (h:aA P f bX (fun r=>r=v)) :
  aE P N ⟨d,.call ⟨.value g,args,ats⟩,ty,pos,af,gu⟩ (loc (.call ⟨.value g,args,ats⟩) O) H n (rC v H n):=by
 have h1:(loc (.call ⟨.value g,args,ats⟩) O).ev g=O.ev g:=gp (by simp[Op.operands,Call.operands]);have h2:args.toList.map (loc (.call ⟨.value g,args,ats⟩) O).ev=args.toList.map O.ev:=List.map_congr_left fun x hx=>gp (by simp[Op.operands,Call.operands];exact .inr (by simpa using hx))
 exact aE.ri (by rw[h1];exact hg) cM (by rw[h2];exact ha) h
theorem bg.call (hT:aN P Ty) {d:Option Tmp} {g:Operand} {args:Array Operand} {ats:Array TypeId} {ty:TypeId} {pos:String} {af:Array Edge} {R:ao->Prop} {f':FuncId} {bX:List ao} {ops:List Oper}
  (hN:ops.all (fun o=>cU N o.dst)=true) (hl:(⟨d,.call ⟨.value g,args,ats⟩,ty,pos,af,none⟩::l:List Oper).all (fun o=>cU N o.dst)=true) (hg:O.ev g = .fn (.func f') [] []) (cM:aV P f') (ha:cD H n (args.toList.map O.ev) bX) (h:aA P f' bX R)
  (hk:∀ v,R v->bI P f N k Q Ty ops.toArray l (O.put d v) H n):bg P f N k Q ops.toArray (⟨d,.call ⟨.value g,args,ats⟩,ty,pos,af,none⟩::l) O H n:=
 bg.op hT hN hl rfl (aE.ri hg cM ha h) fun v H' n' ⟨hR,hH,hn⟩=>by rw[hH,hn];exact hk v hR
theorem bw.call (hT:aN P Ty) (hκ:vP κ) {d:Option Tmp} {g:Operand} {args:Array Operand} {ats:Array TypeId} {ty:TypeId} {pos:String} {af:Array Edge} {v:ao} {f':FuncId} {bX:List ao}
  (h0:κ (.call ⟨.value g,args,ats⟩) ≠ 0) (hg:O.ev g = .fn (.func f') [] []) (cM:aV P f') (ha:cD H n (args.toList.map O.ev) bX) (h:aA P f' bX (fun r=>r=v))
  (hk:cI P f N k Q Ty κ ops l (O.put d v) H n):bw P f N k Q κ ops (⟨d,.call ⟨.value g,args,ats⟩,ty,pos,af,none⟩::l) O H n:=
 bw.op hT hκ rfl h0 (fun _=>⟨rfl,rfl⟩) (aE.wk hg cM ha h) hk
end
end Go.Ab
namespace Go.Ab
variable [Inhabited cn]
theorem jI {e:List ao} (h:∀ a ∈ e,flat a=true):e.map old=e:=by
 conv=>rhs;rw[<- List.map_id e]
 refine List.map_congr_left fun a ha=>?_
 have:=h a ha;cases a<;>simp[flat] at this
 rfl
theorem de {els:List (List ao)} (h:∀ e ∈ els,∀ a ∈ e,flat a=true):els.map (fun e=>e.map old)=els:=by
 conv=>rhs;rw[<- List.map_id els]
 exact List.map_congr_left fun e he=>jI (h e he)
section
variable {H:au} {n:Nat}
theorem az.pe {id:Id} {g sz:Nat} {els:List (List ao)} (hl:live H id g=some ⟨sz,els⟩) (h:∀ e ∈ els,∀ a ∈ e,flat a=true):az H n (.arr id g 0 g) (.list false els):=by
 obtain⟨_,l2⟩:=cu hl;simp only at l2;have:=az.arr (n:=n) (off:=0) (len:=g) hl fun e he a ha=>gH.flat (h e he a ha)
 have e1:((Ob.mk sz els).els.drop 0).take g=els:=by simp[<- l2]
 rw[e1,de h] at this;exact this
theorem az.bt {fr:Bool} {els:List (List ao)} (h:∀ e ∈ els,∀ a ∈ e,flat a=true):az H n (.list fr els) (.list false els):=by
 refine az.rM (.list _ _ fun e he a ha=>gH.flat (h e he a ha)) ?_;rw[eS,de h]
theorem az.aggF {cs:List ao} (h:∀ a ∈ cs,flat a=true):az H n (.agg cs) (.agg cs):=
 az.rM (.agg _ fun a ha=>gH.flat (h a ha)) (by rw[kP,jI h])
end
section
variable {P:Program} {f:FuncId} {N:Nat} {k:List Item} {Q:ao->au->Nat->Prop} {Ty:Types} {l:List Oper} {O:Env} {H:au} {n:Nat}
theorem bg.c8 (hT:aN P Ty) {d:Option Tmp} {g:Operand} {args:Array Operand} {ats:Array TypeId} {ty:TypeId} {pos:String} {af:Array Edge} {R:ao->Prop} {f':FuncId} {as1 bX:List ao} {ops:List Oper}
  (h:aA P f' bX R) (cM:aV P f') (ha:cD H n as1 bX)
  (hN:ops.all (fun o=>cU N o.dst)=true) (hl:(⟨d,.call ⟨.value g,args,ats⟩,ty,pos,af,none⟩::l:List Oper).all (fun o=>cU N o.dst)=true) (hg:O.ev g = .fn (.func f') [] []) (has:args.toList.map O.ev=as1)
  (hk:∀ v,R v->bI P f N k Q Ty ops.toArray l (O.put d v) H n):bg P f N k Q ops.toArray (⟨d,.call ⟨.value g,args,ats⟩,ty,pos,af,none⟩::l) O H n:=
 bg.call hT hN hl hg cM (has ▸ ha) h hk
theorem bw.c8 (hT:aN P Ty) {κ:Op->Nat} (hκ:vP κ) {d:Option Tmp} {g:Operand} {args:Array Operand} {ats:Array TypeId} {ty:TypeId} {pos:String} {af:Array Edge} {v:ao} {f':FuncId} {as1 bX:List ao} {ops:Array Oper}
  (h:aA P f' bX (fun r=>r=v)) (cM:aV P f') (ha:cD H n as1 bX) (h0:κ (.call ⟨.value g,args,ats⟩) ≠ 0) (hg:O.ev g = .fn (.func f') [] []) (has:args.toList.map O.ev=as1)
  (hk:cI P f N k Q Ty κ ops l (O.put d v) H n):bw P f N k Q κ ops (⟨d,.call ⟨.value g,args,ats⟩,ty,pos,af,none⟩::l) O H n:=
 bw.call hT hκ h0 hg cM (has ▸ ha) h hk
end
@[simp] theorem ba.v_iff (x : Value) : ba (.v x) ↔ True := ⟨fun _ => trivial, fun _ => .v x⟩
@[simp] theorem gH.v_iff (x : Value) : gH (.v x) ↔ True := ⟨fun _ => trivial, fun _ => .v x⟩
@[simp] theorem flat_v (x : Value) : flat (.v x) = true := rfl
theorem ba.lP (els:List (List ao)):ba (.list true els)↔∀ e ∈ els,∀ a ∈ e,ba a:=⟨fun h=>by cases h;assumption,fun h=>.list els h⟩
theorem ba.nD (cs:List ao):ba (.agg cs)↔∀ a ∈ cs,ba a:=⟨fun h=>by cases h;assumption,fun h=>.agg cs h⟩
theorem ba.vX (cs:List ao):ba (.tup cs)↔∀ a ∈ cs,ba a:=⟨fun h=>by cases h;assumption,fun h=>.tup cs h⟩
attribute [simp] ba.lP ba.nD ba.vX
theorem gH.lP (fr:Bool) (els:List (List ao)):gH (.list fr els)↔∀ e ∈ els,∀ a ∈ e,gH a:=⟨fun h=>by cases h;assumption,fun h=>.list fr els h⟩
theorem gH.nD (cs:List ao):gH (.agg cs)↔∀ a ∈ cs,gH a:=⟨fun h=>by cases h;assumption,fun h=>.agg cs h⟩
attribute [simp] gH.lP gH.nD
@[simp] theorem vn (a b : Array UInt8) : (ByteArray.mk a) ++ (ByteArray.mk b) = ByteArray.mk (a ++ b) := by
 apply ByteArray.ext;simp
@[simp] theorem bytes_size (a : Array UInt8) : (ByteArray.mk a).size = a.size := rfl
@[simp] theorem bytes_list (l : Array UInt8) : (ByteArray.mk l).toList = l.toList := by rw [ByteArray.toList_eq]
theorem aV.of {P : Program} {f : FuncId} {fn : Func} {body : Code} (h : P.funcs[f]? = some fn) (hn : (fn.name == "runtime.NumGoroutine") = false) (hb : fn.body = some body) : aV P f := ⟨fn, body, h, hn, hb⟩
attribute [simp] wrap64
def part {α:Type} (f:α->List ao) (z:List ao) (p:List α) (k:Nat):List (List ao):=(p.take k).map f++List.replicate (p.length - k) z
section
variable {α:Type} {f:α->List ao} {z:List ao} {p:List α} {k:Nat}
theorem sc:part f z p 0=List.replicate p.length z:=by simp[part]
theorem tI (hk:k<=p.length):(part f z p k).length=p.length:=by simp[part];omega
theorem pG (hk:k<p.length):(part f z p k)[k]?=some z:=by
 unfold part;rw[List.getElem?_append_right (by simp;omega)];rw[List.getElem?_replicate];simp;omega
theorem tw (hk:k<p.length) (h:k<(part f z p k).length):(part f z p k)[k]=z:=by
 have:=pG (f:=f) (z:=z) hk;rw[List.getElem?_eq_getElem h] at this;exact Option.some.inj this
theorem tH (hk:k<p.length):(part f z p k).set k (f p[k])=part f z p (k+1):=by
 unfold part;rw[List.set_append_right _ _ (by simp;omega),List.take_succ_eq_append_getElem hk,List.map_append,List.append_assoc]
 congr 1
 have h1:p.length - k=(p.length - (k+1))+1:=by omega
 have h2:k - (List.map f (p.take k)).length=0:=by simp;omega
 rw[h1,h2,List.replicate_succ]
 rfl
theorem tW:part f z p p.length=p.map f:=by simp[part]
end
section
variable {P:Program} {N:Nat} {fn:Func} {O:Env} {H:au} {n:Nat} {Ty:Types}
theorem aG.cell (hT:aN P Ty) {t:Tmp} {ty:TypeId} (h:fn.results=#[.cell t ty]) {i:TI} {cs:List ao} {v:ao} (hi:Ty ty=some i) (hv:bT H (O t)=some cs) (hl:cR i cs=some v):aG P N fn O H n v:=by
 intro c a hH hn g r;subst hH;obtain⟨b,off,hx,hview⟩:=fL g (r.rep t) hv;obtain⟨y,hrun,hrep⟩:=gL (hT ty i hi) hview hl;rw[Array.getD_eq_getD_getElem?] at hx;exact⟨y,by simp[results,h,hx,hrun,asAddr],hrep⟩
end
end Go.Ab
namespace Go.Ab
variable [Inhabited cn]
def cE (k:Nat) (id:Id):Id:=(id.1+k,id.2)
def gG (k:Nat):ao->ao
 | .agg cs=>.agg (shL k cs)
 | .tup cs=>.tup (shL k cs)
 | .list fr els=>.list fr (shLL k els)
 | .arr id g off len=>.arr (cE k id) g off len
 | .ptr id g idx off=>.ptr (cE k id) g idx off
 | x=>x
 where
 shL (k:Nat):List ao->List ao
  | []=>[]
  | a::l=>gG k a::shL k l
 shLL (k:Nat):List (List ao)->List (List ao)
  | []=>[]
  | e::l=>shL k e::shLL k l
theorem pY (k:Nat) (l:List ao):gG.shL k l=l.map (gG k):=by
 induction l with
 | nil=>rfl
 | cons a l ih=>simp[gG.shL,ih]
theorem vQ (k:Nat) (l:List (List ao)):gG.shLL k l=l.map (fun e=>e.map (gG k)):=by
 induction l with
 | nil=>rfl
 | cons a l ih=>simp[gG.shLL,ih,pY]
theorem tO (k:Nat) (x:Value):gG k (.v x) = .v x:=by simp[gG]
theorem nQ (k:Nat) (cs:List ao):gG k (.agg cs) = .agg (cs.map (gG k)):=by simp[gG,pY]
theorem nB (k:Nat) (cs:List ao):gG k (.tup cs) = .tup (cs.map (gG k)):=by simp[gG,pY]
theorem pf (k:Nat) (fr:Bool) (els:List (List ao)):gG k (.list fr els) = .list fr (els.map fun e=>e.map (gG k)):=by simp[gG,vQ]
theorem rr (k:Nat) (id:Id) (g off len:Nat):gG k (.arr id g off len) = .arr (cE k id) g off len:=by simp[gG]
inductive Mv (K:Id->Prop):ao->Prop
 | v (x:Value):Mv K (.v x)
 | agg (cs:List ao) (h:∀ a ∈ cs,Mv K a):Mv K (.agg cs)
 | tup (cs:List ao) (h:∀ a ∈ cs,Mv K a):Mv K (.tup cs)
 | list (els:List (List ao)) (h:∀ e ∈ els,∀ a ∈ e,Mv K a):Mv K (.list true els)
 | arr (id:Id) (g off len:Nat) (h:K id):Mv K (.arr id g off len)
 | ptr (id:Id) (g idx off:Nat) (h:K id):Mv K (.ptr id g idx off)
def qW (k:Nat) (o:Ob):Ob:=⟨o.size,o.els.map fun e=>e.map (gG k)⟩
def merge (n:Nat) (H H':au) (K:Id->Bool):au:=fun id=>if id.1<n then H id else if K (id.1 - n,id.2) then (H' (id.1 - n,id.2)).map (qW n) else none
theorem merge_lt {n:Nat} {H H':au} {K:Id->Bool} {id:Id} (h:id.1<n):merge n H H' K id=H id:=by simp[merge,h]
theorem ph {n:Nat} {H H':au} {K:Id->Bool} {id:Id} (h:K id=true):merge n H H' K (cE n id)=(H' id).map (qW n):=by
 have h1:¬ (cE n id).1<n:=by simp[cE]
 unfold merge;rw[if_neg h1];simp[cE,h]
theorem bj.sh {c1 c2:Ctx} {k:Nat} {K:Id->Prop} (hw:c2.w=c1.w) (hB:c2.B<=c1.B) (hmu:∀ b,c1.B<=b->c2.mu b->c1.mu b) (hn:c1.n+k<=c2.n)
  (hobj:∀ id,K id->c2.β (cE k id)=c1.β id/\∀ o',c2.H (cE k id)=some o'->∃ o,c1.H id=some o/\o.size=o'.size/\o.els.length=o'.els.length) {a:ao} {x:Value} (r:bj c1 a x) :
  Mv K a->bj c2 (gG k a) x:=by
 induction r with
 | undef=>intro h;cases h
 | v x=>intro _;rw[tO];exact .v x
 | agg cs vs hl _ ih=>
  intro h;cases h with
  | agg _ h=>
  rw[nQ];refine .agg _ vs (by simpa using hl) fun i a x ha hx=>?_
  obtain⟨b,hb,rfl⟩:=aU ha;exact ih i b x hb hx (h b (List.mem_of_getElem? hb))
 | tup cs vs hl _ ih=>
  intro h;cases h with
  | tup _ h=>
  rw[nB];refine .tup _ vs (by simpa using hl) fun i a x ha hx=>?_
  obtain⟨b,hb,rfl⟩:=aU ha;exact ih i b x hb hx (h b (List.mem_of_getElem? hb))
 | lnil fr=>intro _;exact .lnil fr
 | list fr els a cap sz cell hs cY hm hsz hc _ ih=>
  intro h;cases h with
  | list _ h=>
  rw[pf];have:=bj.list (c:=c2) true (els.map fun e=>e.map (gG k)) a cap sz cell (fun hne=>hs (by intro h0;subst h0;simp at hne)) (by simpa using cY) (fun hne=>?_) (fun i e he=>?_) (fun i e j x he hx=>?_) (fun i e j x he hx=>?_)
  ·simpa using this
  ·obtain⟨h1,h2,h3⟩:=hm (by intro h0;simp[h0] at hne);exact⟨fun hmk=>h1 (hmu _ (h3 rfl) hmk),by rw[hw];exact h2,fun _=>Nat.le_trans hB (h3 rfl)⟩
  ·obtain⟨b,hb,rfl⟩:=aU he;rw[List.length_map];exact hsz i b hb
  ·obtain⟨b,hb,rfl⟩:=aU he;obtain⟨y,hy,rfl⟩:=aU hx;rw[hw];exact hc i b j y hb hy
  ·obtain⟨b,hb,rfl⟩:=aU he;obtain⟨y,hy,rfl⟩:=aU hx;exact ih i b j y hb hy (h b (List.mem_of_getElem? hb) y (List.mem_of_getElem? hy))
 | arr id gen off len x h1 hlt hg E=>
  intro h;cases h with
  | arr _ _ _ _ hK=>
  rw[rr];obtain⟨hb,ho⟩:=hobj id hK;refine .arr _ gen off len x h1 (by simp[cE];omega) (fun o' ho'=>?_) (fun o' ho' hgen=>?_)
  ·obtain⟨o,h2,h3,h4⟩:=ho o' ho';rw[<- h4];exact hg o h2
  ·obtain⟨o,h2,h3,h4⟩:=ho o' ho';obtain⟨p1,a,cap,p2,p3,p4,p5,p6,p7⟩:=E o h2 (by omega);refine⟨p1,a,cap,p2,by rw[hb];exact p3,p4,p5,by rw[<- h3];exact p6,?_⟩;rw[hb,hw,<- h3];exact p7
 | ptr id gen idx off x h1 hlt hg E=>
  intro h;cases h with
  | ptr _ _ _ _ hK=>
  have e:gG k (.ptr id gen idx off) = .ptr (cE k id) gen idx off:=by simp[gG]
  rw[e];obtain⟨hb,ho⟩:=hobj id hK;refine .ptr _ gen idx off x h1 (by simp[cE];omega) (fun o' ho'=>?_) (fun o' ho' hgen=>?_)
  ·obtain⟨o,h2,h3,h4⟩:=ho o' ho';rw[<- h4];exact hg o h2
  ·obtain⟨o,h2,h3,h4⟩:=ho o' ho';obtain⟨p1,p2⟩:=E o h2 (by omega);exact⟨p1,by rw[hb,<- h3];exact p2⟩
 | iptr=>intro h;cases h
 | fn=>intro h;cases h
 | iface=>intro h;cases h
 | clip=>intro h;cases h
def uC (H':au) (K:Id->Bool):Prop:=∀ id o,H' id=some o->K id=true->∀ e ∈ o.els,∀ a ∈ e,Mv (fun i=>K i=true) a
theorem s9 {c c1:Ctx} (g:Good c) (g1:Good c1) (hk:aQ ⟨c.w.heap.size,fun _=>0,bc,0,c.w⟩ c1) {K:Id->Bool} (hcl:uC c1.H K) :
  ∃ c2:Ctx,c2.H=merge c.n c.H c1.H K/\c2.n=c.n+c1.n/\c2.w=c1.w/\Good c2/\aQ c c2/\∀ a x,bj c1 a x->Mv (fun i=>K i=true) a->bj c2 (gG c.n a) x:=by
 have hB1:c1.B=c.w.heap.size:=hk.B;have hnomu:∀ k,¬ Ctx.mu ⟨c.w.heap.size,fun _=>0,bc,0,c.w⟩ k:=by
  rintro k ⟨id,o,ho,_⟩;cases ho
 have hblk:∀ k,k<c.w.heap.size->c1.w.heap[k]?=c.w.heap[k]?:=fun k hlt=>(hk.imm k hlt (hnomu k)).1
 have hsize:c.w.heap.size<=c1.w.heap.size:=hk.size
 let c2:Ctx:=⟨c.B,fun id=>if id.1<c.n then c.β id else c1.β (id.1 - c.n,id.2),merge c.n c.H c1.H K,c.n+c1.n,c1.w⟩
 have hsh:∀ id:Id,¬ (cE c.n id).1<c.n:=fun id=>by simp[cE]
 have hβs:∀ id:Id,c2.β (cE c.n id)=c1.β id:=fun id=>by
  show (if (cE c.n id).1<c.n then _ else _)=_;rw[if_neg (hsh id)];simp[cE]
 have hβo:∀ id:Id,id.1<c.n->c2.β id=c.β id:=fun id h=>by
  show (if id.1<c.n then _ else _)=_;rw[if_pos h]
 have hcase:∀ id o,c2.H id=some o->(id.1<c.n/\c.H id=some o)\/∃ id1 o1,id=cE c.n id1/\c1.H id1=some o1/\K id1=true/\o=qW c.n o1:=by
  intro id o ho;rcases Nat.lt_or_ge id.1 c.n with h | h
  ·left
   refine⟨h,?_⟩;have:merge c.n c.H c1.H K id=some o:=ho
   rwa [merge_lt h] at this
  ·right
   have e:merge c.n c.H c1.H K id=some o:=ho;unfold merge at e;rw[if_neg (by omega)] at e
   split at e
   ·rename_i hK
    cases h1:c1.H (id.1 - c.n,id.2) with
    | none=>rw[h1] at e;cases e
    | some o1=>
     rw[h1] at e;cases e;exact⟨(id.1 - c.n,id.2),o1,by ext<;>simp[cE];omega,h1,hK,rfl⟩
   ·cases e
 have hlow:∀ id o,c.H id=some o->c.β id<c.w.heap.size:=fun id o h=>g.lt h
 have hhigh:∀ id o,c1.H id=some o->c.w.heap.size<=c1.β id:=fun id o h=>by rw[<- hB1];exact (g1.obj id o h).1
 have hmu2:∀ b,c2.mu b->c.mu b\/c1.mu b:=by
  rintro b ⟨id,o,ho,hb⟩;rcases hcase id o ho with ⟨h1,h2⟩ | ⟨id1,o1,rfl,h1,_,_⟩
  ·left;exact⟨id,o,h2,by rw[<- hb,hβo id h1]⟩
  ·right;exact⟨id1,o1,h1,by rw[<- hb,hβs]⟩
 have hkeep:aQ c c2:=by
  refine⟨Nat.le_add_right _ _,rfl,hsize,hk.os,hk.tape,hk.output,fun k hlt hm=>⟨hblk k hlt,fun h=>?_⟩,fun id o' ho' hid=>?_⟩
  ·rcases hmu2 k h with h | ⟨id,o,h1,h2⟩
   ·exact hm h
   ·have:=hhigh id o h1;omega
  ·have e:merge c.n c.H c1.H K id=some o':=ho';rw[merge_lt hid] at e;refine⟨o',e,rfl,Nat.le_refl _,fun _=>⟨hβo id hid,fun cl' el' fz' h=>⟨cl',el',fz',?_,Nat.le_refl _⟩⟩⟩;have h2:c1.w.heap[c.β id]?=some (.cells cl' el' fz'):=h;rw[hblk _ (hlow id o' e)] at h2;exact h2
 have hrep:∀ a x,bj c1 a x->Mv (fun i=>K i=true) a->bj c2 (gG c.n a) x:=by
  intro a x r hm;refine bj.sh (c1:=c1) (c2:=c2) (K:=fun i=>K i=true) rfl ?_ ?_ (Nat.le_of_eq (Nat.add_comm _ _)) ?_ r hm
  ·rw[hB1];exact g.Bsize
  ·intro b hb h;rcases hmu2 b h with ⟨id,o,h1,h2⟩ | h
   ·have:=hlow id o h1;omega
   ·exact h
  ·intro id hK;refine⟨hβs id,fun o' ho'=>?_⟩;have e:merge c.n c.H c1.H K (cE c.n id)=some o':=ho';rw[ph hK] at e;cases h1:c1.H id with
   | none=>rw[h1] at e;cases e
   | some o=>
    rw[h1] at e;cases e;exact⟨o,rfl,rfl,by simp[qW]⟩
 refine⟨c2,rfl,rfl,rfl,⟨fun id o ho=>?_,fun id id' o o' ho ho' hb=>?_,Nat.le_trans g.Bsize hsize,fun id o ho=>?_,g.na hkeep⟩,hkeep,hrep⟩
 ·rcases hcase id o ho with ⟨h1,_⟩ | ⟨id1,o1,rfl,h1,_,_⟩
  ·show id.1<c.n+c1.n;omega
  ·have:=g1.stamp id1 o1 h1;show (cE c.n id1).1<c.n+c1.n;simp[cE];omega
 ·rcases hcase id o ho with ⟨h1,h2⟩ | ⟨id1,o1,rfl,h1,_,_⟩<;>rcases hcase id' o' ho' with ⟨k1,k2⟩ | ⟨id1',o1',rfl,k1,_,_⟩
  ·rw[hβo id h1,hβo id' k1] at hb;exact g.inj id id' o o' h2 k2 hb
  ·rw[hβo id h1,hβs] at hb;have:=hlow id o h2;have:=hhigh id1' o1' k1;omega
  ·rw[hβo id' k1,hβs] at hb;have:=hlow id' o' k2;have:=hhigh id1 o1 h1;omega
  ·rw[hβs,hβs] at hb;rw[g1.inj id1 id1' o1 o1' h1 k1 hb]
 ·rcases hcase id o ho with ⟨h1,h2⟩ | ⟨id1,o1,rfl,h1,hK,rfl⟩
  ·obtain⟨p1,cl,el,p2,p3,p4⟩:=g.obj id o h2;rw[hβo id h1];refine⟨p1,cl,el,?_,p3,fun i e he=>⟨(p4 i e he).1,fun j a ha=>?_⟩⟩
   ·show c1.w.heap[c.β id]?=_;rw[hblk _ (hlow id o h2)];exact p2
   ·obtain⟨x,hx,hr⟩:=(p4 i e he).2 j a ha;exact⟨x,hx,hr.keeps hkeep⟩
  ·obtain⟨p1,cl,el,p2,p3,p4⟩:=g1.obj id1 o1 h1;rw[hβs];refine⟨by rw[hB1] at p1;exact Nat.le_trans g.Bsize p1,cl,el,p2,by simpa[qW] using p3,fun i e he=>?_⟩;obtain⟨e1,he1,rfl⟩:=aU (show (o1.els.map fun e=>e.map (gG c.n))[i]?=some e from he);obtain⟨q1,q2⟩:=p4 i e1 he1;refine⟨by rw[List.length_map];exact q1,fun j a ha=>?_⟩;obtain⟨b,hb,rfl⟩:=aU ha;obtain⟨x,hx,hr⟩:=q2 j b hb;exact⟨x,hx,hrep b x hr (hcl id1 o1 h1 hK e1 (List.mem_of_getElem? he1) b (List.mem_of_getElem? hb))⟩
def ei (Q:ao->ao->List Id->Prop):List ao->List ao->List Id->Prop
 | [],[],S=>S=[]
 | a::as1,b::bs,S=>∃ S1 S2,Q a b S1/\ei Q as1 bs S2/\S=S1++S2/\∀ i ∈ S1,i ∉ S2
 | _,_,_=>False
def dn (Q:ao->ao->List Id->Prop):List (List ao)->List (List ao)->List Id->Prop
 | [],[],S=>S=[]
 | a::as1,b::bs,S=>∃ S1 S2,ei Q a b S1/\dn Q as1 bs S2/\S=S1++S2/\∀ i ∈ S1,i ∉ S2
 | _,_,_=>False
def dv (H:au):Nat->ao->ao->List Id->Prop
 | 0,a,b,S=>(a=b/\ba a)/\S=[]
 | d+1,a,b,S=>((a=b/\ba a)/\S=[])\/(∃ cs ds,a = .agg cs/\b = .agg ds/\ei (dv H d) cs ds S)\/(∃ cs ds,a = .tup cs/\b = .tup ds/\ei (dv H d) cs ds S) \/
  (a = .v (.slice none 0 0)/\b = .list true []/\S=[]) \/
  ∃ id o els T,a = .arr id o.els.length 0 o.els.length/\b = .list true els/\H id=some o/\dn (dv H d) o.els els T/\id ∉ T/\S=id::T
section
variable {Q Q':ao->ao->List Id->Prop}
theorem ei.mono:∀ {as1 bs:List ao} {S:List Id},ei Q as1 bs S->(∀ a b T,a ∈ as1->Q a b T->(∀ i ∈ T,i ∈ S)->Q' a b T)->ei Q' as1 bs S
 | [],[],S,h,_=>h
 | a::as1,b::bs,S,⟨S1,S2,h1,h2,h3,h4⟩,hq=>
  ⟨S1,S2,hq a b S1 (by simp) h1 (fun i hi=>by simp[h3,hi]),ei.mono h2 (fun x y T hx hxy hT=>hq x y T (by simp[hx]) hxy (fun i hi=>by simp[h3,hT i hi])),h3,h4⟩
theorem dn.mono:∀ {as1 bs:List (List ao)} {S:List Id},dn Q as1 bs S->(∀ e ∈ as1,∀ a b T,a ∈ e->Q a b T->(∀ i ∈ T,i ∈ S)->Q' a b T)->dn Q' as1 bs S
 | [],[],S,h,_=>h
 | a::as1,b::bs,S,⟨S1,S2,h1,h2,h3,h4⟩,hq=>
  ⟨S1,S2,ei.mono h1 (fun x y T hx hxy hT=>hq a (by simp) x y T hx hxy (fun i hi=>by simp[h3,hT i hi])),
   dn.mono h2 (fun e he x y T hx hxy hT=>hq e (by simp[he]) x y T hx hxy (fun i hi=>by simp[h3,hT i hi])),h3,h4⟩
theorem ei.len:∀ {as1 bs:List ao} {S:List Id},ei Q as1 bs S->as1.length=bs.length
 | [],[],_,_=>rfl
 | a::as1,b::bs,_,⟨_,_,_,h2,_,_⟩=>by simp[ei.len h2]
theorem dn.len:∀ {as1 bs:List (List ao)} {S:List Id},dn Q as1 bs S->as1.length=bs.length
 | [],[],_,_=>rfl
 | a::as1,b::bs,_,⟨_,_,_,h2,_,_⟩=>by simp[dn.len h2]
theorem ei.get:∀ {as1 bs:List ao} {S:List Id},ei Q as1 bs S->∀ (i:Nat) a b,as1[i]?=some a->bs[i]?=some b->∃ T,Q a b T/\∀ j ∈ T,j ∈ S
 | [],[],_,_,i,a,b,ha,_=>by simp at ha
 | x::as1,y::bs,S,⟨S1,S2,h1,h2,h3,_⟩,i,a,b,ha,hb=>by
  match i with
  | 0=>simp at ha hb;subst ha hb;exact⟨S1,h1,fun j hj=>by simp[h3,hj]⟩
  | i+1=>
   obtain⟨T,hT,hs⟩:=ei.get h2 i a b (by simpa using ha) (by simpa using hb);exact⟨T,hT,fun j hj=>by simp[h3,hs j hj]⟩
theorem dn.get:∀ {as1 bs:List (List ao)} {S:List Id},dn Q as1 bs S->∀ (i:Nat) a b,as1[i]?=some a->bs[i]?=some b->∃ T,ei Q a b T/\∀ j ∈ T,j ∈ S
 | [],[],_,_,i,a,b,ha,_=>by simp at ha
 | x::as1,y::bs,S,⟨S1,S2,h1,h2,h3,_⟩,i,a,b,ha,hb=>by
  match i with
  | 0=>simp at ha hb;subst ha hb;exact⟨S1,h1,fun j hj=>by simp[h3,hj]⟩
  | i+1=>
   obtain⟨T,hT,hs⟩:=dn.get h2 i a b (by simpa using ha) (by simpa using hb);exact⟨T,hT,fun j hj=>by simp[h3,hs j hj]⟩
end
theorem dv.ret {H:au}:∀ {d:Nat} {a b:ao} {S:List Id},dv H d a b S->hU H a b
 | 0,_,_,_,⟨⟨rfl,hF⟩,_⟩=>hU.fresh hF
 | d+1,a,b,S,h=>by
  rcases h with ⟨⟨rfl,hF⟩,_⟩ | ⟨cs,ds,rfl,rfl,h⟩ | ⟨cs,ds,rfl,rfl,h⟩ | ⟨rfl,rfl,_⟩ | ⟨id,o,els,T,rfl,rfl,ho,h,hn,rfl⟩
  ·exact hU.fresh hF
  ·exact .agg h.len fun i a b ha hb=>by obtain⟨T,hT,_⟩:=h.get i a b ha hb;exact dv.ret hT
  ·exact .tup h.len fun i a b ha hb=>by obtain⟨T,hT,_⟩:=h.get i a b ha hb;exact dv.ret hT
  ·exact .nil true
  ·have e:(o.els.drop 0).take o.els.length=o.els:=by simp
   refine .arr (o:=o) (by simp[live,ho]) (by rw[e];exact h.len) (fun i x y hx hy=>?_) (fun i x y j p q hx hy hp hq=>?_)
   ·rw[e] at hx;obtain⟨T',hT,_⟩:=h.get i x y hx hy;exact hT.len
   ·rw[e] at hx;obtain⟨T',hT,_⟩:=h.get i x y hx hy;obtain⟨T2,hT2,_⟩:=hT.get j p q hp hq;exact dv.ret hT2
section
variable {Q Q':ao->ao->List Id->Prop}
theorem ei.mem {i:Id}:∀ {as1 bs:List ao} {S:List Id},ei Q as1 bs S->i ∈ S->∃ a ∈ as1,∃ b ∈ bs,∃ T,Q a b T/\i ∈ T/\∀ j ∈ T,j ∈ S
 | [],[],S,h,hi=>by rw[show S=[] from h] at hi;cases hi
 | x::as1,y::bs,S,⟨S1,S2,h1,h2,h3,_⟩,hi=>by
  rw[h3] at hi;rcases List.mem_append.1 hi with hi | hi
  ·exact⟨x,by simp,y,by simp,S1,h1,hi,fun j hj=>by simp[h3,hj]⟩
  ·obtain⟨a,ha,b,hb,T,hT,hiT,hs⟩:=ei.mem h2 hi;exact⟨a,by simp[ha],b,by simp[hb],T,hT,hiT,fun j hj=>by simp[h3,hs j hj]⟩
theorem dn.mem {i:Id}:∀ {as1 bs:List (List ao)} {S:List Id},dn Q as1 bs S->i ∈ S->∃ e ∈ as1,∃ a ∈ e,∃ f ∈ bs,∃ b ∈ f,∃ T,Q a b T/\i ∈ T/\∀ j ∈ T,j ∈ S
 | [],[],S,h,hi=>by rw[show S=[] from h] at hi;cases hi
 | x::as1,y::bs,S,⟨S1,S2,h1,h2,h3,_⟩,hi=>by
  rw[h3] at hi;rcases List.mem_append.1 hi with hi | hi
  ·obtain⟨a,ha,b,hb,T,hT,hiT,hs⟩:=h1.mem hi;exact⟨x,by simp,a,ha,y,by simp,b,hb,T,hT,hiT,fun j hj=>by simp[h3,hs j hj]⟩
  ·obtain⟨e,he,a,ha,f,hf,b,hb,T,hT,hiT,hs⟩:=dn.mem h2 hi;exact⟨e,by simp[he],a,ha,f,by simp[hf],b,hb,T,hT,hiT,fun j hj=>by simp[h3,hs j hj]⟩
end
theorem Mv.mono {K K':Id->Prop} (h:∀ i,K i->K' i) {a:ao} (m:Mv K a):Mv K' a:=by
 induction m with
 | v x=>exact .v x
 | agg cs _ ih=>exact .agg cs ih
 | tup cs _ ih=>exact .tup cs ih
 | list els _ ih=>exact .list els ih
 | arr id g off len hk=>exact .arr id g off len (h id hk)
 | ptr id g idx off hk=>exact .ptr id g idx off (h id hk)
theorem ba.mv {K:Id->Prop} {a:ao} (h:ba a):Mv K a:=by
 induction h with
 | v x=>exact .v x
 | agg cs _ ih=>exact .agg cs ih
 | tup cs _ ih=>exact .tup cs ih
 | list els _ ih=>exact .list els ih
theorem ba.sh {n:Nat} {a:ao} (h:ba a):gG n a=a:=by
 have fix:∀ {l:List ao},(∀ a ∈ l,gG n a=a)->l.map (gG n)=l:=fun {l} h=>by
  conv=>rhs;rw[<- List.map_id l]
  exact List.map_congr_left h
 induction h with
 | v x=>exact tO n x
 | agg cs _ ih=>rw[nQ,fix ih]
 | tup cs _ ih=>rw[nB,fix ih]
 | list els _ ih=>
  rw[pf]
  congr 1
  conv=>rhs;rw[<- List.map_id els]
  exact List.map_congr_left fun e he=>fix (ih e he)
theorem ba.imm {a:ao} (h:ba a):gH a:=by
 induction h with
 | v x=>exact .v x
 | agg cs _ ih=>exact .agg cs ih
 | tup cs _ ih=>exact .tup cs ih
 | list els _ ih=>exact .list true els ih
theorem dv.mv {H:au}:∀ {d:Nat} {a b:ao} {S:List Id},dv H d a b S->Mv (fun i=>i ∈ S) a
 | 0,_,_,_,⟨⟨rfl,hF⟩,_⟩=>ba.mv hF
 | d+1,a,b,S,h=>by
  rcases h with ⟨⟨rfl,hF⟩,_⟩ | ⟨cs,ds,rfl,rfl,h⟩ | ⟨cs,ds,rfl,rfl,h⟩ | ⟨rfl,rfl,_⟩ | ⟨id,o,els,T,rfl,rfl,ho,h,hn,rfl⟩
  ·exact ba.mv hF
  ·refine .agg _ fun a ha=>?_
   obtain⟨i,hi⟩:=List.getElem?_of_mem ha;obtain⟨b,hb⟩:=aM (l:=ds) (i:=i) (by rw[<- h.len];exact (List.getElem?_eq_some_iff.1 hi).1);obtain⟨T,hT,hs⟩:=h.get i a b hi hb;exact (dv.mv hT).mono hs
  ·refine .tup _ fun a ha=>?_
   obtain⟨i,hi⟩:=List.getElem?_of_mem ha;obtain⟨b,hb⟩:=aM (l:=ds) (i:=i) (by rw[<- h.len];exact (List.getElem?_eq_some_iff.1 hi).1);obtain⟨T,hT,hs⟩:=h.get i a b hi hb;exact (dv.mv hT).mono hs
  ·exact .v _
  ·exact .arr _ _ _ _ (by simp)
theorem dv.cells {H:au}:∀ {d:Nat} {a b:ao} {S:List Id},dv H d a b S->∀ id o,H id=some o->id ∈ S->∀ e ∈ o.els,∀ x ∈ e,Mv (fun i=>i ∈ S) x
 | 0,_,_,_,⟨_,hS⟩,id,o,_,hi=>by rw[hS] at hi;cases hi
 | d+1,a,b,S,h,id,o,ho,hi=>by
  rcases h with ⟨_,rfl⟩ | ⟨cs,ds,rfl,rfl,h⟩ | ⟨cs,ds,rfl,rfl,h⟩ | ⟨_,_,rfl⟩ | ⟨id',o',els,T,rfl,rfl,ho',h,hn,rfl⟩
  ·cases hi
  ·obtain⟨a,_,b,_,T,hT,hiT,hs⟩:=h.mem hi;exact fun e he x hx=>(dv.cells hT id o ho hiT e he x hx).mono hs
  ·obtain⟨a,_,b,_,T,hT,hiT,hs⟩:=h.mem hi;exact fun e he x hx=>(dv.cells hT id o ho hiT e he x hx).mono hs
  ·cases hi
  ·rcases List.mem_cons.1 hi with rfl | hi
   ·rw[ho] at ho';cases ho';intro e he x hx;obtain⟨i,hi⟩:=List.getElem?_of_mem he;obtain⟨f,hf⟩:=aM (l:=els) (i:=i) (by rw[<- h.len];exact (List.getElem?_eq_some_iff.1 hi).1);obtain⟨T',hT,hs⟩:=h.get i e f hi hf;obtain⟨j,hj⟩:=List.getElem?_of_mem hx;obtain⟨y,hy⟩:=aM (l:=f) (i:=j) (by rw[<- hT.len];exact (List.getElem?_eq_some_iff.1 hj).1);obtain⟨T2,hT2,hs2⟩:=hT.get j x y hj hy;exact (dv.mv hT2).mono fun i hi=>by simp[hs i (hs2 i hi)]
   ·obtain⟨e',_,a,_,f,_,b,_,T',hT,hiT,hs⟩:=h.mem hi;exact fun e he x hx=>(dv.cells hT id o ho hiT e he x hx).mono fun i hi=>by simp[hs i hi]
theorem lu (n:Nat) (i j:Id) (h:cE n i=cE n j):i=j:=by
 obtain⟨a,b⟩:=i;obtain⟨c,d⟩:=j;simp[cE] at h
 ext
 ·simp;omega
 ·simp[h.2]
theorem dv.imm {H:au}:∀ {d:Nat} {a b:ao} {S:List Id},dv H d a b S->gH b
 | 0,_,_,_,⟨⟨rfl,hF⟩,_⟩=>hF.imm
 | d+1,a,b,S,h=>by
  rcases h with ⟨⟨rfl,hF⟩,_⟩ | ⟨cs,ds,rfl,rfl,h⟩ | ⟨cs,ds,rfl,rfl,h⟩ | ⟨rfl,rfl,_⟩ | ⟨id,o,els,T,rfl,rfl,ho,h,hn,rfl⟩
  ·exact hF.imm
  ·refine .agg _ fun b hb=>?_
   obtain⟨i,hi⟩:=List.getElem?_of_mem hb;obtain⟨a,ha⟩:=aM (l:=cs) (i:=i) (by rw[h.len];exact (List.getElem?_eq_some_iff.1 hi).1);obtain⟨T,hT,_⟩:=h.get i a b ha hi;exact dv.imm hT
  ·refine .tup _ fun b hb=>?_
   obtain⟨i,hi⟩:=List.getElem?_of_mem hb;obtain⟨a,ha⟩:=aM (l:=cs) (i:=i) (by rw[h.len];exact (List.getElem?_eq_some_iff.1 hi).1);obtain⟨T,hT,_⟩:=h.get i a b ha hi;exact dv.imm hT
  ·exact .list _ _ (by simp)
  ·refine .list _ _ fun f hf y hy=>?_
   obtain⟨i,hi⟩:=List.getElem?_of_mem hf;obtain⟨e,he⟩:=aM (l:=o.els) (i:=i) (by rw[h.len];exact (List.getElem?_eq_some_iff.1 hi).1);obtain⟨T',hT,_⟩:=h.get i e f he hi;obtain⟨j,hj⟩:=List.getElem?_of_mem hy;obtain⟨x,hx⟩:=aM (l:=e) (i:=j) (by rw[hT.len];exact (List.getElem?_eq_some_iff.1 hj).1);obtain⟨T2,hT2,_⟩:=hT.get j x y hx hj;exact dv.imm hT2
theorem az.own {H:au} {n d:Nat} {a b:ao} {S:List Id} (h:dv H d a b S):az H n a (old b):=by
 intro c x hH hn g r c' hw hc;subst hH;have r2:bj ⟨0,fun _=>0,bc,0,c.w⟩ b x:=bj.ret (c':=⟨0,fun _=>0,bc,0,c.w⟩) g rfl (by rintro k ⟨id,o,ho,_⟩;cases ho) (Nat.zero_le _) h.ret r;exact bj.old (c:=⟨0,fun _=>0,bc,0,c.w⟩) hw hc r2 h.imm
end Go.Ab
namespace Go.Ab
variable [Inhabited cn]
theorem dv.v {H:au}:∀ (d:Nat) (x:Value),dv H d (.v x) (.v x) []
 | 0,x=>⟨⟨rfl,.v x⟩,rfl⟩
 | _+1,x=>.inl ⟨⟨rfl,.v x⟩,rfl⟩
theorem ei.flat {H:au} {d:Nat}:∀ {e:List ao},(∀ a ∈ e,flat a=true)->ei (dv H d) e e []
 | [],_=>rfl
 | a::e,h=>by
  have ha:=h a (by simp);cases a<;>simp[Ab.flat] at ha;exact⟨[],[],dv.v d _,ei.flat fun b hb=>h b (by simp[hb]),rfl,by simp⟩
theorem dn.flat {H:au} {d:Nat}:∀ {els:List (List ao)},(∀ e ∈ els,∀ a ∈ e,flat a=true)->dn (dv H d) els els []
 | [],_=>rfl
 | e::els,h=>⟨[],[],ei.flat (h e (by simp)),dn.flat fun f hf=>h f (by simp[hf]),rfl,by simp⟩
theorem dv.pe {H:au} {d g sz:Nat} {id:Id} {els:List (List ao)} (h:H id=some ⟨sz,els⟩) (hg:els.length=g) (hf:∀ e ∈ els,∀ a ∈ e,flat a=true):dv H (d+1) (.arr id g 0 g) (.list true els) [id]:=by
 subst hg;exact .inr (.inr (.inr (.inr ⟨id,_,els,[],rfl,rfl,h,dn.flat hf,by simp,rfl⟩)))
theorem dv.nilS {H:au} {d:Nat}:dv H (d+1) (.v (.slice none 0 0)) (.list true []) []:=.inr (.inr (.inr (.inl ⟨rfl,rfl,rfl⟩)))
theorem dv.agg1 {H:au} {d:Nat} {a b:ao} {S:List Id} (h:dv H d a b S):dv H (d+1) (.agg [a]) (.agg [b]) S:=
 .inr (.inl ⟨_,_,rfl,rfl,S,[],h,rfl,by simp,by simp⟩)
theorem dv.uf {H:au} {d:Nat} {a b:ao} {S:List Id} (h:dv H d a b S) (x:Value):dv H (d+1) (.tup [a,.v x]) (.tup [b,.v x]) S:=
 .inr (.inr (.inl ⟨_,_,rfl,rfl,S,[],h,⟨[],[],dv.v d x,rfl,rfl,by simp⟩,by simp,by simp⟩))
section
variable {P:Program} {f:FuncId} {N:Nat} {k:List Item} {Q:ao->au->Nat->Prop} {Ty:Types} {l:List Oper} {O:Env} {H:au} {n:Nat}
theorem bg.hZ (hT:aN P Ty) {d:Option Tmp} {g:Operand} {args:Array Operand} {ats:Array TypeId} {ty:TypeId} {pos:String} {af:Array Edge} {post:ao->au->Nat->Prop} {f':FuncId} {as1:List ao} {ops:List Oper}
  (h:aS P f' as1 H n post) (cM:aV P f')
  (hN:ops.all (fun o=>cU N o.dst)=true) (hl:(⟨d,.call ⟨.value g,args,ats⟩,ty,pos,af,none⟩::l:List Oper).all (fun o=>cU N o.dst)=true) (hg:O.ev g = .fn (.func f') [] []) (has:args.toList.map O.ev=as1)
  (hk:∀ v H1 U,post v H1 U->bI P f N k Q Ty ops.toArray l (O.put d v) H1 U) :
  bg P f N k Q ops.toArray (⟨d,.call ⟨.value g,args,ats⟩,ty,pos,af,none⟩::l) O H n:=
 bg.op hT hN hl rfl (aE.call hg cM (by simpa[has] using h)) hk
end
end Go.Ab
namespace Go.Ab
variable [Inhabited cn]
theorem I.cut {P:Program} {f:FuncId} {N:Nat} {k:List Item} {O:Env} {H:au} {n:Nat} {Q:ao->au->Nat->Prop} (an:Env->au->Nat->Prop) (h0:an O H n) (h:∀ O H n,an O H n->I P f N k O H n Q):I P f N k O H n Q:=h _ _ _ h0
theorem az.own' {H:au} {n d:Nat} {a b b':ao} {S:List Id} (h:dv H d a b S) (e:old b=b'):az H n a b':=e ▸ az.own h
theorem bZ {fr:Bool} {els:List (List ao)} (h:∀ e ∈ els,∀ a ∈ e,flat a=true):old (.list fr els) = .list false els:=by rw[eS,de h]
theorem aS.of {P:Program} {f:FuncId} {fn:Func} {body:Code} {args:List ao} {H:au} {n N:Nat} {Q0:ao->au->Nat->Prop} (hfn:P.funcs[f]?=some fn) (hb:fn.body=some body) (hn:fn.ntmps=N) (hN:args.length<=N)
  (h:∀ Q:ao->au->Nat->Prop,(∀ v H1 U,Q0 v H1 U->Q v H1 U)->I P f N [.code body] (fw args) H n Q):aS P f args H n Q0:=by
 subst hn;exact aS.jr hfn hb hN (h Q0 fun _ _ _ h=>h)
theorem wrap_one {a b:Nat} (h:b=a+1) (h2:a<4611686018427387904):IntKind.i64.wrap ((a:Int)+1)=(b:Int):=by
 rw[wrap64]<;>omega
section
variable {row:Nat->List ao} {els:List (List ao)} {k:Nat}
end
end Go.Ab
namespace Go.Ab
variable [Inhabited cn]
def Sub (a b:ao):Prop:=∀ (c:Ctx) (x:Value),bj c a x->bj c b x
theorem Sub.refl (a:ao):Sub a a:=fun _ _ h=>h
theorem Sub.nil (fr:Bool):Sub (.v (.slice none 0 0)) (.list fr []):=fun c x h=>by rw[h.bo];exact .lnil fr
inductive lG:List ao->List ao->Prop
 | nil:lG [] []
 | cons {a b:ao} {as1 bs:List ao} (h:Sub a b) (t:lG as1 bs):lG (a::as1) (b::bs)
theorem lG.refl:∀ as1,lG as1 as1
 | []=>.nil
 | a::as1=>.cons (.refl a) (.refl as1)
theorem lG.get {as1 bs:List ao} (h:lG as1 bs):as1.length=bs.length/\∀ (i:Nat) (a b:ao),as1[i]?=some a->bs[i]?=some b->Sub a b:=by
 induction h with
 | nil=>exact⟨rfl,by simp⟩
 | cons h _ ih=>
  refine⟨by simp[ih.1],fun i a b ha hb=>?_⟩;cases i with
  | zero=>simp at ha hb;rw[<- ha,<- hb];exact h
  | succ i=>exact ih.2 i a b (by simpa using ha) (by simpa using hb)
theorem Sub.agg {as1 bs:List ao} (h:lG as1 bs):Sub (.agg as1) (.agg bs):=fun c x r=>by
 cases r with
 | agg _ vs hl hr=>
  obtain⟨h1,h2⟩:=h.get;refine .agg _ vs (by omega) fun i b x hb hx=>?_
  have hi:=(List.getElem?_eq_some_iff.1 hb).1;obtain⟨a,ha⟩:=aM (l:=as1) (i:=i) (by omega);exact h2 i a b ha hb c x (hr i a x ha hx)
theorem aS.sub {P:Program} {f:FuncId} {as1 bs:List ao} {H:au} {n:Nat} {Q:ao->au->Nat->Prop} (hs:lG as1 bs) (h:aS P f bs H n Q):aS P f as1 H n Q:=fun c xs hH hn g r=>by
 obtain⟨h1,h2⟩:=hs.get;refine h c xs hH hn g ⟨by rw[<- h1];exact r.1,fun i b x hb hx=>?_⟩;have hi:=(List.getElem?_eq_some_iff.1 hb).1;obtain⟨a,ha⟩:=aM (l:=as1) (i:=i) (by omega);exact h2 i a b ha hb c x (r.2 i a x ha hx)
inductive jn (n:Nat):ao->Prop
 | undef:jn n .undef
 | v (x:Value):jn n (.v x)
 | agg (cs:List ao) (h:∀ a ∈ cs,jn n a):jn n (.agg cs)
 | tup (cs:List ao) (h:∀ a ∈ cs,jn n a):jn n (.tup cs)
 | list (fr:Bool) (els:List (List ao)) (h:∀ e ∈ els,∀ a ∈ e,jn n a):jn n (.list fr els)
 | arr (id:Id) (g off len:Nat) (h:id.1<n):jn n (.arr id g off len)
 | ptr (id:Id) (g idx off:Nat) (h:id.1<n):jn n (.ptr id g idx off)
 | iptr (fr:Bool) (cs:List ao) (h:∀ a ∈ cs,jn n a):jn n (.iptr fr cs)
 | fn (f:Fn) (first captured:List ao) (h:∀ a ∈ first,jn n a) (h':∀ a ∈ captured,jn n a):jn n (.fn f first captured)
 | iface (t:TypeId) (a:ao) (h:jn n a):jn n (.iface t a)
 | clip (fr:Bool) (els:List (List Value)):jn n (.clip fr els)
theorem jn.uf {n:Nat} {a b:ao} (h:jn n a) (k:jn n b):jn n (.tup [a,b]):=.tup _ fun x hx=>by
 rcases List.mem_cons.1 hx with rfl | hx
 ·exact h
 ·rcases List.mem_cons.1 hx with rfl | hx
  ·exact k
  ·cases hx
theorem jq {as1:List ao} {xs:List Value} (hl:as1.length=xs.length) {a:ao} (ha:a ∈ as1):∃ (i:Nat) (x:Value),as1[i]?=some a/\xs[i]?=some x:=by
 obtain⟨i,hi⟩:=List.getElem?_of_mem ha;have h1:=(List.getElem?_eq_some_iff.1 hi).1;exact⟨i,xs[i]'(by omega),hi,List.getElem?_eq_getElem (by omega)⟩
theorem bj.pF {c:Ctx} {a:ao} {x:Value} (r:bj c a x):jn c.n a:=by
 induction r with
 | undef=>exact .undef
 | v x=>exact .v x
 | agg cs vs hl _ ih=>exact .agg _ fun a ha=>by obtain⟨i,x,h1,h2⟩:=jq hl ha;exact ih i a x h1 h2
 | tup cs vs hl _ ih=>exact .tup _ fun a ha=>by obtain⟨i,x,h1,h2⟩:=jq hl ha;exact ih i a x h1 h2
 | lnil fr=>exact .list _ _ (by simp)
 | list fr els a cap sz cell hs cY hm hsz hc _ ih=>
  refine .list _ _ fun e he y hy=>?_
  obtain⟨i,hi⟩:=List.getElem?_of_mem he;obtain⟨j,hj⟩:=List.getElem?_of_mem hy;exact ih i e j y hi hj
 | arr id gen off len x h1 hn hg h=>exact .arr _ _ _ _ hn
 | ptr id gen idx off x h1 hn hg h=>exact .ptr _ _ _ _ hn
 | iptr fr cs a cell hs hm hb hf hc _ ih=>
  refine .iptr _ _ fun y hy=>?_
  obtain⟨j,hj⟩:=List.getElem?_of_mem hy;exact ih j y hj
 | fn f first captured vs us hl hl' _ _ ih ih'=>
  exact .fn _ _ _ (fun a ha=>by obtain⟨i,x,h1,h2⟩:=jq hl ha;exact ih i a x h1 h2) (fun a ha=>by obtain⟨i,x,h1,h2⟩:=jq hl' ha;exact ih' i a x h1 h2)
 | iface t a x _ ih=>exact .iface _ _ ih
 | clip fr els x hf _ ih=>exact .clip _ _
def Ctx.cut (c:Ctx) (n:Nat):Ctx:={ c with H:=fun i=>if i.1<n then c.H i else none,n:=n }
theorem Ctx.gP {c:Ctx} {n:Nat} {i:Id} {o:Ob} (h:(c.cut n).H i=some o):i.1<n/\c.H i=some o:=by
 simp only[Ctx.cut] at h
 split at h
 ·exact⟨by assumption,h⟩
 ·cases h
theorem Ctx.qB {c:Ctx} {n k:Nat} (h:(c.cut n).mu k):c.mu k:=by
 obtain⟨i,o,h1,h2⟩:=h;exact⟨i,o,(Ctx.gP h1).2,h2⟩
theorem bj.cut {c:Ctx} {n:Nat} {a:ao} {x:Value} (r:bj c a x):jn n a->bj (c.cut n) a x:=by
 induction r with
 | undef x=>intro _;exact .undef x
 | v x=>intro _;exact .v x
 | agg cs vs hl _ ih=>intro h;cases h with | agg _ h=>exact .agg _ vs hl fun i a x ha hx=>ih i a x ha hx (h a (List.mem_of_getElem? ha))
 | tup cs vs hl _ ih=>intro h;cases h with | tup _ h=>exact .tup _ vs hl fun i a x ha hx=>ih i a x ha hx (h a (List.mem_of_getElem? ha))
 | lnil fr=>intro _;exact .lnil fr
 | list fr els a cap sz cell hs cY hm hsz hc _ ih=>
  intro h;cases h with
  | list _ _ h=>exact .list fr els a cap sz cell hs cY (fun hne=>⟨fun hmu=>(hm hne).1 (Ctx.qB hmu),(hm hne).2.1,(hm hne).2.2⟩) hsz hc fun i e j y he hy=>ih i e j y he hy (h e (List.mem_of_getElem? he) y (List.mem_of_getElem? hy))
 | arr id gen off len x h1 hn hg h=>
  intro hb;cases hb with
  | arr _ _ _ _ hlt=>exact .arr id gen off len x h1 hlt (fun o ho=>hg o (Ctx.gP ho).2) (fun o ho hgen=>h o (Ctx.gP ho).2 hgen)
 | ptr id gen idx off x h1 hn hg h=>
  intro hb;cases hb with
  | ptr _ _ _ _ hlt=>exact .ptr id gen idx off x h1 hlt (fun o ho=>hg o (Ctx.gP ho).2) (fun o ho hgen=>h o (Ctx.gP ho).2 hgen)
 | iptr fr cs a cell hs hm hb hf hc _ ih=>
  intro h;cases h with
  | iptr _ _ h=>exact .iptr fr cs a cell hs (fun hmu=>hm (Ctx.qB hmu)) hb hf hc fun j y hy=>ih j y hy (h y (List.mem_of_getElem? hy))
 | fn f first captured vs us hl hl' _ _ ih ih'=>
  intro h;cases h with
  | fn _ _ _ h h'=>exact .fn f first captured vs us hl hl' (fun i a x ha hx=>ih i a x ha hx (h a (List.mem_of_getElem? ha))) (fun i a x ha hx=>ih' i a x ha hx (h' a (List.mem_of_getElem? ha)))
 | iface t a x _ ih=>intro h;cases h with | iface _ _ h=>exact .iface t a x (ih h)
 | clip fr els x hf _ ih=>intro h;exact .clip fr els x hf (ih (.list _ _ fun e he a ha=>by obtain⟨y,_,rfl⟩:=List.mem_map.1 he;obtain⟨z,_,rfl⟩:=List.mem_map.1 ha;exact .v _))
inductive mf (H:au) (n:Nat):ao->ao->Prop
 | pF {a:ao} (h:jn n a):mf H n a a
 | agg {cs ds:List ao} (hl:cs.length=ds.length) (h:∀ (i:Nat) (a b:ao),cs[i]?=some a->ds[i]?=some b->mf H n a b):mf H n (.agg cs) (.agg ds)
 | tup {cs ds:List ao} (hl:cs.length=ds.length) (h:∀ (i:Nat) (a b:ao),cs[i]?=some a->ds[i]?=some b->mf H n a b):mf H n (.tup cs) (.tup ds)
 | nil (fr:Bool):mf H n (.v (.slice none 0 0)) (.list fr [])
 | arr {id:Id} {g off len:Nat} {o:Ob} {fls:List (List ao)} (hlv:live H id g=some o) (hid:n<=id.1) (hl:((o.els.drop off).take len).length=fls.length)
   (hl':∀ (i:Nat) (e f:List ao),((o.els.drop off).take len)[i]?=some e->fls[i]?=some f->e.length=f.length)
   (h:∀ (i:Nat) (e f:List ao) (j:Nat) (a b:ao),((o.els.drop off).take len)[i]?=some e->fls[i]?=some f->e[j]?=some a->f[j]?=some b->mf H n a b):mf H n (.arr id g off len) (.list true fls)
theorem bj.retD {c:Ctx} {n:Nat} (g:Good c) {a b:ao} (r:mf c.H n a b):∀ {x:Value},bj c a x->bj (c.cut n) b x:=by
 induction r with
 | pF h=>intro x hx;exact hx.cut h
 | agg hl _ ih=>
  intro x hx;cases hx with
  | agg _ vs hl' hr=>
  refine .agg _ vs (by omega) fun i b x hb hx=>?_
  have hi:=(List.getElem?_eq_some_iff.1 hb).1;obtain⟨a,ha⟩:=aM (l:=_) (i:=i) (by rw[hl];exact hi);exact ih i a b ha hb (hr i a x ha hx)
 | tup hl _ ih=>
  intro x hx;cases hx with
  | tup _ vs hl' hr=>
  refine .tup _ vs (by omega) fun i b x hb hx=>?_
  have hi:=(List.getElem?_eq_some_iff.1 hb).1;obtain⟨a,ha⟩:=aM (l:=_) (i:=i) (by rw[hl];exact hi);exact ih i a b ha hb (hr i a x ha hx)
 | nil fr=>intro x hx;rw[hx.bo];exact .lnil fr
 | @arr id gen off len o fls hlv hid hl hl' _ ih=>
  intro x hx;obtain⟨l1,l2⟩:=cu hlv;cases hx with
  | arr _ _ _ _ _ hone hn hg hp=>
  obtain⟨p1,⟨b,aoff,M⟩,cap,rfl,hab,hsp,hlc,cC,hcl⟩:=hp o l1 l2;simp only at hab hsp cC;subst hab hsp;obtain⟨hB,cl,el,hcell,hfit,hel⟩:=g.obj id o l1;have hlen:((o.els.drop off).take len).length=len:=by simp;omega
  have hget:∀ (i:Nat) (e:List ao),((o.els.drop off).take len)[i]?=some e->i<len/\o.els[off+i]?=some e:=by
   intro i e he;rw[List.getElem?_take] at he
   split at he
   ·rename_i hi
    rw[List.getElem?_drop] at he;exact⟨hi,he⟩
   ·cases he
  have key:∀ (i:Nat) (f:List ao) (j:Nat) (y:ao),fls[i]?=some f->f[j]?=some y->∃ e z u,((o.els.drop off).take len)[i]?=some e/\e[j]?=some z/\cl[(off+i) * o.size+j]?=some u/\bj c z u/\aoff=off * o.size:=by
   intro i f j y hf hy;have hi:=(List.getElem?_eq_some_iff.1 hf).1;obtain⟨e,he⟩:=aM (l:=(o.els.drop off).take len) (i:=i) (by omega);have hej:=hl' i e f he hf;obtain⟨z,hz⟩:=aM (l:=e) (i:=j) (by rw[hej];exact (List.getElem?_eq_some_iff.1 hy).1);obtain⟨hi2,he2⟩:=hget i e he;obtain⟨u,hu,hr⟩:=(hel _ _ he2).2 j z hz;refine⟨e,z,u,he,hz,hu,hr,?_⟩;rcases cC with h | h
   ·exact h
   ·omega
  have:=bj.list (c:=c.cut n) true fls ⟨c.β id,aoff,none⟩ cap o.size (fun i j=>cl.getD ((off+i) * o.size+j) Go.undef) (fun _=>rfl) (by omega) (fun _=>⟨?_,g.lt l1,fun _=>hB⟩) (fun i f hf=>?_) (fun i f j y hf hy=>?_) (fun i f j y hf hy=>?_)
  ·rw[<- hl,hlen] at this;exact this
  ·rintro⟨i,o',h1,h2⟩;obtain⟨h3,h4⟩:=Ctx.gP h1;have:=g.inj i id o' o h4 l1 h2;subst this;omega
  ·have hi:=(List.getElem?_eq_some_iff.1 hf).1;obtain⟨e,he⟩:=aM (l:=(o.els.drop off).take len) (i:=i) (by omega);rw[<- hl' i e f he hf];exact (hel _ _ (hget i e he).2).1
  ·obtain⟨e,z,u,he,hz,hu,hr,hao⟩:=key i f j y hf hy;rw[hao,<- Nat.add_assoc,<- Nat.add_mul];simp[Ctx.cut,World.cell?,hcell,hu,Array.getD_eq_getD_getElem?]
  ·obtain⟨e,z,u,he,hz,hu,hr,hao⟩:=key i f j y hf hy;rw[Array.getD_eq_getD_getElem?,hu];exact ih i e f j z y he hf hz hy hr
def Frame (n:Nat) (H H1:au):Prop:=∀ i:Id,i.1<n->H1 i=H i
theorem Frame.refl (n:Nat) (H:au):Frame n H H:=fun _ _=>rfl
theorem Frame.set {n:Nat} {H H1:au} {id:Id} {o:Ob} (hid:n<=id.1) (h:Frame n H H1):Frame n H (H1.set id o):=fun i hi=>by
 rw[au.ay _ _ (by rintro rfl;omega)];exact h i hi
theorem aS.drop {P:Program} {f:FuncId} {args:List ao} {H:au} {n:Nat} {R:ao->Prop} (h:aS P f args H n (fun v H1 _=>∃ r,mf H1 n v r/\Frame n H H1/\R r)):aS P f args H n (fun v H1 U=>R v/\H1=H/\U=n):=by
 intro c xs hH hn g r;refine (h c xs hH hn g r).mono ?_;rintro e w' ⟨x,v,c1,he,hw,⟨r',hret,hfr,hR⟩,hrep,hg1,hk⟩;subst hH hn;refine⟨x,r',c1.cut c.n,he,hw,⟨hR,?_,rfl⟩,hrep.retD hg1 hret,⟨fun id o ho=>(Ctx.gP ho).1,fun id id' o o' ho ho' hb=>hg1.inj id id' o o' (Ctx.gP ho).2 (Ctx.gP ho').2 hb,hg1.Bsize,fun id o ho=>?_,hg1.tab⟩,?_⟩
 ·funext i
  simp only[Ctx.cut]
  split
  ·rename_i h;exact hfr i h
  ·rename_i h
   cases hc:c.H i with
   | none=>rfl
   | some o=>exact absurd (g.stamp i o hc) h
 ·obtain⟨h1,h2⟩:=Ctx.gP ho;obtain⟨p1,cl,el,p2,p3,p4⟩:=hg1.obj id o h2;refine⟨p1,cl,el,p2,p3,fun i e he=>⟨(p4 i e he).1,fun j a ha=>?_⟩⟩;obtain⟨y,hy,hr⟩:=(p4 i e he).2 j a ha;refine⟨y,hy,hr.cut ?_⟩;rw[hfr id h1] at h2;obtain⟨_,cl0,el0,_,_,q4⟩:=g.obj id o h2;obtain⟨y0,_,hr0⟩:=(q4 i e he).2 j a ha;exact hr0.pF
 ·exact⟨Nat.le_refl _,hk.B,hk.size,hk.os,hk.tape,hk.output,fun k hlt hm=>⟨(hk.imm k hlt hm).1,fun h=>(hk.imm k hlt hm).2 (Ctx.qB h)⟩,fun id o' ho hid=>hk.obj id o' (Ctx.gP ho).2 hid⟩
def cG (P:Program) (f:FuncId) (args:List ao) (R:ao->Prop):Prop:=∀ H n,aS P f args H n (fun v H1 U=>R v/\H1=H/\U=n)
def HBnd (n:Nat) (H:au):Prop:=∀ i o,H i=some o->i.1<n/\∀ e ∈ o.els,∀ a ∈ e,jn n a
theorem aS.pF {P:Program} {f:FuncId} {args:List ao} {H:au} {n:Nat} {Q:ao->au->Nat->Prop} (h:HBnd n H->aS P f args H n Q):aS P f args H n Q:=by
 intro c xs hH hn g r;refine h (fun i o ho=>?_) c xs hH hn g r;subst hH hn;refine⟨g.stamp i o ho,fun e he a ha=>?_⟩;obtain⟨j,hj⟩:=List.getElem?_of_mem he;obtain⟨q,hq⟩:=List.getElem?_of_mem ha;obtain⟨_,cl,el,_,_,h4⟩:=g.obj i o ho;obtain⟨x,_,hr⟩:=(h4 j e hj).2 q a hq;exact hr.pF
theorem cG.of {P:Program} {f:FuncId} {fn:Func} {body:Code} {args:List ao} {N:Nat} {R:ao->Prop} (hfn:P.funcs[f]?=some fn) (hb:fn.body=some body) (hn:fn.ntmps=N) (hN:args.length<=N)
  (h:∀ H n Q,HBnd n H->(∀ v H1 U r,mf H1 n v r->Frame n H H1->R r->Q v H1 U)->I P f N [.code body] (fw args) H n Q):cG P f args R:=fun H n=>
 aS.pF fun hB=>aS.drop (aS.of hfn hb hn hN fun Q hQ=>h H n Q hB fun v H1 U r h1 h2 h3=>hQ v H1 U ⟨r,h1,h2,h3⟩)
section
variable {P:Program} {f:FuncId} {N:Nat} {k:List Item} {Q:ao->au->Nat->Prop} {Ty:Types} {l:List Oper} {O:Env} {H:au} {n:Nat}
theorem bg.dD (hT:aN P Ty) {d:Option Tmp} {g:Operand} {args:Array Operand} {ats:Array TypeId} {ty:TypeId} {pos:String} {af:Array Edge} {R:ao->Prop} {f':FuncId} {as1 bs:List ao} {ops:List Oper}
  (h:cG P f' bs R) (cM:aV P f') (hs:lG as1 bs)
  (hN:ops.all (fun o=>cU N o.dst)=true) (hl:(⟨d,.call ⟨.value g,args,ats⟩,ty,pos,af,none⟩::l:List Oper).all (fun o=>cU N o.dst)=true) (hg:O.ev g = .fn (.func f') [] []) (has:args.toList.map O.ev=as1)
  (hk:∀ v,R v->bI P f N k Q Ty ops.toArray l (O.put d v) H n) :
  bg P f N k Q ops.toArray (⟨d,.call ⟨.value g,args,ats⟩,ty,pos,af,none⟩::l) O H n:=
 bg.hZ hT (aS.sub hs (h H n)) cM hN hl hg has fun v H1 U ⟨h1,h2,h3⟩=>by subst h2 h3;exact hk v h1
theorem bw.dD (hT:aN P Ty) {κ:Op->Nat} (hκ:vP κ) {d:Option Tmp} {g:Operand} {args:Array Operand} {ats:Array TypeId} {ty:TypeId} {pos:String} {af:Array Edge} {v:ao} {f':FuncId} {as1 bs:List ao} {ops:Array Oper}
  (h:cG P f' bs (fun r=>r=v)) (cM:aV P f') (hs:lG as1 bs) (h0:κ (.call ⟨.value g,args,ats⟩) ≠ 0) (hg:O.ev g = .fn (.func f') [] []) (has:args.toList.map O.ev=as1)
  (hk:cI P f N k Q Ty κ ops l (O.put d v) H n):bw P f N k Q κ ops (⟨d,.call ⟨.value g,args,ats⟩,ty,pos,af,none⟩::l) O H n:=by
 refine bw.op hT hκ rfl h0 (fun _=>⟨rfl,rfl⟩) ?_ hk;have h1:(loc (.call ⟨.value g,args,ats⟩) O).ev g=O.ev g:=gp (by simp[Op.operands,Call.operands]);have h2:args.toList.map (loc (.call ⟨.value g,args,ats⟩) O).ev=args.toList.map O.ev:=List.map_congr_left fun x hx=>gp (by simp[Op.operands,Call.operands];exact .inr (by simpa using hx))
 exact aE.call (by rw[h1];exact hg) cM (by rw[h2,has,List.nil_append,List.append_nil];exact aS.sub hs (h H n))
end
def du (Ty:Types) (H:au) (O:Env):ResultVar->Option ao
 | .tmp t=>some (O t)
 | .cell t ty=>match Ty ty,bT H (O t) with
  | some i,some cs=>cR i cs
  | _,_=>none
theorem aG.rb {P:Program} {Ty:Types} (hT:aN P Ty) {N:Nat} {fn:Func} {O:Env} {H:au} {n:Nat} {r1 r2:ResultVar} {v1 v2:ao} (h:fn.results=#[r1,r2]) (h1:du Ty H O r1=some v1) (h2:du Ty H O r2=some v2):aG P N fn O H n (.tup [v1,v2]):=by
 intro c a hH hn g r;subst hH;have cell:∀ {t:Tmp} {ty:TypeId} {v:ao},du Ty c.H O (.cell t ty)=some v->∃ x p y,a.tmps[t]?.getD undef=x/\(asAddr x).run P c.w = .ok p c.w/\(loadVar ty p).run P c.w = .ok y c.w/\bj c v y:=by
  intro t ty v hv;simp only[du] at hv
  split at hv
  ·rename_i i cs hi hvw
   obtain⟨b,off,hx,hview⟩:=fL g (r.rep t) hvw;obtain⟨y,hrun,hrep⟩:=gL (hT ty i hi) hview hv;rw[Array.getD_eq_getD_getElem?] at hx;exact⟨_,_,y,hx,by simp[asAddr],hrun,hrep⟩
  ·cases hv
 have hx:∃ x1 x2,(results fn a.tmps).run P c.w = .ok (.tuple [x1,x2].toArray) c.w/\bj c v1 x1/\bj c v2 x2:=by
  cases r1 with
  | tmp t=>
   cases h1;cases r2 with
   | tmp u=>cases h2;exact⟨a.tmps.getD t undef,a.tmps.getD u undef,by simp[results,h],r.rep t,r.rep u⟩
   | cell u ty=>obtain⟨x,p,y,e,k,l,q⟩:=cell h2;exact⟨a.tmps.getD t undef,y,by simp[results,h,e,k,l],r.rep t,q⟩
  | cell t ty=>
   obtain⟨x,p,y,e,k,l,q⟩:=cell h1;cases r2 with
   | tmp u=>cases h2;exact⟨y,a.tmps.getD u undef,by simp[results,h,e,k,l],q,r.rep u⟩
   | cell u ty'=>obtain⟨x',p',y',e',k',l',q'⟩:=cell h2;exact⟨y,y',by simp[results,h,e,k,l,e',k',l'],q,q'⟩
 obtain⟨x1,x2,hrun,q1,q2⟩:=hx;refine⟨.tuple [x1,x2].toArray,hrun,.tup _ _ rfl fun i b x hb hx=>?_⟩
 ·match i with
  | 0=>simp at hb hx;rw[<- hb,<- hx];exact q1
  | 1=>simp at hb hx;rw[<- hb,<- hx];exact q2
  | i+2=>simp at hb
theorem mA (s:aH) (a b:Nat):(ByteArray.mk s.toArray).extract a b=ByteArray.mk ((s.drop a).take (b - a)).toArray:=by
 apply ByteArray.ext;apply Array.ext';simp
attribute [simp] mA
end Go.Ab
namespace Go.Ab
variable [Inhabited cn]
section
variable {P:Program} {f:FuncId} {N:Nat} {k:List Item} {Q:ao->au->Nat->Prop} {Ty:Types} {l:List Oper} {O:Env} {H:au} {n:Nat}
end
end Go.Ab
namespace Go.Ab
variable [Inhabited cn]
def cL (n:Int):Prop := -9223372036854775808<=n/\n<=9223372036854775807
def at' {α:Type} [Inhabited α] (l:List α) (i:Int):α:=l.getD i.toNat default
def aI {σ:Type} (body:σ->(σ->Prop)->Prop) (s:σ):Prop:=
 ∃ (an:σ->Prop) (m:σ->Nat),an s/\∀ s,an s->body s (fun s'=>an s'/\m s'<m s)
def ed {σ:Type} (ways:(σ->Prop)->Prop) (rest:σ->Prop):Prop:=∃ ai:σ->Prop,ways ai/\∀ s,ai s->rest s
section
variable {P:Program} {f:FuncId} {N:Nat} {k:List Item} {O:Env} {H:au} {n:Nat} {Q:ao->au->Nat->Prop}
theorem I.aI {σ:Type} {body:σ->(σ->Prop)->Prop} {s:σ} {x:Code} (h:Ab.aI body s) (ae:σ->Env->au->Nat->Prop) (h0:ae s O H n)
  (step:∀ s O H n (K:σ->Prop),body s K->ae s O H n->(∀ s' ρ' H' n',K s'->ae s' ρ' H' n'->I P f N (.inLoop x::k) ρ' H' n' Q)->I P f N (.code x::.inLoop x::k) O H n Q) :
  I P f N (.code (.loop x)::k) O H n Q:=by
 obtain⟨an,m,hI,hs⟩:=h;refine I.mR (fun ah O H n=>∃ s,an s/\m s=ah/\ae s O H n) (m s) ⟨s,hI,rfl,h0⟩ ?_;rintro _ O H n ⟨s,hI,rfl,hE⟩ IH;exact step s O H n _ (hs s hI) hE fun s' ρ' H' n' ⟨h1,h2⟩ hE'=>IH (m s') ρ' H' n' h2 ⟨s',h1,rfl,hE'⟩
theorem I.b9 {fn:Func} {t:Tmp} {v:ao} (hfn:P.funcs[f]?=some fn) (hr:fn.results=#[.tmp t]) (hv:O t=v) (hq:Q v H n):I P f N (.code .ret::k) O H n Q:=
 I.ret hfn (aG.one hr) (hv ▸ hq)
theorem I.sP {fn:Func} {t u:Tmp} {v w:ao} (hfn:P.funcs[f]?=some fn) (hr:fn.results=#[.tmp t,.tmp u]) (hv:O t=v) (hw:O u=w) (hq:Q (.tup [v,w]) H n):I P f N (.code .ret::k) O H n Q:=
 I.ret hfn (aG.two hr) (hv ▸ hw ▸ hq)
end
theorem a8 {a b v:Int} (h:cL (a+b)) (hv:v=a+b):ax .add .i64 a b=some (int v):=by subst hv;simp only[ax];rw[wrap64 h.1 h.2]
section
variable {k:IntKind} {a b:Int} {c:Bool}
theorem bF (hc:c=decide (a<b)):ax .lss k a b=some (bool c):=by subst hc;rfl
theorem tR (hc:c=decide (a<=b)):ax .leq k a b=some (bool c):=by subst hc;rfl
theorem nV (hc:c=decide (b<=a)):ax .geq k a b=some (bool c):=by subst hc;rfl
theorem b7 (hc:c=decide (a=b)):ax .eql k a b=some (bool c):=by subst hc;simp only[ax];congr 3
theorem eg (hc:c=decide (a ≠ b)):ax .neq k a b=some (bool c):=by
 subst hc;simp only[ax,bne]
 by_cases h:a=b<;>simp[h]
end
section
variable {a b:aH} {c:Bool}
theorem gA (l:aH):(ByteArray.mk l.toArray).toList=l:=by rw[ByteArray.toList_eq]
theorem nu (hc:c=decide (a ≠ b)):bR .neq ⟨a.toArray⟩ ⟨b.toArray⟩=some (bool c):=by
 subst hc;simp only[bR,gA];by_cases h:a=b<;>simp[h]
theorem sb_lss (hc:c=Op.bytesLess a b):bR .lss ⟨a.toArray⟩ ⟨b.toArray⟩=some (bool c):=by subst hc;simp only[bR,gA]
theorem sb_leq (hc:c=(Op.bytesLess a b || a == b)):bR .leq ⟨a.toArray⟩ ⟨b.toArray⟩=some (bool c):=by subst hc;simp only[bR,gA]
theorem vi {v:aH} (h:a.length+b.length<4611686018427387904) (hv:v=a++b):bR .add ⟨a.toArray⟩ ⟨b.toArray⟩=some (str v):=by
 subst hv;have h2:(ByteArray.mk a.toArray).size+(ByteArray.mk b.toArray).size<4611686018427387904:=by
  show a.toArray.size+b.toArray.size<_;simpa using h
 simp only[bR,if_pos h2];simp
end
section
variable {α:Type} [Inhabited α] {Ty:Types} {H:au} {t:TypeId} {j:TI} {fr:Bool} {l:List α} {f:α->List ao} {k:IntKind} {i:Int} {x:α}
theorem lW (hb:0<=i/\i<l.length) (hx:x=at' l i):∃ h:i.toNat<l.length,l[i.toNat]=x:=by
 have h:i.toNat<l.length:=by omega
 exact⟨h,by rw[hx,at'];simp[h]⟩
theorem bl (hk:kd Ty t = .slice j) (hf:∀ x,(f x).length=j.size) (hb:0<=i/\i<l.length) (hx:x=at' l i):ar Ty H t (.list fr (l.map f)) (.v (.int k i))=some (.iptr fr (f x)):=by
 obtain⟨h,hg⟩:=lW hb hx;have h2:(l.map f).getD i.toNat []=f x:=by
  simp[h,hg]
 simp only[ar,hk,h2,List.length_map];rw[if_pos ⟨hb.1,hb.2,hf x⟩]
theorem bJ {id:Id} {g off len sz:Nat} {els:List (List ao)} (hk:kd Ty t = .slice j) (hH:H id=some ⟨sz,els⟩) (hg:els.length=g) (hs:sz=j.size) (hb:0<=i/\i<len) :
  ar Ty H t (.arr id g off len) (.v (.int k i))=some (.ptr id g (off+i.toNat) 0):=by
 simp only[ar,hk,live,hH];rw[if_pos hg];simp only;rw[if_pos ⟨hb.1,hb.2,hs⟩]
theorem bU (hk:kd Ty t = .slice j) {v:Int} (hv:v=(l.length:Int)):bL Ty H t (.list fr (l.map f))=some (int v):=by
 simp only[bL,hk,List.length_map,hv]
end
theorem az.agg {H:au} {n:Nat} {cs ds:List ao} (h:cD H n cs ds):az H n (.agg cs) (.agg ds):=by
 intro c x hH hn g r c' hw hc;obtain⟨hl,hget⟩:=h.get;cases r with
 | agg _ vs hl' hr=>
  refine .agg _ vs (by omega) fun i b x hb hx=>?_
  have hi:=(List.getElem?_eq_some_iff.1 hb).1;obtain⟨a,ha⟩:=aM (l:=cs) (i:=i) (by omega);exact hget i a b ha hb c x hH hn g (hr i a x ha hx) c' hw hc
inductive qX (H:au):List ao->List ao->Prop
 | nil:qX H [] []
 | cons {a b:ao} {as1 bs:List ao} (h:hU H a b) (t:qX H as1 bs):qX H (a::as1) (b::bs)
theorem qX.get {H:au} {as1 bs:List ao} (h:qX H as1 bs):as1.length=bs.length/\∀ (i:Nat) (a b:ao),as1[i]?=some a->bs[i]?=some b->hU H a b:=by
 induction h with
 | nil=>exact⟨rfl,by simp⟩
 | cons h _ ih=>
  refine⟨by simp[ih.1],fun i a b ha hb=>?_⟩;cases i with
  | zero=>simp at ha hb;rw[<- ha,<- hb];exact h
  | succ i=>exact ih.2 i a b (by simpa using ha) (by simpa using hb)
theorem hU.tupL {H:au} {cs ds:List ao} (h:qX H cs ds):hU H (.tup cs) (.tup ds):=.tup h.get.1 h.get.2
theorem hU.vp {H:au} {cs ds:List ao} (h:qX H cs ds):hU H (.agg cs) (.agg ds):=.agg h.get.1 h.get.2
section
variable {P:Program} {f:FuncId} {N:Nat} {k:List Item} {O:Env} {H:au} {n:Nat} {Q:ao->au->Nat->Prop} {Ty:Types} {fn:Func}
theorem aG.mix1 (hT:aN P Ty) {r1:ResultVar} {v1:ao} (h:fn.results=#[r1]) (h1:du Ty H O r1=some v1):aG P N fn O H n v1:=by
 cases r1 with
 | tmp t=>cases h1;exact aG.one h
 | cell t ty=>
  simp only[du] at h1
  split at h1
  ·rename_i i cs hi hv
   exact aG.cell hT h hi hv h1
  ·cases h1
theorem I.om (hT:aN P Ty) {r1:ResultVar} {v:ao} (hfn:P.funcs[f]?=some fn) (hr:fn.results=#[r1]) (h1:du Ty H O r1=some v) (hq:Q v H n):I P f N (.code .ret::k) O H n Q:=I.ret hfn (aG.mix1 hT hr h1) hq
end
theorem qS {a b c:Bool} (hc:c = !(a == b)):dU .neq a b=some (bool c):=by subst hc;rfl
end Go.Ab
namespace Go.Ab
variable [Inhabited cn]
end Go.Ab
namespace Go.Ab
variable [Inhabited cn]
def fz (K:Id->Bool) (H:au):ao->ao
 | .agg cs=>.agg (fzL K H cs)
 | .tup cs=>.tup (fzL K H cs)
 | .list fr els=>.list fr (fzLL K H els)
 | .arr id g off len=>if K id then (match H id with | some o=>if o.els.length=g then .list true ((o.els.drop off).take len) else .undef | none=>.undef) else .arr id g off len
 | .ptr id g idx off=>if K id then .undef else .ptr id g idx off
 | .iptr fr cs=>.iptr fr (fzL K H cs)
 | .fn f a b=>.fn f (fzL K H a) (fzL K H b)
 | .iface t x=>.iface t (fz K H x)
 | x=>x
 where
 fzL (K:Id->Bool) (H:au):List ao->List ao
  | []=>[]
  | a::l=>fz K H a::fzL K H l
 fzLL (K:Id->Bool) (H:au):List (List ao)->List (List ao)
  | []=>[]
  | e::l=>fzL K H e::fzLL K H l
section
variable {K:Id->Bool} {H:au}
theorem k6 (l:List ao):fz.fzL K H l=l.map (fz K H):=by
 induction l with
 | nil=>rfl
 | cons a l ih=>simp[fz.fzL,ih]
theorem vO (l:List (List ao)):fz.fzLL K H l=l.map (fun e=>e.map (fz K H)):=by
 induction l with
 | nil=>rfl
 | cons a l ih=>simp[fz.fzLL,ih,k6]
theorem nn (x:Value):fz K H (.v x) = .v x:=by simp[fz]
theorem q9 (cs:List ao):fz K H (.agg cs) = .agg (cs.map (fz K H)):=by simp[fz,k6]
theorem qg (cs:List ao):fz K H (.tup cs) = .tup (cs.map (fz K H)):=by simp[fz,k6]
theorem jA (fr:Bool) (els:List (List ao)):fz K H (.list fr els) = .list fr (els.map fun e=>e.map (fz K H)):=by simp[fz,vO]
theorem ov (fr:Bool) (cs:List ao):fz K H (.iptr fr cs) = .iptr fr (cs.map (fz K H)):=by simp[fz,k6]
theorem uS (f:Fn) (a b:List ao):fz K H (.fn f a b) = .fn f (a.map (fz K H)) (b.map (fz K H)):=by simp[fz,k6]
theorem lh (t:TypeId) (x:ao):fz K H (.iface t x) = .iface t (fz K H x):=by simp[fz]
theorem qm (id:Id) (g off len:Nat):fz K H (.arr id g off len)=if K id then (match H id with | some o=>if o.els.length=g then .list true ((o.els.drop off).take len) else .undef | none=>.undef) else .arr id g off len:=by simp[fz]
theorem ou (id:Id) (g idx off:Nat):fz K H (.ptr id g idx off)=if K id then .undef else .ptr id g idx off:=by simp[fz]
theorem oT:fz K H .undef = .undef:=by simp[fz]
theorem rG (fr:Bool) (els:List (List Value)):fz K H (.clip fr els) = .clip fr els:=by simp[fz]
theorem rJ (fr:Bool) (els:List (List Value)):fz K H (.list fr (els.map fun e=>e.map .v)) = .list fr (els.map fun e=>e.map .v):=by
 rw[jA];simp[nn,Function.comp_def]
theorem gx {f:ao->ao}:∀ {l:List ao},l.map f=l->∀ a ∈ l,f a=a
 | [],_,a,h=>by cases h
 | b::l,e,a,h=>by
  simp only[List.map_cons,List.cons.injEq] at e;rcases List.mem_cons.1 h with rfl | h
  ·exact e.1
  ·exact gx e.2 a h
theorem pq {f:ao->ao}:∀ {l:List (List ao)},(l.map fun e=>e.map f)=l->∀ e ∈ l,∀ a ∈ e,f a=a
 | [],_,a,h=>by cases h
 | b::l,e,a,h=>by
  simp only[List.map_cons,List.cons.injEq] at e;rcases List.mem_cons.1 h with rfl | h
  ·exact gx e.1
  ·exact pq e.2 a h
end
def vw (K:Id->Bool) (H:au):au:=fun i=>if K i then none else (H i).map fun o=>⟨o.size,o.els.map fun e=>e.map (fz K H)⟩
theorem b5 {K:Id->Bool} {H:au} {i:Id} {o:Ob} (h:vw K H i=some o):K i=false/\∃ o1,H i=some o1/\o=⟨o1.size,o1.els.map fun e=>e.map (fz K H)⟩:=by
 simp only[vw] at h
 split at h
 ·cases h
 ·rename_i hk
  cases h1:H i with
  | none=>rw[h1] at h;cases h
  | some o1=>
   rw[h1] at h;cases h;exact⟨by simpa using hk,o1,rfl,rfl⟩
section
variable {c:Ctx} {K:Id->Bool}
def Ctx.sA (c:Ctx) (K:Id->Bool):Ctx:={ c with H:=vw K c.H }
theorem kY {k:Nat} (h:(c.sA K).mu k):c.mu k:=by
 obtain⟨i,o,h1,h2⟩:=h;obtain⟨_,o1,h3,_⟩:=b5 h1;exact⟨i,o1,h3,h2⟩
theorem bj.frz1 {a:ao} {x:Value} (r:bj c a x):fz K c.H a=a->bj (c.sA K) a x:=by
 induction r with
 | undef x=>intro _;exact .undef x
 | v x=>intro _;exact .v x
 | agg cs vs hl _ ih=>
  intro h;rw[q9] at h
  injection h with h
  exact .agg _ vs hl fun i a x ha hx=>ih i a x ha hx (gx h a (List.mem_of_getElem? ha))
 | tup cs vs hl _ ih=>
  intro h;rw[qg] at h
  injection h with h
  exact .tup _ vs hl fun i a x ha hx=>ih i a x ha hx (gx h a (List.mem_of_getElem? ha))
 | lnil fr=>intro _;exact .lnil fr
 | list fr els a cap sz cell hs cY hm hsz hc _ ih=>
  intro h;rw[jA] at h
  injection h with _ h
  exact .list fr els a cap sz cell hs cY (fun hne=>⟨fun hmu=>(hm hne).1 (kY hmu),(hm hne).2.1,(hm hne).2.2⟩) hsz hc fun i e j y he hy=>ih i e j y he hy (pq h e (List.mem_of_getElem? he) y (List.mem_of_getElem? hy))
 | arr id gen off len x h1 hn hg h=>
  intro hb;refine .arr id gen off len x h1 hn (fun o ho=>?_) (fun o ho hgen=>?_)
  ·obtain⟨_,o1,h3,rfl⟩:=b5 ho;simpa using hg o1 h3
  ·obtain⟨_,o1,h3,rfl⟩:=b5 ho;exact h o1 h3 (by simpa using hgen)
 | ptr id gen idx off x h1 hn hg h=>
  intro hb;refine .ptr id gen idx off x h1 hn (fun o ho=>?_) (fun o ho hgen=>?_)
  ·obtain⟨_,o1,h3,rfl⟩:=b5 ho;simpa using hg o1 h3
  ·obtain⟨_,o1,h3,rfl⟩:=b5 ho;exact h o1 h3 (by simpa using hgen)
 | iptr fr cs a cell hs hm hb hf hc _ ih=>
  intro h;rw[ov] at h
  injection h with _ h
  exact .iptr fr cs a cell hs (fun hmu=>hm (kY hmu)) hb hf hc fun j y hy=>ih j y hy (gx h y (List.mem_of_getElem? hy))
 | fn f first captured vs us hl hl' _ _ ih ih'=>
  intro h;rw[uS] at h
  injection h with _ h h'
  exact .fn f first captured vs us hl hl' (fun i a x ha hx=>ih i a x ha hx (gx h a (List.mem_of_getElem? ha))) (fun i a x ha hx=>ih' i a x ha hx (gx h' a (List.mem_of_getElem? ha)))
 | iface t a x _ ih=>
  intro h;rw[lh] at h
  injection h with _ h
  exact .iface t a x (ih h)
 | clip fr els x hf _ ih=>intro _;exact .clip fr els x hf (ih (rJ fr els))
theorem bj.sA (g:Good c) (hK:∀ i o,K i=true->c.H i=some o->∀ e ∈ o.els,∀ a ∈ e,fz K c.H a=a) {a:ao} {x:Value} (r:bj c a x):bj (c.sA K) (fz K c.H a) x:=by
 induction r with
 | undef x=>rw[oT];exact .undef x
 | v x=>rw[nn];exact .v x
 | agg cs vs hl _ ih=>
  rw[q9];refine .agg _ vs (by simpa using hl) fun i a x ha hx=>?_
  obtain⟨b,hb,rfl⟩:=aU ha;exact ih i b x hb hx
 | tup cs vs hl _ ih=>
  rw[qg];refine .tup _ vs (by simpa using hl) fun i a x ha hx=>?_
  obtain⟨b,hb,rfl⟩:=aU ha;exact ih i b x hb hx
 | lnil fr=>rw[jA];exact .lnil fr
 | list fr els a cap sz cell hs cY hm hsz hc _ ih=>
  rw[jA];have:=bj.list (c:=c.sA K) fr (els.map fun e=>e.map (fz K c.H)) a cap sz cell (fun hne=>hs (by intro h0;subst h0;simp at hne)) (by simpa using cY) (fun hne=>?_) (fun i e he=>?_) (fun i e j y he hy=>?_) (fun i e j y he hy=>?_)
  ·simpa using this
  ·obtain⟨h1,h2,h3⟩:=hm (by intro h0;simp[h0] at hne);exact⟨fun hmu=>h1 (kY hmu),h2,h3⟩
  ·obtain⟨b,hb,rfl⟩:=aU he;rw[List.length_map];exact hsz i b hb
  ·obtain⟨b,hb,rfl⟩:=aU he;obtain⟨z,hz,rfl⟩:=aU hy;exact hc i b j z hb hz
  ·obtain⟨b,hb,rfl⟩:=aU he;obtain⟨z,hz,rfl⟩:=aU hy;exact ih i b j z hb hz
 | arr id gen off len x h1 hn hg h=>
  rw[qm];cases hk:K id with
  | false=>
   refine .arr id gen off len x h1 hn (fun o ho=>?_) (fun o ho hgen=>?_)
   ·obtain⟨_,o1,h3,rfl⟩:=b5 ho;simpa using hg o1 h3
   ·obtain⟨_,o1,h3,rfl⟩:=b5 ho;exact h o1 h3 (by simpa using hgen)
  | true=>
   rw[if_pos rfl];cases ho:c.H id with
   | none=>exact .undef _
   | some o=>
   simp only
   split
   ·rename_i hgen
    obtain⟨p1,⟨b,aoff,M⟩,cap,rfl,hab,hsp,hlc,cC,hcl⟩:=h o ho hgen;simp only at hab hsp cC;subst hab hsp;obtain⟨hB,cl,el,hcell,hfit,hel⟩:=g.obj id o ho;have hlen:((o.els.drop off).take len).length=len:=by simp;omega
    have hget:∀ (i:Nat) (e:List ao),((o.els.drop off).take len)[i]?=some e->i<len/\o.els[off+i]?=some e:=by
     intro i e he;rw[List.getElem?_take] at he
     split at he
     ·rename_i hi
      rw[List.getElem?_drop] at he;exact⟨hi,he⟩
     ·cases he
    have hao:∀ (i:Nat) (e:List ao),((o.els.drop off).take len)[i]?=some e->aoff=off * o.size:=by
     intro i e he;obtain⟨hi,_⟩:=hget i e he;rcases cC with h | h
     ·exact h
     ·omega
    have:=bj.list (c:=c.sA K) true ((o.els.drop off).take len) ⟨c.β id,aoff,none⟩ cap o.size (fun i j=>cl.getD ((off+i) * o.size+j) Go.undef) (fun _=>rfl) (by omega) (fun _=>⟨?_,g.lt ho,fun _=>hB⟩) (fun i e he=>?_) (fun i e j y he hy=>?_) (fun i e j y he hy=>?_)
    ·rw[hlen] at this;exact this
    ·rintro⟨i,o',h3,h4⟩;obtain⟨hki,o1,h5,_⟩:=b5 h3;have:=g.inj i id o1 o h5 ho h4;subst this;rw[hk] at hki;cases hki
    ·exact (hel _ _ (hget i e he).2).1
    ·obtain⟨hi,he2⟩:=hget i e he;obtain⟨u,hu,hr⟩:=(hel _ _ he2).2 j y hy;rw[hao i e he,<- Nat.add_assoc,<- Nat.add_mul];simp[Ctx.sA,World.cell?,hcell,hu,Array.getD_eq_getD_getElem?]
    ·obtain⟨hi,he2⟩:=hget i e he;obtain⟨u,hu,hr⟩:=(hel _ _ he2).2 j y hy;rw[Array.getD_eq_getD_getElem?,hu];exact hr.frz1 (hK id o hk ho e (List.mem_of_getElem? he2) y (List.mem_of_getElem? hy))
   ·exact .undef _
 | ptr id gen idx off x h1 hn hg h=>
  rw[ou];cases hk:K id with
  | true=>exact .undef _
  | false=>
   refine .ptr id gen idx off x h1 hn (fun o ho=>?_) (fun o ho hgen=>?_)
   ·obtain⟨_,o1,h3,rfl⟩:=b5 ho;simpa using hg o1 h3
   ·obtain⟨_,o1,h3,rfl⟩:=b5 ho;exact h o1 h3 (by simpa using hgen)
 | iptr fr cs a cell hs hm hb hf hc _ ih=>
  rw[ov];refine .iptr fr _ a cell hs (fun hmu=>hm (kY hmu)) hb hf (fun j y hy=>?_) (fun j y hy=>?_)
  ·obtain⟨z,hz,rfl⟩:=aU hy;exact hc j z hz
  ·obtain⟨z,hz,rfl⟩:=aU hy;exact ih j z hz
 | fn f first captured vs us hl hl' _ _ ih ih'=>
  rw[uS];refine .fn f _ _ vs us (by simpa using hl) (by simpa using hl') (fun i a x ha hx=>?_) (fun i a x ha hx=>?_)
  ·obtain⟨z,hz,rfl⟩:=aU ha;exact ih i z x hz hx
  ·obtain⟨z,hz,rfl⟩:=aU ha;exact ih' i z x hz hx
 | iface t a x _ ih=>rw[lh];exact .iface t _ x ih
 | clip fr els x hf _ ih=>rw[rG];rw[rJ] at ih;exact .clip fr els x hf ih
end
theorem jn.fz {n:Nat} {K:Id->Bool} {H:au} (hK:∀ i,K i=true->n<=i.1) {a:ao} (h:jn n a):Ab.fz K H a=a:=by
 have fix:∀ {l:List ao},(∀ a ∈ l,Ab.fz K H a=a)->l.map (Ab.fz K H)=l:=fun {l} h=>by
  conv=>rhs;rw[<- List.map_id l]
  exact List.map_congr_left h
 induction h with
 | undef=>exact oT
 | v x=>exact nn x
 | agg cs _ ih=>rw[q9,fix ih]
 | tup cs _ ih=>rw[qg,fix ih]
 | list fr els _ ih=>
  rw[jA]
  congr 1
  conv=>rhs;rw[<- List.map_id els]
  exact List.map_congr_left fun e he=>fix (ih e he)
 | arr id g off len h=>
  rw[qm,if_neg];intro hk;have:=hK id hk;omega
 | ptr id g idx off h=>
  rw[ou,if_neg];intro hk;have:=hK id hk;omega
 | iptr fr cs _ ih=>rw[ov,fix ih]
 | fn f a b _ _ ih ih'=>rw[uS,fix ih,fix ih']
 | iface t a _ ih=>rw[lh,ih]
 | clip fr els=>exact rG fr els
theorem Frame.fz {n:Nat} {K:Id->Bool} {H H1:au} (hB:HBnd n H) (hK:∀ i,K i=true->n<=i.1) (h:Frame n H H1):Frame n H (vw K H1):=fun i hi=>by
 have hk:K i=false:=by
  cases e:K i with
  | false=>rfl
  | true=>have:=hK i e;omega
 simp only[vw,hk,Bool.false_eq_true,if_false];rw[h i hi];cases ho:H i with
 | none=>rfl
 | some o=>
  obtain⟨_,h2⟩:=hB i o ho;obtain⟨sz,els⟩:=o;simp only[Option.map_some,Option.some.injEq,Ob.mk.injEq,true_and]
  conv=>rhs;rw[<- List.map_id els]
  refine List.map_congr_left fun e he=>?_
  conv=>rhs;rw[id,<- List.map_id e]
  exact List.map_congr_left fun a ha=>jn.fz hK (h2 e he a ha)
theorem I.freeze {P:Program} {f:FuncId} {N:Nat} {k:List Item} {O:Env} {H:au} {n:Nat} {Q:ao->au->Nat->Prop} (K:Id->Bool)
  (hK:∀ i o,K i=true->H i=some o->∀ e ∈ o.els,∀ a ∈ e,fz K H a=a) (h:I P f N k (fun t=>fz K H (O t)) (vw K H) n Q):I P f N k O H n Q:=by
 intro c a hH hn g r b cs hf hk;subst hH hn;have k2:aQ c (c.sA K):=by
  refine⟨Nat.le_refl _,rfl,Nat.le_refl _,rfl,rfl,rfl,fun k hk hm=>⟨rfl,fun h=>hm (kY h)⟩,fun id o' ho hid=>?_⟩;obtain⟨_,o1,h3,rfl⟩:=b5 ho;exact⟨o1,h3,rfl,by simp,fun _=>⟨rfl,fun cl el fz h=>⟨cl,el,fz,h,Nat.le_refl _⟩⟩⟩
 have g2:Good (c.sA K):=by
  refine⟨fun id o ho=>?_,fun id id' o o' ho ho' hb=>?_,g.Bsize,fun id o ho=>?_,g.na k2⟩
  ·obtain⟨_,o1,h3,_⟩:=b5 ho;exact g.stamp id o1 h3
  ·obtain⟨_,o1,h3,_⟩:=b5 ho;obtain⟨_,o2,h4,_⟩:=b5 ho';exact g.inj id id' o1 o2 h3 h4 hb
  ·obtain⟨_,o1,h3,rfl⟩:=b5 ho;obtain⟨p1,cl,el,p2,p3,p4⟩:=g.obj id o1 h3;refine⟨p1,cl,el,p2,by simpa using p3,fun i e he=>?_⟩;obtain⟨e1,he1,rfl⟩:=aU (show (o1.els.map fun e=>e.map (fz K c.H))[i]?=some e from he);refine⟨by rw[List.length_map];exact (p4 i e1 he1).1,fun j y hy=>?_⟩;obtain⟨z,hz,rfl⟩:=aU hy;obtain⟨x,hx,hr⟩:=(p4 i e1 he1).2 j z hz;exact⟨x,hx,hr.sA g hK⟩
 have r2:bV N (c.sA K) (fun t=>fz K c.H (O t)) a:=⟨r.defers,r.size,fun t=>(r.rep t).sA g hK⟩
 obtain⟨x,v,c',fr,q,hr,hg,hke,rest⟩:=h (c.sA K) a rfl rfl g2 r2 b cs hf hk;exact⟨x,v,c',fr,q,hr,hg,k2.trans hke,rest⟩
theorem I.wb {P:Program} {f:FuncId} {N:Nat} {k:List Item} {O:Env} {H:au} {n:Nat} {Q:ao->au->Nat->Prop} (id:Id) {o:Ob} (hid:H id=some o)
  (hf:∀ e ∈ o.els,∀ a ∈ e,flat a=true) (h:I P f N k (fun t=>fz (fun i=>decide (i=id)) H (O t)) (vw (fun i=>decide (i=id)) H) n Q):I P f N k O H n Q:=by
 refine I.freeze (fun i=>decide (i=id)) (fun i o' hi ho e he a ha=>?_) h;have hi:i=id:=by simpa using hi
 subst hi;rw[hid] at ho;cases ho;have:=hf e he a ha;cases a<;>simp[flat] at this;exact nn _
theorem fz_own {H:au} {id:Id} {sz g:Nat} {els:List (List ao)} (h:H id=some ⟨sz,els⟩) (hg:els.length=g):fz (fun i=>decide (i=id)) H (.arr id g 0 g) = .list true els:=by
 rw[qm];simp[h,hg];rw[<- hg,List.take_length]
theorem tG {H:au} {id i:Id} (h:i ≠ id):vw (fun i=>decide (i=id)) H i=(H i).map fun o=>⟨o.size,o.els.map fun e=>e.map (fz (fun i=>decide (i=id)) H)⟩:=by
 simp[vw,h]
end Go.Ab
