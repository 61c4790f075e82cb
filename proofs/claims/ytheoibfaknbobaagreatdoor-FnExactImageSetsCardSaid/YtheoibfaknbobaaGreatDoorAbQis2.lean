/- Merged texts (2 of 16) of the proof that ends in Isy: K L ai N T Tb Tc Td Tf Vc Te. -/
import Derived.Test.YtheoibfaknbobaaGreatDoorAbQis1
import Derived.Still
import Derived.Orders
import Derived.Laws.Strings
set_option linter.unusedSectionVars false
set_option linter.unusedSimpArgs false
namespace Go.Ab
abbrev cB:=List UInt8
abbrev int (n:Int):au:=.v (.int .i64 n)
abbrev bool (b:Bool):au:=.v (.bool b)
abbrev str (s:cB):au:=.v (.string ⟨s.toArray⟩)
def old:au->au
 | .agg cs=>.agg (oldL cs)
 | .tup cs=>.tup (oldL cs)
 | .list _ els=>.list false (oldLL els)
 | .iface t x=>.iface t (old x)
 | x=>x
 where
 oldL:List au->List au
  | []=>[]
  | a::l=>old a::oldL l
 oldLL:List (List au)->List (List au)
  | []=>[]
  | e::l=>oldL e::oldLL l
theorem vQ (l:List au):old.oldL l=l.map old:=by
 induction l with
 | nil=>rfl
 | cons a l ih=>simp[old.oldL,ih]
theorem Ef (l:List (List au)):old.oldLL l=l.map (fun e=>e.map old):=by
 induction l with
 | nil=>rfl
 | cons a l ih=>simp[old.oldLL,ih,vQ]
theorem FC (x:Value):old (.v x) = .v x:=rfl
theorem qB (cs:List au):old (.agg cs) = .agg (cs.map old):=by simp[old,vQ]
theorem fE (fr:Bool) (els:List (List au)):old (.list fr els) = .list false (els.map (fun e=>e.map old)):=by simp[old,Ef]
inductive je:au->Prop
 | v (x:Value):je (.v x)
 | agg (cs:List au) (h:∀ a ∈ cs,je a):je (.agg cs)
 | tup (cs:List au) (h:∀ a ∈ cs,je a):je (.tup cs)
 | list (fr:Bool) (els:List (List au)) (h:∀ e ∈ els,∀ a ∈ e,je a):je (.list fr els)
 | iface (t:TypeId) (a:au) (h:je a):je (.iface t a)
theorem bt {α β:Type} {f:α->β} {l:List α} {i:Nat} {b:β} (h:(l.map f)[i]?=some b):∃ a,l[i]?=some a/\b=f a:=by
 rw[List.getElem?_map] at h;cases ha:l[i]? with
 | none=>simp[ha] at h
 | some a=>simp only[ha,Option.map_some,Option.some.injEq] at h;exact⟨a,rfl,h.symm⟩
theorem EG {c:Ctx} (h:∀ id,c.H id=none) (k:Nat):¬ c.mu k:=by
 rintro⟨id,o,ho,_⟩;rw[h] at ho;cases ho
theorem bF.old {c c':Ctx} (hw:c'.w=c.w) (hH:∀ id,c'.H id=none) {a:au} {x:Value} (r:bF c a x) (hi:je a):bF c' (old a) x:=by
 induction r with
 | undef=>cases hi
 | v x=>exact .v x
 | agg cs vs hl _ ih=>
  cases hi with
  | agg _ hi=>
  rw[qB];refine .agg _ vs (by simpa using hl) fun i a x ha hx=>?_
  obtain⟨b,hb,rfl⟩:=bt ha;exact ih i b x hb hx (hi b (List.mem_of_getElem? hb))
 | tup cs vs hl _ ih=>
  cases hi with
  | tup _ hi=>
  simp only[Ab.old,vQ];refine .tup _ vs (by simpa using hl) fun i a x ha hx=>?_
  obtain⟨b,hb,rfl⟩:=bt ha;exact ih i b x hb hx (hi b (List.mem_of_getElem? hb))
 | lnil fr=>exact .lnil false
 | list fr els a cap sz cell hs ez hm hsz hc _ ih=>
  cases hi with
  | list _ _ hi=>
  rw[fE];have:=bF.list (c:=c') false (els.map fun e=>e.map Ab.old) a cap sz cell (fun hne=>hs (by intro h0;subst h0;simp at hne)) (by simpa using ez) (fun hne=>?_) (fun i e he=>?_) (fun i e j x he hx=>?_) (fun i e j x he hx=>?_)
  ·simpa using this
  ·obtain⟨_,h2,_⟩:=hm (by intro h0;simp[h0] at hne);exact⟨EG hH _,by rw[hw];exact h2,fun h=>by cases h⟩
  ·obtain⟨b,hb,rfl⟩:=bt he;rw[List.length_map];exact hsz i b hb
  ·obtain⟨b,hb,rfl⟩:=bt he;obtain⟨y,hy,rfl⟩:=bt hx;rw[hw];exact hc i b j y hb hy
  ·obtain⟨b,hb,rfl⟩:=bt he;obtain⟨y,hy,rfl⟩:=bt hx;exact ih i b j y hb hy (hi b (List.mem_of_getElem? hb) y (List.mem_of_getElem? hy))
 | arr=>cases hi
 | ptr=>cases hi
 | iptr=>cases hi
 | fn=>cases hi
 | iface t a x _ ih=>
  cases hi with
  | iface _ _ hi=>exact .iface t _ x (ih hi)
 | clip=>cases hi
theorem aM.imm {H:az} {n:Nat} {a:au} (hi:je a):aM H n a (old a):=fun _ _ _ _ _ r _ hw hH=>r.old hw hH hi
theorem aM.v (H:az) (n:Nat) (x:Value):aM H n (.v x) (.v x):=fun _ y _ _ _ r _ _ _=>by rw[r.bS];exact .v x
theorem aM.tu {H:az} {n:Nat} {a b:au} (hi:je a) (h:old a=b):aM H n a b:=h ▸ aM.imm hi
theorem aM.arr {H:az} {n:Nat} {id:Id} {g off len:Nat} {o:Ob} (hl:live H id g=some o) (hi:∀ e ∈ o.els,∀ a ∈ e,je a):aM H n (.arr id g off len) (.list false (((o.els.drop off).take len).map fun e=>e.map old)):=by
 intro c x hH hn gd r c' hw hc';subst hH;obtain⟨l1,l2⟩:=dd hl;cases r with
 | arr _ _ _ _ _ hone hn hg hp=>
 obtain⟨p1,⟨b,aoff,M⟩,cap,rfl,hab,hsp,hlc,db,hcl⟩:=hp o l1 l2;simp only at hab hsp db;subst hab hsp;obtain⟨hB,cl,el,hcell,hfit,hel⟩:=gd.obj id o l1;have hlen:(((o.els.drop off).take len).map fun e=>e.map old).length=len:=by simp;omega
 have hget:∀ (i:Nat) (e:List au),(((o.els.drop off).take len).map fun e=>e.map old)[i]?=some e->i<len/\∃ e0,o.els[off+i]?=some e0/\e=e0.map old:=by
  intro i e he;obtain⟨e0,he0,rfl⟩:=bt he;rw[List.getElem?_take] at he0
  split at he0
  ·rename_i hi
   rw[List.getElem?_drop] at he0;exact⟨hi,e0,he0,rfl⟩
  ·cases he0
 have:=bF.list (c:=c') false (((o.els.drop off).take len).map fun e=>e.map old) ⟨c.β id,aoff,none⟩ cap o.size (fun i j=>cl.getD ((off+i) * o.size+j) Go.undef) (fun _=>rfl) (by omega) (fun _=>⟨EG hc' _,by rw[hw];exact gd.lt l1,fun h=>by cases h⟩)
  (fun i e he=>by obtain⟨_,e0,he0,rfl⟩:=hget i e he;rw[List.length_map];exact (hel _ _ he0).1) (fun i e j y he hy=>?_) (fun i e j y he hy=>?_)
 ·rw[hlen] at this;exact this
 ·obtain⟨hi,e0,he0,rfl⟩:=hget i e he;obtain⟨y0,hy0,rfl⟩:=bt hy;obtain⟨u,hu,hr⟩:=(hel _ _ he0).2 j y0 hy0;have hao:aoff=off * o.size:=by
   rcases db with h | h
   ·exact h
   ·omega
  rw[hw,hao,<- Nat.add_assoc,<- Nat.add_mul];simp[World.cell?,hcell,hu,Array.getD_eq_getD_getElem?]
 ·obtain⟨hi2,e0,he0,rfl⟩:=hget i e he;obtain⟨y0,hy0,rfl⟩:=bt hy;obtain⟨u,hu,hr⟩:=(hel _ _ he0).2 j y0 hy0;rw[Array.getD_eq_getD_getElem?,hu];exact hr.old hw hc' (hi _ (List.mem_of_getElem? he0) _ (List.mem_of_getElem? hy0))
inductive kz (H:az):au->au->Prop
 | v (x:Value):kz H (.v x) (.v x)
 | agg {cs ds:List au} (hl:cs.length=ds.length) (h:∀ (i:Nat) (a b:au),cs[i]?=some a->ds[i]?=some b->kz H a b):kz H (.agg cs) (.agg ds)
 | tup {cs ds:List au} (hl:cs.length=ds.length) (h:∀ (i:Nat) (a b:au),cs[i]?=some a->ds[i]?=some b->kz H a b):kz H (.tup cs) (.tup ds)
 | list {els fls:List (List au)} (hl:els.length=fls.length) (hl':∀ (i:Nat) (e f:List au),els[i]?=some e->fls[i]?=some f->e.length=f.length)
   (h:∀ (i:Nat) (e f:List au) (j:Nat) (a b:au),els[i]?=some e->fls[i]?=some f->e[j]?=some a->f[j]?=some b->kz H a b):kz H (.list true els) (.list true fls)
 | nil (fr:Bool):kz H (.v (.slice none 0 0)) (.list fr [])
 | arr {id:Id} {g off len:Nat} {o:Ob} {fls:List (List au)} (hlv:live H id g=some o) (hl:((o.els.drop off).take len).length=fls.length)
   (hl':∀ (i:Nat) (e f:List au),((o.els.drop off).take len)[i]?=some e->fls[i]?=some f->e.length=f.length)
   (h:∀ (i:Nat) (e f:List au) (j:Nat) (a b:au),((o.els.drop off).take len)[i]?=some e->fls[i]?=some f->e[j]?=some a->f[j]?=some b->kz H a b):kz H (.arr id g off len) (.list true fls)
theorem a8 {α:Type} {l:List α} {i:Nat} (h:i<l.length):∃ a,l[i]?=some a:=⟨l[i],List.getElem?_eq_getElem h⟩
theorem bF.ret {c c':Ctx} (g:Good c) (hw:c'.w=c.w) (hmu:∀ k,c'.mu k->k<c.B) (hB:c'.B<=c.B) {a b:au} (r:kz c.H a b):∀ {x:Value},bF c a x->bF c' b x:=by
 induction r with
 | v x=>intro y h;rw[h.bS];exact .v x
 | agg hl _ ih=>
  intro x hx;cases hx with
  | agg _ vs hl' hr=>
  refine .agg _ vs (by omega) fun i b x hb hx=>?_
  have hi:=(List.getElem?_eq_some_iff.1 hb).1;obtain⟨a,ha⟩:=a8 (l:=_) (i:=i) (by rw[hl];exact hi);exact ih i a b ha hb (hr i a x ha hx)
 | tup hl _ ih=>
  intro x hx;cases hx with
  | tup _ vs hl' hr=>
  refine .tup _ vs (by omega) fun i b x hb hx=>?_
  have hi:=(List.getElem?_eq_some_iff.1 hb).1;obtain⟨a,ha⟩:=a8 (l:=_) (i:=i) (by rw[hl];exact hi);exact ih i a b ha hb (hr i a x ha hx)
 | nil fr=>intro x hx;rw[hx.bS];exact .lnil fr
 | @list els fls hl hl' _ ih=>
  intro x hx;cases hx with
  | lnil=>
   have:fls=[]:=List.eq_nil_of_length_eq_zero (by simpa using hl.symm);subst this;exact .lnil true
  | list _ _ a cap sz cell hs ez hm hsz hc hr=>
   have:=bF.list (c:=c') true fls a cap sz cell (fun hne=>hs (by intro h0;subst h0;exact hne (List.eq_nil_of_length_eq_zero (by simpa using hl.symm)))) (by omega) (fun hne=>?_) (fun i f hf=>?_) (fun i f j y hf hy=>?_) (fun i f j y hf hy=>?_)
   ·rw[<- hl] at this;exact this
   ·have hne':els ≠ []:=by intro h0;subst h0;exact hne (List.eq_nil_of_length_eq_zero (by simpa using hl.symm))
    obtain⟨h1,h2,h3⟩:=hm hne';refine⟨fun hmk=>?_,by rw[hw];exact h2,fun _=>Nat.le_trans hB (h3 rfl)⟩;have:=hmu _ hmk;have:=h3 rfl;omega
   ·have hi:=(List.getElem?_eq_some_iff.1 hf).1;obtain⟨e,he⟩:=a8 (l:=els) (i:=i) (by omega);rw[<- hl' i e f he hf];exact hsz i e he
   ·have hi:=(List.getElem?_eq_some_iff.1 hf).1;obtain⟨e,he⟩:=a8 (l:=els) (i:=i) (by omega);have hj:=(List.getElem?_eq_some_iff.1 hy).1;obtain⟨z,hz⟩:=a8 (l:=e) (i:=j) (by rw[hl' i e f he hf];exact hj);rw[hw];exact hc i e j z he hz
   ·have hi:=(List.getElem?_eq_some_iff.1 hf).1;obtain⟨e,he⟩:=a8 (l:=els) (i:=i) (by omega);have hj:=(List.getElem?_eq_some_iff.1 hy).1;obtain⟨z,hz⟩:=a8 (l:=e) (i:=j) (by rw[hl' i e f he hf];exact hj);exact ih i e f j z y he hf hz hy (hr i e j z he hz)
 | @arr id gg off len o fls hlv hl hl' _ ih=>
  intro x hx;obtain⟨l1,l2⟩:=dd hlv;cases hx with
  | arr _ _ _ _ _ hone hn hg hp=>
  obtain⟨p1,⟨b,aoff,M⟩,cap,rfl,hab,hsp,hlc,db,hcl⟩:=hp o l1 l2;simp only at hab hsp db;subst hab hsp;obtain⟨hBo,cl,el,hcell,hfit,hel⟩:=g.obj id o l1;have hlen:((o.els.drop off).take len).length=len:=by simp;omega
  have hget:∀ (i:Nat) (e:List au),((o.els.drop off).take len)[i]?=some e->i<len/\o.els[off+i]?=some e:=by
   intro i e he;rw[List.getElem?_take] at he
   split at he
   ·rename_i hi
    rw[List.getElem?_drop] at he;exact⟨hi,he⟩
   ·cases he
  have key:∀ (i:Nat) (f:List au) (j:Nat) (y:au),fls[i]?=some f->f[j]?=some y->∃ e z u,((o.els.drop off).take len)[i]?=some e/\e[j]?=some z/\cl[(off+i) * o.size+j]?=some u/\bF c z u/\aoff=off * o.size:=by
   intro i f j y hf hy;have hi:=(List.getElem?_eq_some_iff.1 hf).1;obtain⟨e,he⟩:=a8 (l:=(o.els.drop off).take len) (i:=i) (by omega);have hj:=(List.getElem?_eq_some_iff.1 hy).1;obtain⟨z,hz⟩:=a8 (l:=e) (i:=j) (by rw[hl' i e f he hf];exact hj);obtain⟨hi2,he0⟩:=hget i e he;obtain⟨u,hu,hr⟩:=(hel _ _ he0).2 j z hz;refine⟨e,z,u,he,hz,hu,hr,?_⟩;rcases db with h | h
   ·exact h
   ·omega
  have:=bF.list (c:=c') true fls ⟨c.β id,aoff,none⟩ cap o.size (fun i j=>cl.getD ((off+i) * o.size+j) Go.undef) (fun _=>rfl) (by omega) (fun hne=>?_) (fun i f hf=>?_) (fun i f j y hf hy=>?_) (fun i f j y hf hy=>?_)
  ·rw[<- hl,hlen] at this;exact this
  ·refine⟨fun hmk=>?_,by rw[hw];exact g.lt l1,fun _=>Nat.le_trans hB hBo⟩;have:=hmu _ hmk;simp only at this;omega
  ·have hi:=(List.getElem?_eq_some_iff.1 hf).1;obtain⟨e,he⟩:=a8 (l:=(o.els.drop off).take len) (i:=i) (by omega);rw[<- hl' i e f he hf];exact (hel _ _ (hget i e he).2).1
  ·obtain⟨e,z,u,he,hz,hu,hr,hao⟩:=key i f j y hf hy;rw[hw,hao,<- Nat.add_assoc,<- Nat.add_mul];simp[World.cell?,hcell,hu,Array.getD_eq_getD_getElem?]
  ·obtain⟨e,z,u,he,hz,hu,hr,hao⟩:=key i f j y hf hy;rw[Array.getD_eq_getD_getElem?,hu];exact ih i e f j z y he hf hz hy hr
theorem ov.of {H:az} {n:Nat} {a b:au} (r:kz H a b):ov H n a b:=by
 intro c x hH _ g hx c' hw hmu hB;subst hH;exact bF.ret g hw hmu hB r hx
theorem ov.v (H:az) (n:Nat) (x:Value):ov H n (.v x) (.v x):=.of (.v x)
inductive bI:au->Prop
 | v (x:Value):bI (.v x)
 | agg (cs:List au) (h:∀ a ∈ cs,bI a):bI (.agg cs)
 | tup (cs:List au) (h:∀ a ∈ cs,bI a):bI (.tup cs)
 | list (els:List (List au)) (h:∀ e ∈ els,∀ a ∈ e,bI a):bI (.list true els)
@[simp] theorem fresh_v (x : Value) : bI (.v x) := .v x
@[simp] theorem fresh_list (els : List (List au)) : bI (.list true els) ↔ ∀ e ∈ els, ∀ a ∈ e, bI a := ⟨fun h => by cases h with | list _ h => exact h, .list els⟩
theorem kz.fresh {H:az} {a:au} (h:bI a):kz H a a:=by
 induction h with
 | v x=>exact .v x
 | agg cs _ ih=>exact .agg rfl fun i a b ha hb=>by rw[ha] at hb;cases hb;exact ih a (List.mem_of_getElem? ha)
 | tup cs _ ih=>exact .tup rfl fun i a b ha hb=>by rw[ha] at hb;cases hb;exact ih a (List.mem_of_getElem? ha)
 | list els _ ih=>exact .list rfl (fun i e f he hf=>by rw[he] at hf;cases hf;rfl) fun i e f j a b he hf ha hb=>by rw[he] at hf;cases hf;rw[ha] at hb;cases hb;exact ih e (List.mem_of_getElem? he) a (List.mem_of_getElem? ha)
theorem kz.qZ {H:az} {id:Id} {g sz:Nat} {els:List (List au)} (hl:live H id g=some ⟨sz,els⟩) (h:∀ e ∈ els,∀ a ∈ e,bI a):kz H (.arr id g 0 g) (.list true els):=by
 obtain⟨l1,l2⟩:=dd hl;simp only at l2;have e1:((Ob.mk sz els).els.drop 0).take g=els:=by simp[<- l2]
 refine .arr hl (by rw[e1]) (fun i e f he hf=>?_) fun i e f j a b he hf ha hb=>?_
 ·rw[e1,hf] at he;cases he;rfl
 ·rw[e1,hf] at he;cases he;rw[ha] at hb;cases hb;exact kz.fresh (h e (List.mem_of_getElem? hf) a (List.mem_of_getElem? ha))
def flat:au->Bool
 | .v _=>true
 | _=>false
theorem bI.flat {a:au} (h:Ab.flat a=true):bI a:=by
 cases a<;>simp[Ab.flat] at h;exact .v _
theorem je.flat {a:au} (h:Ab.flat a=true):je a:=by
 cases a<;>simp[Ab.flat] at h;exact .v _
section
variable {P:Program} {N:Nat} {fn:Func} {O:Env} {H:az} {n:Nat}
theorem aN.one {t:Tmp} (h:fn.results=#[.tmp t]):aN P N fn O H n (O t):=fun c a _ _ _ r=>⟨a.tmps.getD t undef,results_tmp h a.tmps P c.w,r.rep t⟩
theorem aN.two {t u:Tmp} (h:fn.results=#[.tmp t,.tmp u]):aN P N fn O H n (.tup [O t,O u]):=fun c a _ _ _ r=>
 ⟨.tuple [a.tmps.getD t undef,a.tmps.getD u undef].toArray,by simp[results,h],.tup _ _ rfl fun i b x hb hx=>by
  match i with
  | 0=>simp at hb hx;rw[<- hb,<- hx];simpa using r.rep t
  | 1=>simp at hb hx;rw[<- hb,<- hx];simpa using r.rep u
  | i+2=>simp at hb⟩
end
section
variable {P:Program} {f:FuncId} {N:Nat} {k:List Item} {O:Env} {H:az} {n:Nat} {Q:au->az->Nat->Prop}
theorem J.bV {x:Code} (len:Nat) (aq:Nat->Env->az->Nat->Prop) (h0:aq 0 O H n)
  (step:∀ i O H n,i<=len->aq i O H n->(i<len->∀ ρ' H' n',aq (i+1) ρ' H' n'->J P f N (.inLoop x::k) ρ' H' n' Q)->J P f N (.code x::.inLoop x::k) O H n Q) :
  J P f N (.code (.loop x)::k) O H n Q:=by
 have key:∀ m i O H n,i+m=len->aq i O H n->J P f N (.code x::.inLoop x::k) O H n Q:=by
  intro m
  induction m with
  | zero=>intro i O H n hi hI;exact step i O H n (by omega) hI (fun h=>by omega)
  | succ m ih=>intro i O H n hi hI;exact step i O H n (by omega) hI (fun _ ρ' H' n' hI'=>J.inLoop (ih (i+1) ρ' H' n' (by omega) hI'))
 exact J.loop (key len 0 O H n (by omega) h0)
theorem J.Ec {x:Code} (aq:Nat->Env->az->Nat->Prop) (m:Nat) (h0:aq m O H n)
  (step:∀ m O H n,aq m O H n->(∀ m' ρ' H' n',m'<m->aq m' ρ' H' n'->J P f N (.inLoop x::k) ρ' H' n' Q)->J P f N (.code x::.inLoop x::k) O H n Q) :
  J P f N (.code (.loop x)::k) O H n Q:=by
 have key:∀ m O H n,aq m O H n->J P f N (.code x::.inLoop x::k) O H n Q:=by
  intro m
  induction m using Nat.strongRecOn with
  | _ m ih=>intro O H n hI;exact step m O H n hI (fun m' ρ' H' n' hm hI'=>J.inLoop (ih m' hm ρ' H' n' hI'))
 exact J.loop (key m O H n h0)
theorem J.ite {t:Operand} {x y:Code} {b:Bool} (hb:O.ev t = .v (.bool b)) (hy:b=true->J P f N (.code x::k) O H n Q) (hn:b=false->J P f N (.code y::k) O H n Q):J P f N (.code (.cond t x y)::k) O H n Q:=by
 cases b with
 | true=>exact J.cond hb (hy rfl)
 | false=>exact J.cond hb (hn rfl)
end
theorem wrap64 {x:Int} (h1 : -9223372036854775808<=x) (h2:x<=9223372036854775807):IntKind.i64.wrap x=x:=by
 simp only[IntKind.wrap,IntKind.bits,IntKind.signed];simp only[Bool.true_and]
 split<;>rename_i h<;>simp at h<;>omega
theorem ba {k:Nat} (h:k<4611686018427387904):IntKind.i64.wrap ((k:Int)+1)=((k+1:Nat):Int):=by
 rw[wrap64 (by omega) (by omega)];omega
section
variable {P:Program} {f:FuncId} {N:Nat} {k:List Item} {O:Env} {H:az} {n:Nat} {Q:au->az->Nat->Prop} {Ty:Types}
theorem J.seqE (hT:aX P Ty) {id:Nat} {ops:List Oper} {y:Code} (hN:ops.all (fun o=>dM N o.dst)=true)
  (h:∀ k':List Item,(∀ O H n,J P f N (.code y::k) O H n Q->J P f N k' O H n Q)->bR P f N k' Q Ty ops.toArray ops O H n):J P f N (.code (.seq (.region id ops.toArray false) y)::k) O H n Q:=
 J.seq (J.eval hT hN (h (.code y::k) fun _ _ _ h=>h))
theorem J.evalE (hT:aX P Ty) {id:Nat} {ops:List Oper} (hN:ops.all (fun o=>dM N o.dst)=true)
  (h:∀ k':List Item,(∀ O H n,J P f N k O H n Q->J P f N k' O H n Q)->bR P f N k' Q Ty ops.toArray ops O H n):J P f N (.code (.region id ops.toArray false)::k) O H n Q:=
 J.eval hT hN (h k fun _ _ _ h=>h)
end
def Post (R:au->Prop) (Q:au->az->Nat->Prop):Prop:=∀ v H n r,ov H n v r->R r->Q v H n
theorem aB.of {P:Program} {f:FuncId} {fn:Func} {body:Code} {args:List au} {R:au->Prop} {N:Nat} (hfn:P.funcs[f]?=some fn) (hb:fn.body=some body) (hn:fn.ntmps=N) (hN:args.length<=N)
  (h:∀ Q,Post R Q->J P f N [.code body] (fN args) bA 0 Q):aB P f args R:=by
 subst hn;exact aB.oF hfn hb hN (h _ fun v H n r h1 h2=>⟨r,h1,h2⟩)
attribute [simp] az.set_set wE a6 guardOf Env.EN Env.EB Env.ev uF fN az.lk cW live lQ tW gP dx aK aT one vH chunks ax uq De gf uE A0 aP aw u1 bB ca bL ku Ob.write dq bq AB
end Go.Ab
namespace Go.Ab
def tmpsOf (op:Op):List Tmp:=op.operands.toList.filterMap fun | .tmp t=>some t | _=>none
def loc (op:Op) (O:Env):Env:=fun t=>if (tmpsOf op).contains t then O t else .undef
theorem fy {op:Op} {O:Env} {x:Operand} (h:x ∈ op.operands):(loc op O).ev x=O.ev x:=by
 cases x with
 | tmp t=>
  have:t ∈ tmpsOf op:=List.mem_filterMap.2 ⟨.tmp t,by simpa using h,rfl⟩;simp[Env.ev,loc,this]
 | _=>rfl
theorem gp {op:Op} {O:Env} {d:Option Tmp} {v:au} (h:∀ t,d=some t->t ∉ tmpsOf op):loc op (O.put d v)=loc op O:=by
 cases d with
 | none=>rfl
 | some d=>
  funext t
  simp only[loc,Env.put]
  split
  ·rename_i ht
   rw[if_neg];intro he;subst he;exact h t rfl (by simpa using ht)
  ·rfl
theorem cL.loc {N:Nat} {c:Ctx} {O:Env} {a:Act} (op:Op) (r:cL N c O a):cL N c (loc op O) a:=by
 refine⟨r.defers,r.size,fun t=>?_⟩;simp only[Ab.loc]
 split
 ·exact r.rep t
 ·exact .undef _
theorem put_comm {O:Env} {x y:Option Nat} (v u:au) (h:∀ d,x=some d->y ≠ some d):(O.put x v).put y u=(O.put y u).put x v:=by
 cases x with
 | none=>rfl
 | some d=>
  cases y with
  | none=>rfl
  | some e=>
   have hne:d ≠ e:=fun he=>h d rfl (he ▸ rfl)
   funext t
   simp only[Env.put]
   by_cases h1:t=e<;>by_cases h2:t=d<;>simp_all
def ek:Op->Nat
 | .move _ | .assign _ | .pick .. | .binOp .. | .unOp .. | .convert .. | .makeFunc .. | .extract .. | .field .. | .index .. | .build ..=>0
 | .load .. | .fieldAddr .. | .indexAddr .. | .slice .. | .nilCheck _ | .call ⟨.builtin .len,_,_⟩ | .call ⟨.value _,_,_⟩=>1
 | .buildSlice _ len _=>if len=0 then 2 else 0
 | _=>2
abbrev AS:=Env × az × Nat
def fp (ops:Array Oper) (o:Oper) (O:Env):Option Bool:=
 match o.guard with
 | none=>some true
 | some (j,w)=>match guardOf ops O j with
  | .v (.bool b)=>some (b == w)
  | .v (.tuple _)=>some false
  | _=>none
def tO (v:au) (H:az) (n:Nat):au->az->Nat->Prop:=fun v1 H1 U=>v1=v/\H1=H/\U=n
section
variable (P:Program) (N:Nat) (ops:Array Oper) (κ:Op->Nat)
def km (o:Oper) (s s':AS):Prop:=
 (fp ops o s.1=some true/\∃ v,s'.1=s.1.put o.dst v/\(κ o.op=0->s'.2=s.2/\∀ H n,aO P N o (loc o.op s.1) H n (tO v H n))/\(κ o.op=1->s'.2=s.2)/\aO P N o (loc o.op s.1) s.2.1 s.2.2 (tO v s'.2.1 s'.2.2)) \/
 (fp ops o s.1=some false/\s'=(s.1.put o.dst nh,s.2))
def ot (R:AS->Prop):Nat->Array Bool->AS->Prop
 | 0,listed,s=>Region.ready .any ops listed=[]/\R s
 | fuel+1,listed,s=>(Region.ready .any ops listed=[]->R s)/\∀ i ∈ Region.ready .any ops listed,∃ o s',ops[i]?=some o/\km P N ops κ o s s'/\ot R fuel (listed.setIfInBounds i true) s'
def E3 (R:AS->Prop):List Oper->AS->Prop
 | [],s=>R s
 | o::l,s=>∃ s',km P N ops κ o s s'/\E3 R l s'
end
def lC (a b:Nat):Bool:=a == 0 || b == 0 || (a == 1 && b == 1)
section
variable {P:Program} {N:Nat} {ops:Array Oper} {κ:Op->Nat}
theorem jE {o:Oper} {O:Env} {d:Option Tmp} {v:au} (h:∀ t,d=some t->t ∉ o.looksAt ops):fp ops o (O.put d v)=fp ops o O:=by
 unfold fp;cases hg:o.guard with
 | none=>rfl
 | some gw=>
  obtain⟨j,w⟩:=gw;have:guardOf ops (O.put d v) j=guardOf ops O j:=by
   unfold guardOf;cases ht:(ops[j]?).bind (·.dst) with
   | none=>rfl
   | some t=>
    cases d with
    | none=>rfl
    | some d=>
     simp only[Env.put];rw[if_neg];intro he;subst he;exact h t rfl (by simp[Oper.looksAt,hg,ht])
  simp only[this]
theorem dp {o:Oper} {d:Option Tmp} (h:∀ t,d=some t->t ∉ o.looksAt ops):∀ t,d=some t->t ∉ tmpsOf o.op:=fun t ht hm=>by
 obtain⟨x,hx,he⟩:=List.mem_filterMap.1 hm;cases x with
 | tmp t'=>cases he;exact h _ ht (List.mem_append_left _ (List.mem_filterMap.2 ⟨.tmp _,hx,rfl⟩))
 | _=>cases he
theorem km.vF {oi oj:Oper} (hap:oi.apart ops oj=true) (hc:lC (κ oi.op) (κ oj.op)=true) {s si sij:AS} (hi:km P N ops κ oi s si) (hj:km P N ops κ oj si sij):∃ sj,km P N ops κ oj s sj/\km P N ops κ oi sj sij:=by
 obtain⟨h1,h2,h3⟩:=Oper.apart_spec hap;have lj:∀ v,loc oj.op (s.1.put oi.dst v)=loc oj.op s.1:=fun v=>gp (dp h1)
 have li:∀ v,loc oi.op (s.1.put oj.dst v)=loc oi.op s.1:=fun v=>gp (dp h3)
 have gj:∀ v,fp ops oj (s.1.put oi.dst v)=fp ops oj s.1:=fun v=>jE h1
 have gi:∀ v,fp ops oi (s.1.put oj.dst v)=fp ops oi s.1:=fun v=>jE h3
 have hcc:κ oi.op=0\/κ oj.op=0\/(κ oi.op=1/\κ oj.op=1):=by
  simp only[lC,Bool.or_eq_true,beq_iff_eq,Bool.and_eq_true] at hc;rcases hc with (h | h) | h
  ·exact .inl h
  ·exact .inr (.inl h)
  ·exact .inr (.inr h)
 obtain⟨O,H,n⟩:=s;obtain⟨ρi,Hi,ni⟩:=si;obtain⟨ρj,Hj,nj⟩:=sij;simp only at lj li gj gi;rcases hi with ⟨hgi,v,hv,hk0,hk1,hop⟩ | ⟨hgi,hs⟩
 ·simp only at hgi hv hk0 hk1 hop;subst hv;rcases hj with ⟨hgj,u,hu,hl0,hl1,hoq⟩ | ⟨hgj,hs'⟩
  ·simp only at hgj hu hl0 hl1 hoq;subst hu;rw[gj] at hgj;rw[lj] at hl0 hoq;rcases hcc with h0 | h0 | ⟨h0,h0'⟩
   ·obtain⟨he,bu⟩:=hk0 h0;cases he;refine⟨(O.put oj.dst u,Hj,nj),.inl ⟨hgj,u,rfl,hl0,hl1,hoq⟩,.inl ⟨by simpa only [gi] using hgi,v,by rw[put_comm v u h2],fun _=>⟨rfl,by simpa only [li] using bu⟩,fun _=>rfl,?_⟩⟩;simp only[li];exact bu Hj nj
   ·obtain⟨he,bu⟩:=hl0 h0;cases he;refine⟨(O.put oj.dst u,H,n),.inl ⟨hgj,u,rfl,fun _=>⟨rfl,bu⟩,fun _=>rfl,bu H n⟩,.inl ⟨by simpa only [gi] using hgi,v,by rw[put_comm v u h2],by simpa only [li] using hk0,hk1,?_⟩⟩;simp only[li];exact hop
   ·have e1:=hk1 h0;have e2:=hl1 h0';cases e1;cases e2;refine⟨(O.put oj.dst u,H,n),.inl ⟨hgj,u,rfl,hl0,hl1,hoq⟩,.inl ⟨by simpa only [gi] using hgi,v,by rw[put_comm v u h2],by simpa only [li] using hk0,hk1,?_⟩⟩;simp only[li];exact hop
  ·simp only at hgj hs';cases hs';rw[gj] at hgj;refine⟨(O.put oj.dst nh,H,n),.inr ⟨hgj,rfl⟩,.inl ⟨by simpa only [gi] using hgi,v,by rw[put_comm v nh h2],by simpa only [li] using hk0,hk1,?_⟩⟩;simp only[li];exact hop
 ·simp only at hgi hs;cases hs;rcases hj with ⟨hgj,u,hu,hl0,hl1,hoq⟩ | ⟨hgj,hs'⟩
  ·simp only at hgj hu hl0 hl1 hoq;subst hu;rw[gj] at hgj;rw[lj] at hl0 hoq;exact⟨(O.put oj.dst u,Hj,nj),.inl ⟨hgj,u,rfl,hl0,hl1,hoq⟩,.inr ⟨by simpa only [gi] using hgi,by rw[put_comm nh u h2]⟩⟩
  ·simp only at hgj hs';cases hs';rw[gj] at hgj;exact⟨(O.put oj.dst nh,H,n),.inr ⟨hgj,rfl⟩,.inr ⟨by simpa only [gi] using hgi,by rw[put_comm nh nh h2]⟩⟩
theorem ot.first {R:AS->Prop} {i:Nat} {oi:Oper} (hi:ops[i]?=some oi) (al:List Nat) (hD:∀ j oj,ops[j]?=some oj->j ∈ al->j ≠ i->∃ e ∈ oj.after,Region.binds .any e=true/\e.on ∈ al):∀ (fuel:Nat) (listed:Array Bool) (s s':AS),
  (∀ j ∈ al,listed.getD j true=false)->(∀ j oj,ops[j]?=some oj->j ≠ i->listed.getD j true=false->j ∉ al->oi.apart ops oj=true/\lC (κ oi.op) (κ oj.op)=true) ->
  i ∈ Region.ready .any ops listed->km P N ops κ oi s s'->ot P N ops κ R fuel (listed.setIfInBounds i true) s'->ot P N ops κ R (fuel+1) listed s:=by
 intro fuel
 induction fuel with
 | zero=>
  intro listed s s' _ _ hr hst H;refine⟨fun h=>(by rw[h] at hr;cases hr),fun j hj=>?_⟩
  by_cases hji:j=i
  ·subst hji;exact⟨oi,s',hi,hst,H⟩
  ·have:=ready_mono hj hji;rw[H.1] at this;cases this
 | succ fuel ih=>
  intro listed s s' hinv hfree hr hst H;refine⟨fun h=>(by rw[h] at hr;cases hr),fun j hj=>?_⟩
  by_cases hji:j=i
  ·subst hji;exact⟨oi,s',hi,hst,H⟩
  ·obtain⟨oj,s'',hoj,hstj,hrest⟩:=H.2 j (ready_mono hj hji);obtain⟨hjun,oj',hoj',bu⟩:=mem_ready.1 hj;rw[hoj] at hoj';cases hoj';have hnot:j ∉ al:=fun hd=>by
    obtain⟨e,he,hb,hed⟩:=hD j oj hoj hd hji;have h1:=bu e he hb;have h0:=hinv e.on hed;rcases Nat.lt_or_ge e.on listed.size with h' | h'
    ·simp[h'] at h0 h1;rw[h0] at h1;cases h1
    ·simp[Array.getElem?_eq_none h'] at h1
   obtain⟨hap,hco⟩:=hfree j oj hoj hji hjun hnot;obtain⟨sj,h1,h2⟩:=km.vF hap hco hst hstj;refine⟨oj,sj,hoj,h1,ih (listed.setIfInBounds j true) sj s'' (fun k hk=>?_) (fun k ok hk hki hun hno=>?_) (ready_mono hr (Ne.symm hji)) h2 ?_⟩
   ·have hjk:j ≠ k:=fun he=>hnot (he ▸ hk)
    rw[getD_set_ne true hjk];exact hinv k hk
   ·refine hfree k ok hk hki ?_ hno
    by_cases hjk:j=k
    ·subst hjk;exact hjun
    ·rw[getD_set_ne true hjk] at hun;exact hun
   ·rw[Array.setIfInBounds_comm _ _ hji];exact hrest
def behind (ops:Array Oper) (i:Nat):List Nat:=
 (List.range ops.size).foldl (fun al j=>match ops[j]? with
  | some oj=>if oj.after.any (fun e=>Region.binds .any e && al.contains e.on) then j::al else al
  | none=>al) [i]
def A9 (κ:Op->Nat) (ops:Array Oper) (listed:Array Bool) (i:Nat):Bool:=
 match ops[i]? with
 | none=>false
 | some oi=>((behind ops i).all fun j => !(listed.getD j true) && match ops[j]? with
   | none=>true
   | some oj=>j == i || oj.after.any (fun e=>Region.binds .any e && (behind ops i).contains e.on)) &&
  (List.range ops.size).all fun j=>match ops[j]? with
  | none=>true
  | some oj=>j == i || listed.getD j true || (behind ops i).contains j || (oi.apart ops oj && lC (κ oi.op) (κ oj.op))
def xA (κ:Op->Nat) (ops:Array Oper):Nat->Nat->Array Bool->Bool
 | 0,_,listed=>(Region.ready .any ops listed).isEmpty
 | fuel+1,k,listed=>(Region.ready .any ops listed).contains k && A9 κ ops listed k && xA κ ops fuel (k+1) (listed.setIfInBounds k true)
def mm (κ:Op->Nat) (ops:Array Oper):Bool:=xA κ ops ops.size 0 (Array.replicate ops.size false)
theorem nJ {listed:Array Bool} {i:Nat} {oi:Oper} (hi:ops[i]?=some oi) (h:A9 κ ops listed i=true) :
  (∀ j oj,ops[j]?=some oj->j ∈ behind ops i->j ≠ i->∃ e ∈ oj.after,Region.binds .any e=true/\e.on ∈ behind ops i)/\(∀ j ∈ behind ops i,listed.getD j true=false) /\
  ∀ j oj,ops[j]?=some oj->j ≠ i->listed.getD j true=false->j ∉ behind ops i->oi.apart ops oj=true/\lC (κ oi.op) (κ oj.op)=true:=by
 unfold A9 at h;simp only[hi,Bool.and_eq_true] at h;obtain⟨h1,h2⟩:=h;refine⟨fun j oj hj hd hji=>?_,fun j hd=>?_,fun j oj hj hji hun hno=>?_⟩
 ·have:=List.all_eq_true.1 h1 j hd;simp only[hj,Bool.and_eq_true,Bool.or_eq_true,beq_iff_eq] at this;rcases this.2 with h3 | h3
  ·exact absurd h3 hji
  ·obtain⟨e,he,hb⟩:=Array.any_eq_true'.1 h3;simp only[Bool.and_eq_true,List.contains_iff_mem] at hb;exact⟨e,he,hb.1,hb.2⟩
 ·have:=List.all_eq_true.1 h1 j hd;simp only[Bool.and_eq_true,Bool.not_eq_true'] at this;exact this.1
 ·have hlt:j<ops.size:=(Array.getElem?_eq_some_iff.1 hj).1;have:=List.all_eq_true.1 h2 j (List.mem_range.2 hlt);simp only[hj,hun,Bool.or_false,Bool.or_eq_true,beq_iff_eq,Bool.and_eq_true,List.contains_iff_mem] at this;rcases this with (h1 | h1) | h1
  ·exact absurd h1 hji
  ·exact absurd h1 hno
  ·exact h1
theorem ot.lex {R:AS->Prop}:∀ (l:List Oper) (k:Nat) (listed:Array Bool) (s:AS),(∀ j:Nat,l[j]?=ops[k+j]?)->xA κ ops l.length k listed=true->E3 P N ops κ R l s->ot P N ops κ R l.length listed s
 | [],_,_,_,_,hB,h=>⟨by simpa[xA] using hB,h⟩
 | o::l,k,listed,s,hl,hB,h=>by
  have h0:ops[k]?=some o:=by simpa using (hl 0).symm
  simp only[List.length_cons,xA,Bool.and_eq_true] at hB;obtain⟨⟨hr,hf⟩,hB'⟩:=hB;obtain⟨s',hst,hrest⟩:=h;obtain⟨f1,f2,f3⟩:=nJ h0 hf;exact ot.first h0 (behind ops k) f1 l.length listed s s' f2 f3 (by simpa using hr) hst
   (ot.lex l (k+1) _ _ (fun j=>by have:=hl (j+1);simpa[Nat.add_assoc,Nat.add_comm 1 j] using this) hB' hrest)
theorem bU {c:Ctx} {O:Env} {a:Act} (r:cL N c O a) (hN:ops.toList.all (fun o=>dM N o.dst)=true) {o:Oper} {b:Bool} (h:fp ops o O=some b):Region.wanted o (yielded ops a.tmps)=b:=by
 unfold fp at h;cases hg:o.guard with
 | none=>simp only[hg,Option.some.injEq] at h;simp[Region.wanted,hg,<- h]
 | some gw=>
  obtain⟨j,w⟩:=gw;simp only[hg] at h
  split at h
  ·rename_i b' hv
   unfold guardOf at hv
   split at hv
   ·rename_i t hj
    have ht:dM N (some t)=true:=by
     cases ho:ops[j]? with
     | none=>simp[ho] at hj
     | some o'=>
      simp only[ho,Option.bind_some] at hj;have:=List.all_eq_true.1 hN o' (by rw[<- Array.getElem?_toList] at ho;exact List.mem_of_getElem? ho);rw[hj] at this;exact this
    have hy:=nN r hj ht hv;simp only[Option.some.injEq] at h;subst h;simp only[Region.wanted,hg,hy];cases b'<;>cases w<;>rfl
   ·cases hv
  ·rename_i xs hv
   unfold guardOf at hv
   split at hv
   ·rename_i t hj
    have ht:dM N (some t)=true:=by
     cases ho:ops[j]? with
     | none=>simp[ho] at hj
     | some o'=>
      simp only[ho,Option.bind_some] at hj;have:=List.all_eq_true.1 hN o' (by rw[<- Array.getElem?_toList] at ho;exact List.mem_of_getElem? ho);rw[hj] at this;exact this
    have hy:=o8 r hj ht hv;simp only[Option.some.injEq] at h;subst h;simp only[Region.wanted,hg,hy]
    rfl
   ·cases hv
  ·cases h
theorem ot.sound {R:AS->Prop} (hN:ops.toList.all (fun o=>dM N o.dst)=true) {Q:Exit->Act->World->Prop} {c0:Ctx} (hQ:∀ a c O,bh c0 c->Good c->cL N c O a->R (O,c.H,c.n)->Q .normal a c.w) :
  ∀ (fuel:Nat) (listed:Array Bool) (O:Env) (c:Ctx) (a:Act),bh c0 c->Good c->cL N c O a->ot P N ops κ R fuel listed (O,c.H,c.n)->wpAny P .any ops Q fuel listed a c.w
 | 0,_,_,_,_,hk,g,r,h=>⟨h.1,hQ _ _ _ hk g r h.2⟩
 | fuel+1,listed,O,c,a,hk,g,r,h=>by
  refine⟨fun h0=>hQ _ _ _ hk g r (h.1 h0),fun i hi=>?_⟩;obtain⟨o,s',ho,hst,hrest⟩:=h.2 i hi;obtain⟨ρ',H',n'⟩:=s';have hd:dM N o.dst=true:=List.all_eq_true.1 hN o (by rw[<- Array.getElem?_toList] at ho;exact List.mem_of_getElem? ho);unfold wpOp;simp only[ho];rcases hst with ⟨hg,v,hv,_,_,hop⟩ | ⟨hg,hs⟩
  ·rw[if_pos (bU r hN hg)];simp only at hv hop;subst hv;refine .inl (hop c a rfl rfl g (r.loc o.op) _ _ ?_);rintro v1 x c' ⟨rfl,hH,hn⟩ hrep hgood hkeep;exact ot.sound hN hQ fuel _ _ c' _ (hk.trans hkeep) hgood ((r.keeps hkeep).put hd hrep) (by rw[hH,hn];exact hrest)
  ·rw[if_neg (by rw[bU r hN hg];simp)];cases hs;exact ot.sound hN hQ fuel _ _ c _ hk g (r.put hd (.v _)) hrest
end
section
variable {P:Program} {f:FuncId} {N:Nat} {k:List Item} {O:Env} {H:az} {n:Nat} {Q:au->az->Nat->Prop} {κ:Op->Nat}
theorem J.draw {id:Nat} {ops:List Oper} (hm:P.follows .mixedOrders=true) (hN:ops.all (fun o=>dM N o.dst)=true) (hB:mm κ ops.toArray=true)
  (h:E3 P N ops.toArray κ (fun s=>J P f N k s.1 s.2.1 s.2.2 Q) ops (O,H,n)):J P f N (.code (.region id ops.toArray true)::k) O H n Q:=by
 intro c a hH hn g r b cs hf hk;subst hH;subst hn;obtain⟨d1,d2⟩:=iB g;have hany:=ot.lex (P:=P) (N:=N) (κ:=κ) (ops:=ops.toArray) ops 0 (Array.replicate ops.toArray.size false) (O,c.H,c.n) (by simp) (by simpa[mm] using hB) h;have hw:(Code.region id ops.toArray true).wp P (fun e a' w'=>e = .normal/\∃ c' ρ',c'.w=w'/\bh c c'/\Good c'/\cL N c' ρ' a'/\J P f N k ρ' c'.H c'.n Q) a c.w:=by
  refine wp_region_any hm ?_;have:=ot.sound (P:=P) (N:=N) (κ:=κ) (ops:=ops.toArray) (c0:=c) (by simpa using hN) (Q:=fun e a' w'=>e = .normal/\∃ c' ρ',c'.w=w'/\bh c c'/\Good c'/\cL N c' ρ' a'/\J P f N k ρ' c'.H c'.n Q)
   (R:=fun s=>J P f N k s.1 s.2.1 s.2.2 Q) (fun a' c' ρ' V hg' hr' hR=>⟨rfl,c',ρ',rfl,V,hg',hr',hR⟩) ops.length (Array.replicate ops.toArray.size false) O { c with w:={ c.w with drawn:=c.w.drawn+1 } } a d1 d2 (r.keeps d1) hany
  simpa using this
 obtain⟨e,a',w',⟨rfl,c',ρ',rfl,V,hg',hr',hR⟩,harr⟩:=hw b k cs;obtain⟨x,v,c'',fr,q,hr,hg,hke,hst,rest⟩:=hR c' a' rfl rfl hg' hr' b cs hf hk;exact⟨x,v,c'',fr,q,hr,hg,V.trans hke,Steps.trans harr hst,rest⟩
end
section
variable {P:Program} {N:Nat} {Ty:Types} {O ρ':Env} {H:az} {n:Nat} {d:Option Tmp}
theorem aZ {op:Op}:a6 Ty d op (loc op O) H n=a6 Ty d op O H n:=by
 have h:∀ x,x ∈ op.operands->(loc op O).ev x=O.ev x:=fun x hx=>fy hx
 generalize loc op O=ρ' at h;cases op with
 | build t ps=>
  have:ps.toList.map (fun p=>(p.1,ρ'.ev p.2))=ps.toList.map (fun p=>(p.1,O.ev p.2)):=List.map_congr_left fun p hp=>by rw[h p.2 (by simp[Op.operands];exact⟨p.1,by simpa using hp⟩)]
  simp only[a6,this]
 | buildSlice t len ps=>
  have:ps.toList.map (fun p=>(p.1,ρ'.ev p.2))=ps.toList.map (fun p=>(p.1,O.ev p.2)):=List.map_congr_left fun p hp=>by rw[h p.2 (by simp[Op.operands];exact⟨p.1,by simpa using hp⟩)]
  simp only[a6,this]
 | makeFunc f first cap=>
  have h1:first.toList.map ρ'.ev=first.toList.map O.ev:=List.map_congr_left fun p hp=>h p (by simp[Op.operands];exact .inl (by simpa using hp))
  have h2:cap.toList.map ρ'.ev=cap.toList.map O.ev:=List.map_congr_left fun p hp=>h p (by simp[Op.operands];exact .inr (by simpa using hp))
  simp only[a6,h1,h2]
 | slice t x lo hi mx=>
  cases lo<;>cases hi<;>cases mx<;>simp_all [a6,Op.operands]
 | call c=>
  obtain⟨cal,args,ats⟩:=c;cases cal with
  | builtin b=>
   have ha:∀ x,x ∈ args.toList->ρ'.ev x=O.ev x:=fun x hx=>h x (by simp[Op.operands,Call.operands];simpa using hx)
   cases b<;>try rfl
   case append=>
    obtain⟨l⟩:=args;obtain⟨m⟩:=ats
    match l,m with
    | [s,x],[t,t']=>
     simp only[a6];rw[ha s (by simp),ha x (by simp)]
    | [],_ | [_],_ | _::_::_::_,_ | [_,_],[] | [_,_],[_] | [_,_],_::_::_::_=>rfl
   case len=>
    obtain⟨l⟩:=args;obtain⟨m⟩:=ats
    match l,m with
    | [x],[t]=>
     simp only[a6];rw[ha x (by simp)]
    | [],_ | _::_::_,_ | [_],[] | [_],_::_::_=>rfl
  | _=>rfl
 | _=>first | rfl | (simp_all [a6,Op.operands])
end
end Go.Ab
namespace Go.Ab
section
variable {Ty:Types} {O:Env} {H H':az} {n n':Nat} {d:Option Tmp} {v:au}
theorem cu {x:Option au} (h:x.map (fun y=>(y,H,n))=some (v,H',n')):x=some v/\H'=H/\n'=n:=by
 cases x with
 | none=>cases h
 | some y=>cases h;exact⟨rfl,rfl,rfl⟩
theorem rU {op:Op} (hk:ek op=0) (h:a6 Ty d op O H n=some (v,H',n')):H'=H/\n'=n/\∀ H2 n2,a6 Ty d op O H2 n2=some (v,H2,n2):=by
 cases op with
 | move x=>cases h;exact⟨rfl,rfl,fun _ _=>rfl⟩
 | assign x=>cases h;exact⟨rfl,rfl,fun _ _=>rfl⟩
 | pick c a b=>
  simp only[a6] at h ⊢
  split at h
  ·cases h;exact⟨rfl,rfl,fun _ _=>rfl⟩
  ·cases h
 | binOp op t x y t'=>obtain⟨h1,h2,h3⟩:=cu h;exact⟨h2,h3,fun _ _=>by simp only[a6,h1,Option.map_some]⟩
 | unOp op t x=>obtain⟨h1,h2,h3⟩:=cu h;exact⟨h2,h3,fun _ _=>by simp only[a6,h1,Option.map_some]⟩
 | convert s t x=>obtain⟨h1,h2,h3⟩:=cu h;exact⟨h2,h3,fun _ _=>by simp only[a6,h1,Option.map_some]⟩
 | makeFunc f a b=>cases h;exact⟨rfl,rfl,fun _ _=>rfl⟩
 | extract t i=>
  simp only[a6] at h ⊢
  split at h
  ·obtain⟨h1,h2,h3⟩:=cu h;exact⟨h2,h3,fun _ _=>by simp only[h1,Option.map_some]⟩
  ·cases h
 | field t x f=>
  simp only[a6] at h ⊢
  split at h
  ·split at h
   ·obtain⟨h1,h2,h3⟩:=cu h;exact⟨h2,h3,fun _ _=>by simp only[h1,Option.map_some]⟩
   ·cases h
  ·cases h
 | index t x i=>obtain⟨h1,h2,h3⟩:=cu h;exact⟨h2,h3,fun _ _=>by simp only[a6,h1,Option.map_some]⟩
 | build t ps=>obtain⟨h1,h2,h3⟩:=cu h;exact⟨h2,h3,fun _ _=>by simp only[a6,h1,Option.map_some]⟩
 | buildSlice t len ps=>
  simp only[ek] at hk
  split at hk
  ·cases hk
  ·rename_i h0
   simp only[a6] at h ⊢
   split at h
   ·rw[if_neg h0] at h
    split at h
    ·rename_i hc
     cases hf:gP (fun k=>some (k * _,_)) _ (ps.toList.map fun p=>(p.1,O.ev p.2)) with
     | none=>rw[hf] at h;cases h
     | some cs=>
      rw[hf] at h;cases h;refine⟨rfl,rfl,fun H2 n2=>?_⟩;rw[if_neg h0,if_pos hc]
      rfl
    ·cases h
   ·cases h
 | call c=>
  obtain⟨cal,args,ats⟩:=c;cases cal with
  | builtin b=>cases b<;>simp[ek] at hk
  | _=>simp[ek] at hk
 | _=>simp[ek] at hk
theorem sd {op:Op} (hk:ek op=1) (h:a6 Ty d op O H n=some (v,H',n')):H'=H/\n'=n:=by
 cases op with
 | load t a=>
  simp only[a6] at h
  split at h
  ·split at h
   ·cases h;exact⟨rfl,rfl⟩
   ·cases h
  ·cases h
 | fieldAddr t a f=>
  simp only[a6] at h
  split at h
  ·split at h
   ·split at h
    ·cases h
    ·cases h;exact⟨rfl,rfl⟩
   ·cases h
  ·cases h
 | indexAddr t a i=>exact (cu h).2
 | slice t x lo hi mx=>
  cases mx with
  | none=>exact (cu h).2
  | some m=>cases h
 | nilCheck x=>
  simp only[a6] at h
  split at h
  ·cases h;exact⟨rfl,rfl⟩
  ·cases h
 | call c=>
  obtain⟨cal,args,ats⟩:=c;cases cal with
  | builtin b=>
   cases b<;>simp[ek] at hk;simp only[a6] at h
   split at h
   ·exact (cu h).2
   ·cases h
  | value g=>cases h
  | invoke r m=>simp[ek] at hk
 | buildSlice t len ps=>simp only[ek] at hk;split at hk<;>cases hk
 | _=>simp[ek] at hk
end
def Fq (κ:Op->Nat):Prop:=∀ op,(κ op=0->ek op=0)/\(κ op=1->ek op=1)
theorem aF:Fq ek:=fun _=>⟨id,id⟩
section
variable (P:Program) (f:FuncId) (N:Nat) (k:List Item) (Q:au->az->Nat->Prop) (Ty:Types) (κ:Op->Nat) (ops:Array Oper)
def bw (l:List Oper) (O:Env) (H:az) (n:Nat):Prop:=E3 P N ops κ (fun s=>J P f N k s.1 s.2.1 s.2.2 Q) l (O,H,n)
mutual
def en:List Oper->Env->az->Nat->Prop
 | [],O,H,n=>J P f N k O H n Q
 | o::l,O,H,n=>
  match o.guard with
  | none=>nb (a6 Ty o.dst o.op O H n) o l O H n
  | some (j,want)=>match guardOf ops O j with
   | .v (.bool b)=>iV b want o l O H n
   | .v (.tuple _)=>en l (O.put o.dst nh) H n
   | _=>bw P f N k Q κ ops (o::l) O H n
 termination_by l=>(l.length,0)
def nb:Option (au × az × Nat)->Oper->List Oper->Env->az->Nat->Prop
 | some (v,H',n'),o,l,O,_,_=>en l (O.put o.dst v) H' n'
 | none,o,l,O,H,n=>bw P f N k Q κ ops ({ o with guard:=none }::l) O H n
 termination_by _ _ l=>(l.length,1)
def iV (b want:Bool) (o:Oper) (l:List Oper) (O:Env) (H:az) (n:Nat):Prop:=
 if b=want then nb (a6 Ty o.dst o.op O H n) o l O H n else en l (O.put o.dst nh) H n
 termination_by (l.length,2)
end
end
section
variable {P:Program} {f:FuncId} {N:Nat} {k:List Item} {Q:au->az->Nat->Prop} {Ty:Types} {κ:Op->Nat} {ops:Array Oper} {o:Oper} {l:List Oper} {O:Env} {H:az} {n:Nat}
@[simp] theorem evalD_nil : en P f N k Q Ty κ ops [] O H n = J P f N k O H n Q := by rw [en]
@[simp] theorem evalD_op {d : Option Tmp} {op : Op} {ty : TypeId} {pos : String} {af : Array Edge} : en P f N k Q Ty κ ops (⟨d, op, ty, pos, af, none⟩ :: l) O H n = nb P f N k Q Ty κ ops (a6 Ty d op O H n) ⟨d, op, ty, pos, af, none⟩ l O H n := by rw [en]
@[simp] theorem FO {d : Option Tmp} {op : Op} {ty : TypeId} {pos : String} {af : Array Edge} {j : Nat} {want : Bool} : en P f N k Q Ty κ ops (⟨d, op, ty, pos, af, some (j, want)⟩ :: l) O H n = (match guardOf ops O j with
   | .v (.bool b)=>iV P f N k Q Ty κ ops b want ⟨d,op,ty,pos,af,some (j,want)⟩ l O H n
   | .v (.tuple _)=>en P f N k Q Ty κ ops l (O.put d nh) H n
   | _=>bw P f N k Q κ ops (⟨d,op,ty,pos,af,some (j,want)⟩::l) O H n):=by rw[en]
@[simp] theorem nG {v : au} {H' : az} {n' : Nat} : nb P f N k Q Ty κ ops (some (v, H', n')) o l O H n = en P f N k Q Ty κ ops l (O.put o.dst v) H' n' := by rw [nb]
@[simp] theorem qN : nb P f N k Q Ty κ ops none o l O H n = bw P f N k Q κ ops ({ o with guard := none } :: l) O H n := by rw [nb]
@[simp] theorem guardD_tt : iV P f N k Q Ty κ ops true true o l O H n = nb P f N k Q Ty κ ops (a6 Ty o.dst o.op O H n) o l O H n := by rw [iV, if_pos rfl]
@[simp] theorem guardD_ff : iV P f N k Q Ty κ ops false false o l O H n = nb P f N k Q Ty κ ops (a6 Ty o.dst o.op O H n) o l O H n := by rw [iV, if_pos rfl]
@[simp] theorem guardD_tf : iV P f N k Q Ty κ ops true false o l O H n = en P f N k Q Ty κ ops l (O.put o.dst nh) H n := by rw [iV, if_neg (by simp)]
@[simp] theorem guardD_ft : iV P f N k Q Ty κ ops false true o l O H n = en P f N k Q Ty κ ops l (O.put o.dst nh) H n := by rw [iV, if_neg (by simp)]
theorem km.qK (hT:aX P Ty) (hκ:Fq κ) {v:au} {H':az} {n':Nat} (hg:fp ops o O=some true) (hs:a6 Ty o.dst o.op O H n=some (v,H',n')):km P N ops κ o (O,H,n) (O.put o.dst v,H',n'):=by
 have hl:a6 Ty o.dst o.op (loc o.op O) H n=some (v,H',n'):=by rw[aZ];exact hs
 refine .inl ⟨hg,v,rfl,fun h0=>?_,fun h1=>?_,bb hT hl⟩
 ·obtain⟨e1,e2,bu⟩:=rU ((hκ o.op).1 h0) hl;subst e1;subst e2;exact⟨rfl,fun H2 n2=>bb hT (bu H2 n2)⟩
 ·obtain⟨e1,e2⟩:=sd ((hκ o.op).2 h1) hl;subst e1;subst e2
  rfl
theorem bw.ve {j:Nat} {want b:Bool} (hg:o.guard=some (j,want)) (hv:guardOf ops O j = .v (.bool b)) (hb:b=want) (h:bw P f N k Q κ ops ({ o with guard:=none }::l) O H n):bw P f N k Q κ ops (o::l) O H n:=by
 obtain⟨s',hst,hrest⟩:=h;refine⟨s',?_,hrest⟩;rcases hst with ⟨_,v,hv',h0,h1,hop⟩ | ⟨hgf,_⟩
 ·exact .inl ⟨by simp only[fp,hg,hv,hb];cases want<;>rfl,v,hv',h0,h1,hop⟩
 ·simp[fp] at hgf
theorem eo (hT:aX P Ty) (hκ:Fq κ):∀ (l:List Oper) (O:Env) (H:az) (n:Nat),en P f N k Q Ty κ ops l O H n->bw P f N k Q κ ops l O H n
 | [],O,H,n,h=>by
  rw[en] at h;exact h
 | o::l,O,H,n,h=>by
  rw[en] at h
  split at h
  ·rename_i hg
   cases hs:a6 Ty o.dst o.op O H n with
   | some r=>
    obtain⟨v,H',n'⟩:=r;rw[hs,nG] at h;exact⟨_,km.qK hT hκ (by simp[fp,hg]) hs,eo hT hκ l _ _ _ h⟩
   | none=>
    rw[hs,qN] at h;obtain⟨d,op,ty,pos,af,gu⟩:=o;simp only at hg;subst hg;exact h
  ·rename_i j want hg
   split at h
   ·rename_i b hv
    rw[iV] at h
    split at h
    ·rename_i hb
     cases hs:a6 Ty o.dst o.op O H n with
     | some r=>
      obtain⟨v,H',n'⟩:=r;rw[hs,nG] at h;exact⟨_,km.qK hT hκ (by simp only[fp,hg,hv,hb];cases want<;>rfl) hs,eo hT hκ l _ _ _ h⟩
     | none=>
      rw[hs,qN] at h;exact bw.ve hg hv hb h
    ·rename_i hb
     refine⟨_,.inr ⟨?_,rfl⟩,eo hT hκ l _ _ _ h⟩;simp only[fp,hg,hv];cases b<;>cases want<;>simp_all
   ·rename_i xs hv
    exact⟨_,.inr ⟨by simp only[fp,hg,hv],rfl⟩,eo hT hκ l _ _ _ h⟩
   ·exact h
theorem bw.op (hT:aX P Ty) (hκ:Fq κ) {v:au} {H':az} {n':Nat} (hg:o.guard=none) (h0:κ o.op ≠ 0) (h1:κ o.op=1->H'=H/\n'=n) (hop:aO P N o (loc o.op O) H n (tO v H' n'))
  (h:en P f N k Q Ty κ ops l (O.put o.dst v) H' n'):bw P f N k Q κ ops (o::l) O H n:=
 ⟨(O.put o.dst v,H',n'),.inl ⟨by simp[fp,hg],v,rfl,fun h=>absurd h h0,fun h=>by obtain⟨e1,e2⟩:=h1 h;rw[e1,e2],hop⟩,eo hT hκ l _ _ _ h⟩
theorem J.ed (hT:aX P Ty) (hκ:Fq κ) {id:Nat} {ops:List Oper} {y:Code} (hm:P.follows .mixedOrders=true) (hN:ops.all (fun o=>dM N o.dst)=true) (hB:mm κ ops.toArray=true)
  (h:∀ k':List Item,(∀ O H n,J P f N (.code y::k) O H n Q->J P f N k' O H n Q)->en P f N k' Q Ty κ ops.toArray ops O H n):J P f N (.code (.seq (.region id ops.toArray true) y)::k) O H n Q:=
 J.seq (J.draw hm hN hB (eo hT hκ ops _ _ _ (h (.code y::k) fun _ _ _ h=>h)))
theorem J.Ag (hT:aX P Ty) (hκ:Fq κ) {id:Nat} {ops:List Oper} (hm:P.follows .mixedOrders=true) (hN:ops.all (fun o=>dM N o.dst)=true) (hB:mm κ ops.toArray=true)
  (h:∀ k':List Item,(∀ O H n,J P f N k O H n Q->J P f N k' O H n Q)->en P f N k' Q Ty κ ops.toArray ops O H n):J P f N (.code (.region id ops.toArray true)::k) O H n Q:=
 J.draw hm hN hB (eo hT hκ ops _ _ _ (h k fun _ _ _ h=>h))
theorem aO.C7 {d:Option Tmp} {g:Operand} {args:Array Operand} {ats:Array TypeId} {ty:TypeId} {pos:String} {af:Array Edge} {gu:Option (Nat × Bool)} {v:au}
  {f:FuncId} {ct:List au} (hg:O.ev g = .fn (.func f) [] []) (cK:aW P f) (ha:dw H n (args.toList.map O.ev) ct) (h:aB P f ct (fun r=>r=v)) :
  aO P N ⟨d,.call ⟨.value g,args,ats⟩,ty,pos,af,gu⟩ (loc (.call ⟨.value g,args,ats⟩) O) H n (tO v H n):=by
 have h1:(loc (.call ⟨.value g,args,ats⟩) O).ev g=O.ev g:=fy (by simp[Op.operands,Call.operands]);have h2:args.toList.map (loc (.call ⟨.value g,args,ats⟩) O).ev=args.toList.map O.ev:=List.map_congr_left fun x hx=>fy (by simp[Op.operands,Call.operands];exact .inr (by simpa using hx))
 exact aO.AE (by rw[h1];exact hg) cK (by rw[h2];exact ha) h
theorem bE.call (hT:aX P Ty) {d:Option Tmp} {g:Operand} {args:Array Operand} {ats:Array TypeId} {ty:TypeId} {pos:String} {af:Array Edge} {R:au->Prop} {f':FuncId} {ct:List au} {ops:List Oper}
  (hN:ops.all (fun o=>dM N o.dst)=true) (hl:(⟨d,.call ⟨.value g,args,ats⟩,ty,pos,af,none⟩::l:List Oper).all (fun o=>dM N o.dst)=true) (hg:O.ev g = .fn (.func f') [] []) (cK:aW P f') (ha:dw H n (args.toList.map O.ev) ct) (h:aB P f' ct R)
  (hk:∀ v,R v->bR P f N k Q Ty ops.toArray l (O.put d v) H n):bE P f N k Q ops.toArray (⟨d,.call ⟨.value g,args,ats⟩,ty,pos,af,none⟩::l) O H n:=
 bE.op hT hN hl rfl (aO.AE hg cK ha h) fun v H' n' ⟨hR,hH,hn⟩=>by rw[hH,hn];exact hk v hR
theorem bw.call (hT:aX P Ty) (hκ:Fq κ) {d:Option Tmp} {g:Operand} {args:Array Operand} {ats:Array TypeId} {ty:TypeId} {pos:String} {af:Array Edge} {v:au} {f':FuncId} {ct:List au}
  (h0:κ (.call ⟨.value g,args,ats⟩) ≠ 0) (hg:O.ev g = .fn (.func f') [] []) (cK:aW P f') (ha:dw H n (args.toList.map O.ev) ct) (h:aB P f' ct (fun r=>r=v))
  (hk:en P f N k Q Ty κ ops l (O.put d v) H n):bw P f N k Q κ ops (⟨d,.call ⟨.value g,args,ats⟩,ty,pos,af,none⟩::l) O H n:=
 bw.op hT hκ rfl h0 (fun _=>⟨rfl,rfl⟩) (aO.C7 hg cK ha h) hk
end
end Go.Ab
namespace Go.Ab
theorem oV {e:List au} (h:∀ a ∈ e,flat a=true):e.map old=e:=by
 conv=>rhs;rw[<- List.map_id e]
 refine List.map_congr_left fun a ha=>?_
 have:=h a ha;cases a<;>simp[flat] at this
 rfl
theorem dg {els:List (List au)} (h:∀ e ∈ els,∀ a ∈ e,flat a=true):els.map (fun e=>e.map old)=els:=by
 conv=>rhs;rw[<- List.map_id els]
 exact List.map_congr_left fun e he=>oV (h e he)
section
variable {H:az} {n:Nat}
theorem aM.qZ {id:Id} {g sz:Nat} {els:List (List au)} (hl:live H id g=some ⟨sz,els⟩) (h:∀ e ∈ els,∀ a ∈ e,flat a=true):aM H n (.arr id g 0 g) (.list false els):=by
 obtain⟨_,l2⟩:=dd hl;simp only at l2;have:=aM.arr (n:=n) (off:=0) (len:=g) hl fun e he a ha=>je.flat (h e he a ha)
 have e1:((Ob.mk sz els).els.drop 0).take g=els:=by simp[<- l2]
 rw[e1,dg h] at this;exact this
theorem aM.listF {fr:Bool} {els:List (List au)} (h:∀ e ∈ els,∀ a ∈ e,flat a=true):aM H n (.list fr els) (.list false els):=by
 refine aM.tu (.list _ _ fun e he a ha=>je.flat (h e he a ha)) ?_;rw[fE,dg h]
theorem aM.aggF {cs:List au} (h:∀ a ∈ cs,flat a=true):aM H n (.agg cs) (.agg cs):=
 aM.tu (.agg _ fun a ha=>je.flat (h a ha)) (by rw[qB,oV h])
end
section
variable {P:Program} {f:FuncId} {N:Nat} {k:List Item} {Q:au->az->Nat->Prop} {Ty:Types} {l:List Oper} {O:Env} {H:az} {n:Nat}
theorem bE.cd (hT:aX P Ty) {d:Option Tmp} {g:Operand} {args:Array Operand} {ats:Array TypeId} {ty:TypeId} {pos:String} {af:Array Edge} {R:au->Prop} {f':FuncId} {as1 ct:List au} {ops:List Oper}
  (h:aB P f' ct R) (cK:aW P f') (ha:dw H n as1 ct)
  (hN:ops.all (fun o=>dM N o.dst)=true) (hl:(⟨d,.call ⟨.value g,args,ats⟩,ty,pos,af,none⟩::l:List Oper).all (fun o=>dM N o.dst)=true) (hg:O.ev g = .fn (.func f') [] []) (has:args.toList.map O.ev=as1)
  (hk:∀ v,R v->bR P f N k Q Ty ops.toArray l (O.put d v) H n):bE P f N k Q ops.toArray (⟨d,.call ⟨.value g,args,ats⟩,ty,pos,af,none⟩::l) O H n:=
 bE.call hT hN hl hg cK (has ▸ ha) h hk
theorem bw.cd (hT:aX P Ty) {κ:Op->Nat} (hκ:Fq κ) {d:Option Tmp} {g:Operand} {args:Array Operand} {ats:Array TypeId} {ty:TypeId} {pos:String} {af:Array Edge} {v:au} {f':FuncId} {as1 ct:List au} {ops:Array Oper}
  (h:aB P f' ct (fun r=>r=v)) (cK:aW P f') (ha:dw H n as1 ct) (h0:κ (.call ⟨.value g,args,ats⟩) ≠ 0) (hg:O.ev g = .fn (.func f') [] []) (has:args.toList.map O.ev=as1)
  (hk:en P f N k Q Ty κ ops l (O.put d v) H n):bw P f N k Q κ ops (⟨d,.call ⟨.value g,args,ats⟩,ty,pos,af,none⟩::l) O H n:=
 bw.call hT hκ h0 hg cK (has ▸ ha) h hk
end
@[simp] theorem bI.v_iff (x : Value) : bI (.v x) ↔ True := ⟨fun _ => trivial, fun _ => .v x⟩
@[simp] theorem je.v_iff (x : Value) : je (.v x) ↔ True := ⟨fun _ => trivial, fun _ => .v x⟩
@[simp] theorem flat_v (x : Value) : flat (.v x) = true := rfl
theorem bI.rI (els:List (List au)):bI (.list true els)↔∀ e ∈ els,∀ a ∈ e,bI a:=⟨fun h=>by cases h;assumption,fun h=>.list els h⟩
theorem bI.u6 (cs:List au):bI (.agg cs)↔∀ a ∈ cs,bI a:=⟨fun h=>by cases h;assumption,fun h=>.agg cs h⟩
theorem bI.EX (cs:List au):bI (.tup cs)↔∀ a ∈ cs,bI a:=⟨fun h=>by cases h;assumption,fun h=>.tup cs h⟩
attribute [simp] bI.rI bI.u6 bI.EX
theorem je.rI (fr:Bool) (els:List (List au)):je (.list fr els)↔∀ e ∈ els,∀ a ∈ e,je a:=⟨fun h=>by cases h;assumption,fun h=>.list fr els h⟩
theorem je.u6 (cs:List au):je (.agg cs)↔∀ a ∈ cs,je a:=⟨fun h=>by cases h;assumption,fun h=>.agg cs h⟩
attribute [simp] je.rI je.u6
@[simp] theorem Fo (a b : Array UInt8) : (ByteArray.mk a) ++ (ByteArray.mk b) = ByteArray.mk (a ++ b) := by
 apply ByteArray.ext;simp
@[simp] theorem bytes_size (a : Array UInt8) : (ByteArray.mk a).size = a.size := rfl
@[simp] theorem bytes_list (l : Array UInt8) : (ByteArray.mk l).toList = l.toList := by rw [ByteArray.toList_eq]
theorem aW.of {P : Program} {f : FuncId} {fn : Func} {body : Code} (h : P.funcs[f]? = some fn) (hn : (fn.name == "runtime.NumGoroutine") = false) (hb : fn.body = some body) : aW P f := ⟨fn, body, h, hn, hb⟩
attribute [simp] wrap64
def part {α:Type} (f:α->List au) (z:List au) (p:List α) (k:Nat):List (List au):=(p.take k).map f++List.replicate (p.length - k) z
section
variable {α:Type} {f:α->List au} {z:List au} {p:List α} {k:Nat}
theorem ka:part f z p 0=List.replicate p.length z:=by simp[part]
theorem gG (hk:k<=p.length):(part f z p k).length=p.length:=by simp[part];omega
theorem fm (hk:k<p.length):(part f z p k)[k]?=some z:=by
 unfold part;rw[List.getElem?_append_right (by simp;omega)];rw[List.getElem?_replicate];simp;omega
theorem jX (hk:k<p.length) (h:k<(part f z p k).length):(part f z p k)[k]=z:=by
 have:=fm (f:=f) (z:=z) hk;rw[List.getElem?_eq_getElem h] at this;exact Option.some.inj this
theorem mn (hk:k<p.length):(part f z p k).set k (f p[k])=part f z p (k+1):=by
 unfold part;rw[List.set_append_right _ _ (by simp;omega),List.take_succ_eq_append_getElem hk,List.map_append,List.append_assoc]
 congr 1
 have h1:p.length - k=(p.length - (k+1))+1:=by omega
 have h2:k - (List.map f (p.take k)).length=0:=by simp;omega
 rw[h1,h2,List.replicate_succ]
 rfl
theorem ma:part f z p p.length=p.map f:=by simp[part]
end
section
variable {P:Program} {N:Nat} {fn:Func} {O:Env} {H:az} {n:Nat} {Ty:Types}
theorem aN.cell (hT:aX P Ty) {t:Tmp} {ty:TypeId} (h:fn.results=#[.cell t ty]) {i:TI} {cs:List au} {v:au} (hi:Ty ty=some i) (hv:cW H (O t)=some cs) (hl:lQ i cs=some v):aN P N fn O H n v:=by
 intro c a hH hn g r;subst hH;obtain⟨b,off,hx,hview⟩:=mG g (r.rep t) hv;obtain⟨y,hrun,hrep⟩:=pV (hT ty i hi) hview hl;rw[Array.getD_eq_getD_getElem?] at hx;exact⟨y,by simp[results,h,hx,hrun,asAddr],hrep⟩
end
end Go.Ab
namespace Go.Ab
def dV (k:Nat) (id:Id):Id:=(id.1+k,id.2)
def lq (k:Nat):au->au
 | .agg cs=>.agg (shL k cs)
 | .tup cs=>.tup (shL k cs)
 | .list fr els=>.list fr (shLL k els)
 | .arr id g off len=>.arr (dV k id) g off len
 | .ptr id g idx off=>.ptr (dV k id) g idx off
 | x=>x
 where
 shL (k:Nat):List au->List au
  | []=>[]
  | a::l=>lq k a::shL k l
 shLL (k:Nat):List (List au)->List (List au)
  | []=>[]
  | e::l=>shL k e::shLL k l
theorem An (k:Nat) (l:List au):lq.shL k l=l.map (lq k):=by
 induction l with
 | nil=>rfl
 | cons a l ih=>simp[lq.shL,ih]
theorem EP (k:Nat) (l:List (List au)):lq.shLL k l=l.map (fun e=>e.map (lq k)):=by
 induction l with
 | nil=>rfl
 | cons a l ih=>simp[lq.shLL,ih,An]
theorem En (k:Nat) (x:Value):lq k (.v x) = .v x:=by simp[lq]
theorem vl (k:Nat) (cs:List au):lq k (.agg cs) = .agg (cs.map (lq k)):=by simp[lq,An]
theorem u3 (k:Nat) (cs:List au):lq k (.tup cs) = .tup (cs.map (lq k)):=by simp[lq,An]
theorem wX (k:Nat) (fr:Bool) (els:List (List au)):lq k (.list fr els) = .list fr (els.map fun e=>e.map (lq k)):=by simp[lq,EP]
theorem A5 (k:Nat) (id:Id) (g off len:Nat):lq k (.arr id g off len) = .arr (dV k id) g off len:=by simp[lq]
inductive Mv (K:Id->Prop):au->Prop
 | v (x:Value):Mv K (.v x)
 | agg (cs:List au) (h:∀ a ∈ cs,Mv K a):Mv K (.agg cs)
 | tup (cs:List au) (h:∀ a ∈ cs,Mv K a):Mv K (.tup cs)
 | list (els:List (List au)) (h:∀ e ∈ els,∀ a ∈ e,Mv K a):Mv K (.list true els)
 | arr (id:Id) (g off len:Nat) (h:K id):Mv K (.arr id g off len)
 | ptr (id:Id) (g idx off:Nat) (h:K id):Mv K (.ptr id g idx off)
def zP (k:Nat) (o:Ob):Ob:=⟨o.size,o.els.map fun e=>e.map (lq k)⟩
def merge (n:Nat) (H H':az) (K:Id->Bool):az:=fun id=>if id.1<n then H id else if K (id.1 - n,id.2) then (H' (id.1 - n,id.2)).map (zP n) else none
theorem merge_lt {n:Nat} {H H':az} {K:Id->Bool} {id:Id} (h:id.1<n):merge n H H' K id=H id:=by simp[merge,h]
theorem xh {n:Nat} {H H':az} {K:Id->Bool} {id:Id} (h:K id=true):merge n H H' K (dV n id)=(H' id).map (zP n):=by
 have h1:¬ (dV n id).1<n:=by simp[dV]
 unfold merge;rw[if_neg h1];simp[dV,h]
theorem bF.sh {c1 c2:Ctx} {k:Nat} {K:Id->Prop} (hw:c2.w=c1.w) (hB:c2.B<=c1.B) (hmu:∀ b,c1.B<=b->c2.mu b->c1.mu b) (hn:c1.n+k<=c2.n)
  (hobj:∀ id,K id->c2.β (dV k id)=c1.β id/\∀ o',c2.H (dV k id)=some o'->∃ o,c1.H id=some o/\o.size=o'.size/\o.els.length=o'.els.length) {a:au} {x:Value} (r:bF c1 a x) :
  Mv K a->bF c2 (lq k a) x:=by
 induction r with
 | undef=>intro h;cases h
 | v x=>intro _;rw[En];exact .v x
 | agg cs vs hl _ ih=>
  intro h;cases h with
  | agg _ h=>
  rw[vl];refine .agg _ vs (by simpa using hl) fun i a x ha hx=>?_
  obtain⟨b,hb,rfl⟩:=bt ha;exact ih i b x hb hx (h b (List.mem_of_getElem? hb))
 | tup cs vs hl _ ih=>
  intro h;cases h with
  | tup _ h=>
  rw[u3];refine .tup _ vs (by simpa using hl) fun i a x ha hx=>?_
  obtain⟨b,hb,rfl⟩:=bt ha;exact ih i b x hb hx (h b (List.mem_of_getElem? hb))
 | lnil fr=>intro _;exact .lnil fr
 | list fr els a cap sz cell hs ez hm hsz hc _ ih=>
  intro h;cases h with
  | list _ h=>
  rw[wX];have:=bF.list (c:=c2) true (els.map fun e=>e.map (lq k)) a cap sz cell (fun hne=>hs (by intro h0;subst h0;simp at hne)) (by simpa using ez) (fun hne=>?_) (fun i e he=>?_) (fun i e j x he hx=>?_) (fun i e j x he hx=>?_)
  ·simpa using this
  ·obtain⟨h1,h2,h3⟩:=hm (by intro h0;simp[h0] at hne);exact⟨fun hmk=>h1 (hmu _ (h3 rfl) hmk),by rw[hw];exact h2,fun _=>Nat.le_trans hB (h3 rfl)⟩
  ·obtain⟨b,hb,rfl⟩:=bt he;rw[List.length_map];exact hsz i b hb
  ·obtain⟨b,hb,rfl⟩:=bt he;obtain⟨y,hy,rfl⟩:=bt hx;rw[hw];exact hc i b j y hb hy
  ·obtain⟨b,hb,rfl⟩:=bt he;obtain⟨y,hy,rfl⟩:=bt hx;exact ih i b j y hb hy (h b (List.mem_of_getElem? hb) y (List.mem_of_getElem? hy))
 | arr id gen off len x h1 hlt hg E=>
  intro h;cases h with
  | arr _ _ _ _ hK=>
  rw[A5];obtain⟨hb,ho⟩:=hobj id hK;refine .arr _ gen off len x h1 (by simp[dV];omega) (fun o' ho'=>?_) (fun o' ho' hgen=>?_)
  ·obtain⟨o,h2,h3,h4⟩:=ho o' ho';rw[<- h4];exact hg o h2
  ·obtain⟨o,h2,h3,h4⟩:=ho o' ho';obtain⟨p1,a,cap,p2,p3,p4,p5,p6,p7⟩:=E o h2 (by omega);refine⟨p1,a,cap,p2,by rw[hb];exact p3,p4,p5,by rw[<- h3];exact p6,?_⟩;rw[hb,hw,<- h3];exact p7
 | ptr id gen idx off x h1 hlt hg E=>
  intro h;cases h with
  | ptr _ _ _ _ hK=>
  have e:lq k (.ptr id gen idx off) = .ptr (dV k id) gen idx off:=by simp[lq]
  rw[e];obtain⟨hb,ho⟩:=hobj id hK;refine .ptr _ gen idx off x h1 (by simp[dV];omega) (fun o' ho'=>?_) (fun o' ho' hgen=>?_)
  ·obtain⟨o,h2,h3,h4⟩:=ho o' ho';rw[<- h4];exact hg o h2
  ·obtain⟨o,h2,h3,h4⟩:=ho o' ho';obtain⟨p1,p2⟩:=E o h2 (by omega);exact⟨p1,by rw[hb,<- h3];exact p2⟩
 | iptr=>intro h;cases h
 | fn=>intro h;cases h
 | iface=>intro h;cases h
 | clip=>intro h;cases h
def DN (H':az) (K:Id->Bool):Prop:=∀ id o,H' id=some o->K id=true->∀ e ∈ o.els,∀ a ∈ e,Mv (fun i=>K i=true) a
theorem By {c c1:Ctx} (g:Good c) (g1:Good c1) (hk:bh ⟨c.w.heap.size,fun _=>0,bA,0,c.w⟩ c1) {K:Id->Bool} (hcl:DN c1.H K) :
  ∃ c2:Ctx,c2.H=merge c.n c.H c1.H K/\c2.n=c.n+c1.n/\c2.w=c1.w/\Good c2/\bh c c2/\∀ a x,bF c1 a x->Mv (fun i=>K i=true) a->bF c2 (lq c.n a) x:=by
 have hB1:c1.B=c.w.heap.size:=hk.B;have hnomu:∀ k,¬ Ctx.mu ⟨c.w.heap.size,fun _=>0,bA,0,c.w⟩ k:=by
  rintro k ⟨id,o,ho,_⟩;cases ho
 have hblk:∀ k,k<c.w.heap.size->c1.w.heap[k]?=c.w.heap[k]?:=fun k hlt=>(hk.imm k hlt (hnomu k)).1
 have hsize:c.w.heap.size<=c1.w.heap.size:=hk.size
 let c2:Ctx:=⟨c.B,fun id=>if id.1<c.n then c.β id else c1.β (id.1 - c.n,id.2),merge c.n c.H c1.H K,c.n+c1.n,c1.w⟩
 have hsh:∀ id:Id,¬ (dV c.n id).1<c.n:=fun id=>by simp[dV]
 have hβs:∀ id:Id,c2.β (dV c.n id)=c1.β id:=fun id=>by
  show (if (dV c.n id).1<c.n then _ else _)=_;rw[if_neg (hsh id)];simp[dV]
 have hβo:∀ id:Id,id.1<c.n->c2.β id=c.β id:=fun id h=>by
  show (if id.1<c.n then _ else _)=_;rw[if_pos h]
 have hcase:∀ id o,c2.H id=some o->(id.1<c.n/\c.H id=some o)\/∃ id1 o1,id=dV c.n id1/\c1.H id1=some o1/\K id1=true/\o=zP c.n o1:=by
  intro id o ho;rcases Nat.lt_or_ge id.1 c.n with h | h
  ·left
   refine⟨h,?_⟩;have:merge c.n c.H c1.H K id=some o:=ho
   rwa [merge_lt h] at this
  ·right
   have e:merge c.n c.H c1.H K id=some o:=ho;unfold merge at e;rw[if_neg (by omega)] at e
   split at e
   ·rename_i hK
    cases h1:c1.H (id.1 - c.n,id.2) with
    | none=>rw[h1] at e;cases e
    | some o1=>
     rw[h1] at e;cases e;exact⟨(id.1 - c.n,id.2),o1,by ext<;>simp[dV];omega,h1,hK,rfl⟩
   ·cases e
 have hlow:∀ id o,c.H id=some o->c.β id<c.w.heap.size:=fun id o h=>g.lt h
 have hhigh:∀ id o,c1.H id=some o->c.w.heap.size<=c1.β id:=fun id o h=>by rw[<- hB1];exact (g1.obj id o h).1
 have hmu2:∀ b,c2.mu b->c.mu b\/c1.mu b:=by
  rintro b ⟨id,o,ho,hb⟩;rcases hcase id o ho with ⟨h1,h2⟩ | ⟨id1,o1,rfl,h1,_,_⟩
  ·left;exact⟨id,o,h2,by rw[<- hb,hβo id h1]⟩
  ·right;exact⟨id1,o1,h1,by rw[<- hb,hβs]⟩
 have hkeep:bh c c2:=by
  refine⟨Nat.le_add_right _ _,rfl,hsize,hk.os,hk.tape,hk.output,fun k hlt hm=>⟨hblk k hlt,fun h=>?_⟩,fun id o' ho' hid=>?_⟩
  ·rcases hmu2 k h with h | ⟨id,o,h1,h2⟩
   ·exact hm h
   ·have:=hhigh id o h1;omega
  ·have e:merge c.n c.H c1.H K id=some o':=ho';rw[merge_lt hid] at e;refine⟨o',e,rfl,Nat.le_refl _,fun _=>⟨hβo id hid,fun cl' el' fz' h=>⟨cl',el',fz',?_,Nat.le_refl _⟩⟩⟩;have h2:c1.w.heap[c.β id]?=some (.cells cl' el' fz'):=h;rw[hblk _ (hlow id o' e)] at h2;exact h2
 have hrep:∀ a x,bF c1 a x->Mv (fun i=>K i=true) a->bF c2 (lq c.n a) x:=by
  intro a x r hm;refine bF.sh (c1:=c1) (c2:=c2) (K:=fun i=>K i=true) rfl ?_ ?_ (Nat.le_of_eq (Nat.add_comm _ _)) ?_ r hm
  ·rw[hB1];exact g.Bsize
  ·intro b hb h;rcases hmu2 b h with ⟨id,o,h1,h2⟩ | h
   ·have:=hlow id o h1;omega
   ·exact h
  ·intro id hK;refine⟨hβs id,fun o' ho'=>?_⟩;have e:merge c.n c.H c1.H K (dV c.n id)=some o':=ho';rw[xh hK] at e;cases h1:c1.H id with
   | none=>rw[h1] at e;cases e
   | some o=>
    rw[h1] at e;cases e;exact⟨o,rfl,rfl,by simp[zP]⟩
 refine⟨c2,rfl,rfl,rfl,⟨fun id o ho=>?_,fun id id' o o' ho ho' hb=>?_,Nat.le_trans g.Bsize hsize,fun id o ho=>?_⟩,hkeep,hrep⟩
 ·rcases hcase id o ho with ⟨h1,_⟩ | ⟨id1,o1,rfl,h1,_,_⟩
  ·show id.1<c.n+c1.n;omega
  ·have:=g1.stamp id1 o1 h1;show (dV c.n id1).1<c.n+c1.n;simp[dV];omega
 ·rcases hcase id o ho with ⟨h1,h2⟩ | ⟨id1,o1,rfl,h1,_,_⟩<;>rcases hcase id' o' ho' with ⟨k1,k2⟩ | ⟨id1',o1',rfl,k1,_,_⟩
  ·rw[hβo id h1,hβo id' k1] at hb;exact g.inj id id' o o' h2 k2 hb
  ·rw[hβo id h1,hβs] at hb;have:=hlow id o h2;have:=hhigh id1' o1' k1;omega
  ·rw[hβo id' k1,hβs] at hb;have:=hlow id' o' k2;have:=hhigh id1 o1 h1;omega
  ·rw[hβs,hβs] at hb;rw[g1.inj id1 id1' o1 o1' h1 k1 hb]
 ·rcases hcase id o ho with ⟨h1,h2⟩ | ⟨id1,o1,rfl,h1,hK,rfl⟩
  ·obtain⟨p1,cl,el,p2,p3,p4⟩:=g.obj id o h2;rw[hβo id h1];refine⟨p1,cl,el,?_,p3,fun i e he=>⟨(p4 i e he).1,fun j a ha=>?_⟩⟩
   ·show c1.w.heap[c.β id]?=_;rw[hblk _ (hlow id o h2)];exact p2
   ·obtain⟨x,hx,hr⟩:=(p4 i e he).2 j a ha;exact⟨x,hx,hr.keeps hkeep⟩
  ·obtain⟨p1,cl,el,p2,p3,p4⟩:=g1.obj id1 o1 h1;rw[hβs];refine⟨by rw[hB1] at p1;exact Nat.le_trans g.Bsize p1,cl,el,p2,by simpa[zP] using p3,fun i e he=>?_⟩;obtain⟨e1,he1,rfl⟩:=bt (show (o1.els.map fun e=>e.map (lq c.n))[i]?=some e from he);obtain⟨q1,q2⟩:=p4 i e1 he1;refine⟨by rw[List.length_map];exact q1,fun j a ha=>?_⟩;obtain⟨b,hb,rfl⟩:=bt ha;obtain⟨x,hx,hr⟩:=q2 j b hb;exact⟨x,hx,hrep b x hr (hcl id1 o1 h1 hK e1 (List.mem_of_getElem? he1) b (List.mem_of_getElem? hb))⟩
def jT (Q:au->au->List Id->Prop):List au->List au->List Id->Prop
 | [],[],S=>S=[]
 | a::as1,b::bs,S=>∃ S1 S2,Q a b S1/\jT Q as1 bs S2/\S=S1++S2/\∀ i ∈ S1,i ∉ S2
 | _,_,_=>False
def gR (Q:au->au->List Id->Prop):List (List au)->List (List au)->List Id->Prop
 | [],[],S=>S=[]
 | a::as1,b::bs,S=>∃ S1 S2,jT Q a b S1/\gR Q as1 bs S2/\S=S1++S2/\∀ i ∈ S1,i ∉ S2
 | _,_,_=>False
def lZ (H:az):Nat->au->au->List Id->Prop
 | 0,a,b,S=>(a=b/\bI a)/\S=[]
 | d+1,a,b,S=>((a=b/\bI a)/\S=[])\/(∃ cs ds,a = .agg cs/\b = .agg ds/\jT (lZ H d) cs ds S)\/(∃ cs ds,a = .tup cs/\b = .tup ds/\jT (lZ H d) cs ds S) \/
  (a = .v (.slice none 0 0)/\b = .list true []/\S=[]) \/
  ∃ id o els T,a = .arr id o.els.length 0 o.els.length/\b = .list true els/\H id=some o/\gR (lZ H d) o.els els T/\id ∉ T/\S=id::T
section
variable {Q Q':au->au->List Id->Prop}
theorem jT.mono:∀ {as1 bs:List au} {S:List Id},jT Q as1 bs S->(∀ a b T,a ∈ as1->Q a b T->(∀ i ∈ T,i ∈ S)->Q' a b T)->jT Q' as1 bs S
 | [],[],S,h,_=>h
 | a::as1,b::bs,S,⟨S1,S2,h1,h2,h3,h4⟩,hq=>
  ⟨S1,S2,hq a b S1 (by simp) h1 (fun i hi=>by simp[h3,hi]),jT.mono h2 (fun x y T hx hxy hT=>hq x y T (by simp[hx]) hxy (fun i hi=>by simp[h3,hT i hi])),h3,h4⟩
theorem gR.mono:∀ {as1 bs:List (List au)} {S:List Id},gR Q as1 bs S->(∀ e ∈ as1,∀ a b T,a ∈ e->Q a b T->(∀ i ∈ T,i ∈ S)->Q' a b T)->gR Q' as1 bs S
 | [],[],S,h,_=>h
 | a::as1,b::bs,S,⟨S1,S2,h1,h2,h3,h4⟩,hq=>
  ⟨S1,S2,jT.mono h1 (fun x y T hx hxy hT=>hq a (by simp) x y T hx hxy (fun i hi=>by simp[h3,hT i hi])),
   gR.mono h2 (fun e he x y T hx hxy hT=>hq e (by simp[he]) x y T hx hxy (fun i hi=>by simp[h3,hT i hi])),h3,h4⟩
theorem jT.len:∀ {as1 bs:List au} {S:List Id},jT Q as1 bs S->as1.length=bs.length
 | [],[],_,_=>rfl
 | a::as1,b::bs,_,⟨_,_,_,h2,_,_⟩=>by simp[jT.len h2]
theorem gR.len:∀ {as1 bs:List (List au)} {S:List Id},gR Q as1 bs S->as1.length=bs.length
 | [],[],_,_=>rfl
 | a::as1,b::bs,_,⟨_,_,_,h2,_,_⟩=>by simp[gR.len h2]
theorem jT.get:∀ {as1 bs:List au} {S:List Id},jT Q as1 bs S->∀ (i:Nat) a b,as1[i]?=some a->bs[i]?=some b->∃ T,Q a b T/\∀ j ∈ T,j ∈ S
 | [],[],_,_,i,a,b,ha,_=>by simp at ha
 | x::as1,y::bs,S,⟨S1,S2,h1,h2,h3,_⟩,i,a,b,ha,hb=>by
  match i with
  | 0=>simp at ha hb;subst ha hb;exact⟨S1,h1,fun j hj=>by simp[h3,hj]⟩
  | i+1=>
   obtain⟨T,hT,hs⟩:=jT.get h2 i a b (by simpa using ha) (by simpa using hb);exact⟨T,hT,fun j hj=>by simp[h3,hs j hj]⟩
theorem gR.get:∀ {as1 bs:List (List au)} {S:List Id},gR Q as1 bs S->∀ (i:Nat) a b,as1[i]?=some a->bs[i]?=some b->∃ T,jT Q a b T/\∀ j ∈ T,j ∈ S
 | [],[],_,_,i,a,b,ha,_=>by simp at ha
 | x::as1,y::bs,S,⟨S1,S2,h1,h2,h3,_⟩,i,a,b,ha,hb=>by
  match i with
  | 0=>simp at ha hb;subst ha hb;exact⟨S1,h1,fun j hj=>by simp[h3,hj]⟩
  | i+1=>
   obtain⟨T,hT,hs⟩:=gR.get h2 i a b (by simpa using ha) (by simpa using hb);exact⟨T,hT,fun j hj=>by simp[h3,hs j hj]⟩
end
theorem lZ.ret {H:az}:∀ {d:Nat} {a b:au} {S:List Id},lZ H d a b S->kz H a b
 | 0,_,_,_,⟨⟨rfl,hF⟩,_⟩=>kz.fresh hF
 | d+1,a,b,S,h=>by
  rcases h with ⟨⟨rfl,hF⟩,_⟩ | ⟨cs,ds,rfl,rfl,h⟩ | ⟨cs,ds,rfl,rfl,h⟩ | ⟨rfl,rfl,_⟩ | ⟨id,o,els,T,rfl,rfl,ho,h,hn,rfl⟩
  ·exact kz.fresh hF
  ·exact .agg h.len fun i a b ha hb=>by obtain⟨T,hT,_⟩:=h.get i a b ha hb;exact lZ.ret hT
  ·exact .tup h.len fun i a b ha hb=>by obtain⟨T,hT,_⟩:=h.get i a b ha hb;exact lZ.ret hT
  ·exact .nil true
  ·have e:(o.els.drop 0).take o.els.length=o.els:=by simp
   refine .arr (o:=o) (by simp[live,ho]) (by rw[e];exact h.len) (fun i x y hx hy=>?_) (fun i x y j p q hx hy hp hq=>?_)
   ·rw[e] at hx;obtain⟨T',hT,_⟩:=h.get i x y hx hy;exact hT.len
   ·rw[e] at hx;obtain⟨T',hT,_⟩:=h.get i x y hx hy;obtain⟨T2,hT2,_⟩:=hT.get j p q hp hq;exact lZ.ret hT2
section
variable {Q Q':au->au->List Id->Prop}
theorem jT.mem {i:Id}:∀ {as1 bs:List au} {S:List Id},jT Q as1 bs S->i ∈ S->∃ a ∈ as1,∃ b ∈ bs,∃ T,Q a b T/\i ∈ T/\∀ j ∈ T,j ∈ S
 | [],[],S,h,hi=>by rw[show S=[] from h] at hi;cases hi
 | x::as1,y::bs,S,⟨S1,S2,h1,h2,h3,_⟩,hi=>by
  rw[h3] at hi;rcases List.mem_append.1 hi with hi | hi
  ·exact⟨x,by simp,y,by simp,S1,h1,hi,fun j hj=>by simp[h3,hj]⟩
  ·obtain⟨a,ha,b,hb,T,hT,hiT,hs⟩:=jT.mem h2 hi;exact⟨a,by simp[ha],b,by simp[hb],T,hT,hiT,fun j hj=>by simp[h3,hs j hj]⟩
theorem gR.mem {i:Id}:∀ {as1 bs:List (List au)} {S:List Id},gR Q as1 bs S->i ∈ S->∃ e ∈ as1,∃ a ∈ e,∃ f ∈ bs,∃ b ∈ f,∃ T,Q a b T/\i ∈ T/\∀ j ∈ T,j ∈ S
 | [],[],S,h,hi=>by rw[show S=[] from h] at hi;cases hi
 | x::as1,y::bs,S,⟨S1,S2,h1,h2,h3,_⟩,hi=>by
  rw[h3] at hi;rcases List.mem_append.1 hi with hi | hi
  ·obtain⟨a,ha,b,hb,T,hT,hiT,hs⟩:=h1.mem hi;exact⟨x,by simp,a,ha,y,by simp,b,hb,T,hT,hiT,fun j hj=>by simp[h3,hs j hj]⟩
  ·obtain⟨e,he,a,ha,f,hf,b,hb,T,hT,hiT,hs⟩:=gR.mem h2 hi;exact⟨e,by simp[he],a,ha,f,by simp[hf],b,hb,T,hT,hiT,fun j hj=>by simp[h3,hs j hj]⟩
end
theorem Mv.mono {K K':Id->Prop} (h:∀ i,K i->K' i) {a:au} (m:Mv K a):Mv K' a:=by
 induction m with
 | v x=>exact .v x
 | agg cs _ ih=>exact .agg cs ih
 | tup cs _ ih=>exact .tup cs ih
 | list els _ ih=>exact .list els ih
 | arr id g off len hk=>exact .arr id g off len (h id hk)
 | ptr id g idx off hk=>exact .ptr id g idx off (h id hk)
theorem bI.mv {K:Id->Prop} {a:au} (h:bI a):Mv K a:=by
 induction h with
 | v x=>exact .v x
 | agg cs _ ih=>exact .agg cs ih
 | tup cs _ ih=>exact .tup cs ih
 | list els _ ih=>exact .list els ih
theorem bI.sh {n:Nat} {a:au} (h:bI a):lq n a=a:=by
 have fix:∀ {l:List au},(∀ a ∈ l,lq n a=a)->l.map (lq n)=l:=fun {l} h=>by
  conv=>rhs;rw[<- List.map_id l]
  exact List.map_congr_left h
 induction h with
 | v x=>exact En n x
 | agg cs _ ih=>rw[vl,fix ih]
 | tup cs _ ih=>rw[u3,fix ih]
 | list els _ ih=>
  rw[wX]
  congr 1
  conv=>rhs;rw[<- List.map_id els]
  exact List.map_congr_left fun e he=>fix (ih e he)
theorem bI.imm {a:au} (h:bI a):je a:=by
 induction h with
 | v x=>exact .v x
 | agg cs _ ih=>exact .agg cs ih
 | tup cs _ ih=>exact .tup cs ih
 | list els _ ih=>exact .list true els ih
theorem lZ.mv {H:az}:∀ {d:Nat} {a b:au} {S:List Id},lZ H d a b S->Mv (fun i=>i ∈ S) a
 | 0,_,_,_,⟨⟨rfl,hF⟩,_⟩=>bI.mv hF
 | d+1,a,b,S,h=>by
  rcases h with ⟨⟨rfl,hF⟩,_⟩ | ⟨cs,ds,rfl,rfl,h⟩ | ⟨cs,ds,rfl,rfl,h⟩ | ⟨rfl,rfl,_⟩ | ⟨id,o,els,T,rfl,rfl,ho,h,hn,rfl⟩
  ·exact bI.mv hF
  ·refine .agg _ fun a ha=>?_
   obtain⟨i,hi⟩:=List.getElem?_of_mem ha;obtain⟨b,hb⟩:=a8 (l:=ds) (i:=i) (by rw[<- h.len];exact (List.getElem?_eq_some_iff.1 hi).1);obtain⟨T,hT,hs⟩:=h.get i a b hi hb;exact (lZ.mv hT).mono hs
  ·refine .tup _ fun a ha=>?_
   obtain⟨i,hi⟩:=List.getElem?_of_mem ha;obtain⟨b,hb⟩:=a8 (l:=ds) (i:=i) (by rw[<- h.len];exact (List.getElem?_eq_some_iff.1 hi).1);obtain⟨T,hT,hs⟩:=h.get i a b hi hb;exact (lZ.mv hT).mono hs
  ·exact .v _
  ·exact .arr _ _ _ _ (by simp)
theorem lZ.cells {H:az}:∀ {d:Nat} {a b:au} {S:List Id},lZ H d a b S->∀ id o,H id=some o->id ∈ S->∀ e ∈ o.els,∀ x ∈ e,Mv (fun i=>i ∈ S) x
 | 0,_,_,_,⟨_,hS⟩,id,o,_,hi=>by rw[hS] at hi;cases hi
 | d+1,a,b,S,h,id,o,ho,hi=>by
  rcases h with ⟨_,rfl⟩ | ⟨cs,ds,rfl,rfl,h⟩ | ⟨cs,ds,rfl,rfl,h⟩ | ⟨_,_,rfl⟩ | ⟨id',o',els,T,rfl,rfl,ho',h,hn,rfl⟩
  ·cases hi
  ·obtain⟨a,_,b,_,T,hT,hiT,hs⟩:=h.mem hi;exact fun e he x hx=>(lZ.cells hT id o ho hiT e he x hx).mono hs
  ·obtain⟨a,_,b,_,T,hT,hiT,hs⟩:=h.mem hi;exact fun e he x hx=>(lZ.cells hT id o ho hiT e he x hx).mono hs
  ·cases hi
  ·rcases List.mem_cons.1 hi with rfl | hi
   ·rw[ho] at ho';cases ho';intro e he x hx;obtain⟨i,hi⟩:=List.getElem?_of_mem he;obtain⟨f,hf⟩:=a8 (l:=els) (i:=i) (by rw[<- h.len];exact (List.getElem?_eq_some_iff.1 hi).1);obtain⟨T',hT,hs⟩:=h.get i e f hi hf;obtain⟨j,hj⟩:=List.getElem?_of_mem hx;obtain⟨y,hy⟩:=a8 (l:=f) (i:=j) (by rw[<- hT.len];exact (List.getElem?_eq_some_iff.1 hj).1);obtain⟨T2,hT2,hs2⟩:=hT.get j x y hj hy;exact (lZ.mv hT2).mono fun i hi=>by simp[hs i (hs2 i hi)]
   ·obtain⟨e',_,a,_,f,_,b,_,T',hT,hiT,hs⟩:=h.mem hi;exact fun e he x hx=>(lZ.cells hT id o ho hiT e he x hx).mono fun i hi=>by simp[hs i hi]
theorem rC (n:Nat) (i j:Id) (h:dV n i=dV n j):i=j:=by
 obtain⟨a,b⟩:=i;obtain⟨c,d⟩:=j;simp[dV] at h
 ext
 ·simp;omega
 ·simp[h.2]
theorem lZ.imm {H:az}:∀ {d:Nat} {a b:au} {S:List Id},lZ H d a b S->je b
 | 0,_,_,_,⟨⟨rfl,hF⟩,_⟩=>hF.imm
 | d+1,a,b,S,h=>by
  rcases h with ⟨⟨rfl,hF⟩,_⟩ | ⟨cs,ds,rfl,rfl,h⟩ | ⟨cs,ds,rfl,rfl,h⟩ | ⟨rfl,rfl,_⟩ | ⟨id,o,els,T,rfl,rfl,ho,h,hn,rfl⟩
  ·exact hF.imm
  ·refine .agg _ fun b hb=>?_
   obtain⟨i,hi⟩:=List.getElem?_of_mem hb;obtain⟨a,ha⟩:=a8 (l:=cs) (i:=i) (by rw[h.len];exact (List.getElem?_eq_some_iff.1 hi).1);obtain⟨T,hT,_⟩:=h.get i a b ha hi;exact lZ.imm hT
  ·refine .tup _ fun b hb=>?_
   obtain⟨i,hi⟩:=List.getElem?_of_mem hb;obtain⟨a,ha⟩:=a8 (l:=cs) (i:=i) (by rw[h.len];exact (List.getElem?_eq_some_iff.1 hi).1);obtain⟨T,hT,_⟩:=h.get i a b ha hi;exact lZ.imm hT
  ·exact .list _ _ (by simp)
  ·refine .list _ _ fun f hf y hy=>?_
   obtain⟨i,hi⟩:=List.getElem?_of_mem hf;obtain⟨e,he⟩:=a8 (l:=o.els) (i:=i) (by rw[h.len];exact (List.getElem?_eq_some_iff.1 hi).1);obtain⟨T',hT,_⟩:=h.get i e f he hi;obtain⟨j,hj⟩:=List.getElem?_of_mem hy;obtain⟨x,hx⟩:=a8 (l:=e) (i:=j) (by rw[hT.len];exact (List.getElem?_eq_some_iff.1 hj).1);obtain⟨T2,hT2,_⟩:=hT.get j x y hx hj;exact lZ.imm hT2
theorem aM.own {H:az} {n d:Nat} {a b:au} {S:List Id} (h:lZ H d a b S):aM H n a (old b):=by
 intro c x hH hn g r c' hw hc;subst hH;have r2:bF ⟨0,fun _=>0,bA,0,c.w⟩ b x:=bF.ret (c':=⟨0,fun _=>0,bA,0,c.w⟩) g rfl (by rintro k ⟨id,o,ho,_⟩;cases ho) (Nat.zero_le _) h.ret r;exact bF.old (c:=⟨0,fun _=>0,bA,0,c.w⟩) hw hc r2 h.imm
end Go.Ab
namespace Go.Ab
section
variable {P:Program} {f:FuncId} {N:Nat} {k:List Item} {Q:au->az->Nat->Prop} {Ty:Types} {l:List Oper} {O:Env} {H:az} {n:Nat}
theorem bE.Fy (hT:aX P Ty) {d:Option Tmp} {g:Operand} {args:Array Operand} {ats:Array TypeId} {ty:TypeId} {pos:String} {af:Array Edge} {post:au->az->Nat->Prop} {f':FuncId} {as1:List au} {ops:List Oper}
  (h:bl P f' as1 H n post) (cK:aW P f')
  (hN:ops.all (fun o=>dM N o.dst)=true) (hl:(⟨d,.call ⟨.value g,args,ats⟩,ty,pos,af,none⟩::l:List Oper).all (fun o=>dM N o.dst)=true) (hg:O.ev g = .fn (.func f') [] []) (has:args.toList.map O.ev=as1)
  (hk:∀ v H1 U,post v H1 U->bR P f N k Q Ty ops.toArray l (O.put d v) H1 U) :
  bE P f N k Q ops.toArray (⟨d,.call ⟨.value g,args,ats⟩,ty,pos,af,none⟩::l) O H n:=
 bE.op hT hN hl rfl (aO.call hg cK (by simpa[has] using h)) hk
end
end Go.Ab
namespace Go.Ab
theorem J.cut {P:Program} {f:FuncId} {N:Nat} {k:List Item} {O:Env} {H:az} {n:Nat} {Q:au->az->Nat->Prop} (aq:Env->az->Nat->Prop) (h0:aq O H n) (h:∀ O H n,aq O H n->J P f N k O H n Q):J P f N k O H n Q:=h _ _ _ h0
theorem bQ {fr:Bool} {els:List (List au)} (h:∀ e ∈ els,∀ a ∈ e,flat a=true):old (.list fr els) = .list false els:=by rw[fE,dg h]
theorem bl.of {P:Program} {f:FuncId} {fn:Func} {body:Code} {args:List au} {H:az} {n N:Nat} {Q0:au->az->Nat->Prop} (hfn:P.funcs[f]?=some fn) (hb:fn.body=some body) (hn:fn.ntmps=N) (hN:args.length<=N)
  (h:∀ Q:au->az->Nat->Prop,(∀ v H1 U,Q0 v H1 U->Q v H1 U)->J P f N [.code body] (fN args) H n Q):bl P f args H n Q0:=by
 subst hn;exact bl.oF hfn hb hN (h Q0 fun _ _ _ h=>h)
section
variable {row:Nat->List au} {els:List (List au)} {k:Nat}
end
end Go.Ab
namespace Go.Ab
def Sub (a b:au):Prop:=∀ (c:Ctx) (x:Value),bF c a x->bF c b x
theorem Sub.refl (a:au):Sub a a:=fun _ _ h=>h
theorem Sub.nil (fr:Bool):Sub (.v (.slice none 0 0)) (.list fr []):=fun c x h=>by rw[h.bS];exact .lnil fr
inductive lM:List au->List au->Prop
 | nil:lM [] []
 | cons {a b:au} {as1 bs:List au} (h:Sub a b) (t:lM as1 bs):lM (a::as1) (b::bs)
theorem lM.refl:∀ as1,lM as1 as1
 | []=>.nil
 | a::as1=>.cons (.refl a) (.refl as1)
theorem lM.get {as1 bs:List au} (h:lM as1 bs):as1.length=bs.length/\∀ (i:Nat) (a b:au),as1[i]?=some a->bs[i]?=some b->Sub a b:=by
 induction h with
 | nil=>exact⟨rfl,by simp⟩
 | cons h _ ih=>
  refine⟨by simp[ih.1],fun i a b ha hb=>?_⟩;cases i with
  | zero=>simp at ha hb;rw[<- ha,<- hb];exact h
  | succ i=>exact ih.2 i a b (by simpa using ha) (by simpa using hb)
theorem Sub.old {els:List (List au)} (t:Bool):Sub (.list t els) (.list false els):=fun c x r=>by
 cases r with
 | lnil=>exact .lnil false
 | list _ _ a cap sz cell hs ez hm hsz hc hr=>exact .list false els a cap sz cell hs ez (fun h=>⟨(hm h).1,(hm h).2.1,fun h=>by cases h⟩) hsz hc hr
theorem bl.sub {P:Program} {f:FuncId} {as1 bs:List au} {H:az} {n:Nat} {Q:au->az->Nat->Prop} (hs:lM as1 bs) (h:bl P f bs H n Q):bl P f as1 H n Q:=fun c xs hH hn g r=>by
 obtain⟨h1,h2⟩:=hs.get;refine h c xs hH hn g ⟨by rw[<- h1];exact r.1,fun i b x hb hx=>?_⟩;have hi:=(List.getElem?_eq_some_iff.1 hb).1;obtain⟨a,ha⟩:=a8 (l:=as1) (i:=i) (by omega);exact h2 i a b ha hb c x (r.2 i a x ha hx)
inductive pU (n:Nat):au->Prop
 | undef:pU n .undef
 | v (x:Value):pU n (.v x)
 | agg (cs:List au) (h:∀ a ∈ cs,pU n a):pU n (.agg cs)
 | tup (cs:List au) (h:∀ a ∈ cs,pU n a):pU n (.tup cs)
 | list (fr:Bool) (els:List (List au)) (h:∀ e ∈ els,∀ a ∈ e,pU n a):pU n (.list fr els)
 | arr (id:Id) (g off len:Nat) (h:id.1<n):pU n (.arr id g off len)
 | ptr (id:Id) (g idx off:Nat) (h:id.1<n):pU n (.ptr id g idx off)
 | iptr (fr:Bool) (cs:List au) (h:∀ a ∈ cs,pU n a):pU n (.iptr fr cs)
 | fn (f:Fn) (first captured:List au) (h:∀ a ∈ first,pU n a) (h':∀ a ∈ captured,pU n a):pU n (.fn f first captured)
 | iface (t:TypeId) (a:au) (h:pU n a):pU n (.iface t a)
 | clip (fr:Bool) (els:List (List Value)):pU n (.clip fr els)
theorem oG {as1:List au} {xs:List Value} (hl:as1.length=xs.length) {a:au} (ha:a ∈ as1):∃ (i:Nat) (x:Value),as1[i]?=some a/\xs[i]?=some x:=by
 obtain⟨i,hi⟩:=List.getElem?_of_mem ha;have h1:=(List.getElem?_eq_some_iff.1 hi).1;exact⟨i,xs[i]'(by omega),hi,List.getElem?_eq_getElem (by omega)⟩
theorem bF.pN {c:Ctx} {a:au} {x:Value} (r:bF c a x):pU c.n a:=by
 induction r with
 | undef=>exact .undef
 | v x=>exact .v x
 | agg cs vs hl _ ih=>exact .agg _ fun a ha=>by obtain⟨i,x,h1,h2⟩:=oG hl ha;exact ih i a x h1 h2
 | tup cs vs hl _ ih=>exact .tup _ fun a ha=>by obtain⟨i,x,h1,h2⟩:=oG hl ha;exact ih i a x h1 h2
 | lnil fr=>exact .list _ _ (by simp)
 | list fr els a cap sz cell hs ez hm hsz hc _ ih=>
  refine .list _ _ fun e he y hy=>?_
  obtain⟨i,hi⟩:=List.getElem?_of_mem he;obtain⟨j,hj⟩:=List.getElem?_of_mem hy;exact ih i e j y hi hj
 | arr id gen off len x h1 hn hg h=>exact .arr _ _ _ _ hn
 | ptr id gen idx off x h1 hn hg h=>exact .ptr _ _ _ _ hn
 | iptr fr cs a cell hs hm hb hf hc _ ih=>
  refine .iptr _ _ fun y hy=>?_
  obtain⟨j,hj⟩:=List.getElem?_of_mem hy;exact ih j y hj
 | fn f first captured vs us hl hl' _ _ ih ih'=>
  exact .fn _ _ _ (fun a ha=>by obtain⟨i,x,h1,h2⟩:=oG hl ha;exact ih i a x h1 h2) (fun a ha=>by obtain⟨i,x,h1,h2⟩:=oG hl' ha;exact ih' i a x h1 h2)
 | iface t a x _ ih=>exact .iface _ _ ih
 | clip fr els x hf _ ih=>exact .clip _ _
def Ctx.cut (c:Ctx) (n:Nat):Ctx:={ c with H:=fun i=>if i.1<n then c.H i else none,n:=n }
theorem Ctx.l6 {c:Ctx} {n:Nat} {i:Id} {o:Ob} (h:(c.cut n).H i=some o):i.1<n/\c.H i=some o:=by
 simp only[Ctx.cut] at h
 split at h
 ·exact⟨by assumption,h⟩
 ·cases h
theorem Ctx.y7 {c:Ctx} {n k:Nat} (h:(c.cut n).mu k):c.mu k:=by
 obtain⟨i,o,h1,h2⟩:=h;exact⟨i,o,(Ctx.l6 h1).2,h2⟩
theorem bF.cut {c:Ctx} {n:Nat} {a:au} {x:Value} (r:bF c a x):pU n a->bF (c.cut n) a x:=by
 induction r with
 | undef x=>intro _;exact .undef x
 | v x=>intro _;exact .v x
 | agg cs vs hl _ ih=>intro h;cases h with | agg _ h=>exact .agg _ vs hl fun i a x ha hx=>ih i a x ha hx (h a (List.mem_of_getElem? ha))
 | tup cs vs hl _ ih=>intro h;cases h with | tup _ h=>exact .tup _ vs hl fun i a x ha hx=>ih i a x ha hx (h a (List.mem_of_getElem? ha))
 | lnil fr=>intro _;exact .lnil fr
 | list fr els a cap sz cell hs ez hm hsz hc _ ih=>
  intro h;cases h with
  | list _ _ h=>exact .list fr els a cap sz cell hs ez (fun hne=>⟨fun hmu=>(hm hne).1 (Ctx.y7 hmu),(hm hne).2.1,(hm hne).2.2⟩) hsz hc fun i e j y he hy=>ih i e j y he hy (h e (List.mem_of_getElem? he) y (List.mem_of_getElem? hy))
 | arr id gen off len x h1 hn hg h=>
  intro hb;cases hb with
  | arr _ _ _ _ hlt=>exact .arr id gen off len x h1 hlt (fun o ho=>hg o (Ctx.l6 ho).2) (fun o ho hgen=>h o (Ctx.l6 ho).2 hgen)
 | ptr id gen idx off x h1 hn hg h=>
  intro hb;cases hb with
  | ptr _ _ _ _ hlt=>exact .ptr id gen idx off x h1 hlt (fun o ho=>hg o (Ctx.l6 ho).2) (fun o ho hgen=>h o (Ctx.l6 ho).2 hgen)
 | iptr fr cs a cell hs hm hb hf hc _ ih=>
  intro h;cases h with
  | iptr _ _ h=>exact .iptr fr cs a cell hs (fun hmu=>hm (Ctx.y7 hmu)) hb hf hc fun j y hy=>ih j y hy (h y (List.mem_of_getElem? hy))
 | fn f first captured vs us hl hl' _ _ ih ih'=>
  intro h;cases h with
  | fn _ _ _ h h'=>exact .fn f first captured vs us hl hl' (fun i a x ha hx=>ih i a x ha hx (h a (List.mem_of_getElem? ha))) (fun i a x ha hx=>ih' i a x ha hx (h' a (List.mem_of_getElem? ha)))
 | iface t a x _ ih=>intro h;cases h with | iface _ _ h=>exact .iface t a x (ih h)
 | clip fr els x hf _ ih=>intro h;exact .clip fr els x hf (ih (.list _ _ fun e he a ha=>by obtain⟨y,_,rfl⟩:=List.mem_map.1 he;obtain⟨z,_,rfl⟩:=List.mem_map.1 ha;exact .v _))
inductive qu (H:az) (n:Nat):au->au->Prop
 | pN {a:au} (h:pU n a):qu H n a a
 | agg {cs ds:List au} (hl:cs.length=ds.length) (h:∀ (i:Nat) (a b:au),cs[i]?=some a->ds[i]?=some b->qu H n a b):qu H n (.agg cs) (.agg ds)
 | tup {cs ds:List au} (hl:cs.length=ds.length) (h:∀ (i:Nat) (a b:au),cs[i]?=some a->ds[i]?=some b->qu H n a b):qu H n (.tup cs) (.tup ds)
 | nil (fr:Bool):qu H n (.v (.slice none 0 0)) (.list fr [])
 | arr {id:Id} {g off len:Nat} {o:Ob} {fls:List (List au)} (hlv:live H id g=some o) (hid:n<=id.1) (hl:((o.els.drop off).take len).length=fls.length)
   (hl':∀ (i:Nat) (e f:List au),((o.els.drop off).take len)[i]?=some e->fls[i]?=some f->e.length=f.length)
   (h:∀ (i:Nat) (e f:List au) (j:Nat) (a b:au),((o.els.drop off).take len)[i]?=some e->fls[i]?=some f->e[j]?=some a->f[j]?=some b->qu H n a b):qu H n (.arr id g off len) (.list true fls)
theorem bF.retD {c:Ctx} {n:Nat} (g:Good c) {a b:au} (r:qu c.H n a b):∀ {x:Value},bF c a x->bF (c.cut n) b x:=by
 induction r with
 | pN h=>intro x hx;exact hx.cut h
 | agg hl _ ih=>
  intro x hx;cases hx with
  | agg _ vs hl' hr=>
  refine .agg _ vs (by omega) fun i b x hb hx=>?_
  have hi:=(List.getElem?_eq_some_iff.1 hb).1;obtain⟨a,ha⟩:=a8 (l:=_) (i:=i) (by rw[hl];exact hi);exact ih i a b ha hb (hr i a x ha hx)
 | tup hl _ ih=>
  intro x hx;cases hx with
  | tup _ vs hl' hr=>
  refine .tup _ vs (by omega) fun i b x hb hx=>?_
  have hi:=(List.getElem?_eq_some_iff.1 hb).1;obtain⟨a,ha⟩:=a8 (l:=_) (i:=i) (by rw[hl];exact hi);exact ih i a b ha hb (hr i a x ha hx)
 | nil fr=>intro x hx;rw[hx.bS];exact .lnil fr
 | @arr id gen off len o fls hlv hid hl hl' _ ih=>
  intro x hx;obtain⟨l1,l2⟩:=dd hlv;cases hx with
  | arr _ _ _ _ _ hone hn hg hp=>
  obtain⟨p1,⟨b,aoff,M⟩,cap,rfl,hab,hsp,hlc,db,hcl⟩:=hp o l1 l2;simp only at hab hsp db;subst hab hsp;obtain⟨hB,cl,el,hcell,hfit,hel⟩:=g.obj id o l1;have hlen:((o.els.drop off).take len).length=len:=by simp;omega
  have hget:∀ (i:Nat) (e:List au),((o.els.drop off).take len)[i]?=some e->i<len/\o.els[off+i]?=some e:=by
   intro i e he;rw[List.getElem?_take] at he
   split at he
   ·rename_i hi
    rw[List.getElem?_drop] at he;exact⟨hi,he⟩
   ·cases he
  have key:∀ (i:Nat) (f:List au) (j:Nat) (y:au),fls[i]?=some f->f[j]?=some y->∃ e z u,((o.els.drop off).take len)[i]?=some e/\e[j]?=some z/\cl[(off+i) * o.size+j]?=some u/\bF c z u/\aoff=off * o.size:=by
   intro i f j y hf hy;have hi:=(List.getElem?_eq_some_iff.1 hf).1;obtain⟨e,he⟩:=a8 (l:=(o.els.drop off).take len) (i:=i) (by omega);have hej:=hl' i e f he hf;obtain⟨z,hz⟩:=a8 (l:=e) (i:=j) (by rw[hej];exact (List.getElem?_eq_some_iff.1 hy).1);obtain⟨hi2,he2⟩:=hget i e he;obtain⟨u,hu,hr⟩:=(hel _ _ he2).2 j z hz;refine⟨e,z,u,he,hz,hu,hr,?_⟩;rcases db with h | h
   ·exact h
   ·omega
  have:=bF.list (c:=c.cut n) true fls ⟨c.β id,aoff,none⟩ cap o.size (fun i j=>cl.getD ((off+i) * o.size+j) Go.undef) (fun _=>rfl) (by omega) (fun _=>⟨?_,g.lt l1,fun _=>hB⟩) (fun i f hf=>?_) (fun i f j y hf hy=>?_) (fun i f j y hf hy=>?_)
  ·rw[<- hl,hlen] at this;exact this
  ·rintro⟨i,o',h1,h2⟩;obtain⟨h3,h4⟩:=Ctx.l6 h1;have:=g.inj i id o' o h4 l1 h2;subst this;omega
  ·have hi:=(List.getElem?_eq_some_iff.1 hf).1;obtain⟨e,he⟩:=a8 (l:=(o.els.drop off).take len) (i:=i) (by omega);rw[<- hl' i e f he hf];exact (hel _ _ (hget i e he).2).1
  ·obtain⟨e,z,u,he,hz,hu,hr,hao⟩:=key i f j y hf hy;rw[hao,<- Nat.add_assoc,<- Nat.add_mul];simp[Ctx.cut,World.cell?,hcell,hu,Array.getD_eq_getD_getElem?]
  ·obtain⟨e,z,u,he,hz,hu,hr,hao⟩:=key i f j y hf hy;rw[Array.getD_eq_getD_getElem?,hu];exact ih i e f j z y he hf hz hy hr
def Frame (n:Nat) (H H1:az):Prop:=∀ i:Id,i.1<n->H1 i=H i
theorem Frame.refl (n:Nat) (H:az):Frame n H H:=fun _ _=>rfl
theorem Frame.set {n:Nat} {H H1:az} {id:Id} {o:Ob} (hid:n<=id.1) (h:Frame n H H1):Frame n H (H1.set id o):=fun i hi=>by
 rw[az.aJ _ _ (by rintro rfl;omega)];exact h i hi
theorem bl.drop {P:Program} {f:FuncId} {args:List au} {H:az} {n:Nat} {R:au->Prop} (h:bl P f args H n (fun v H1 _=>∃ r,qu H1 n v r/\Frame n H H1/\R r)):bl P f args H n (fun v H1 U=>R v/\H1=H/\U=n):=by
 intro c xs hH hn g r;refine (h c xs hH hn g r).mono ?_;rintro e w' ⟨x,v,c1,he,hw,⟨r',hret,hfr,hR⟩,hrep,hg1,hk⟩;subst hH hn;refine⟨x,r',c1.cut c.n,he,hw,⟨hR,?_,rfl⟩,hrep.retD hg1 hret,⟨fun id o ho=>(Ctx.l6 ho).1,fun id id' o o' ho ho' hb=>hg1.inj id id' o o' (Ctx.l6 ho).2 (Ctx.l6 ho').2 hb,hg1.Bsize,fun id o ho=>?_⟩,?_⟩
 ·funext i
  simp only[Ctx.cut]
  split
  ·rename_i h;exact hfr i h
  ·rename_i h
   cases hc:c.H i with
   | none=>rfl
   | some o=>exact absurd (g.stamp i o hc) h
 ·obtain⟨h1,h2⟩:=Ctx.l6 ho;obtain⟨p1,cl,el,p2,p3,p4⟩:=hg1.obj id o h2;refine⟨p1,cl,el,p2,p3,fun i e he=>⟨(p4 i e he).1,fun j a ha=>?_⟩⟩;obtain⟨y,hy,hr⟩:=(p4 i e he).2 j a ha;refine⟨y,hy,hr.cut ?_⟩;rw[hfr id h1] at h2;obtain⟨_,cl0,el0,_,_,q4⟩:=g.obj id o h2;obtain⟨y0,_,hr0⟩:=(q4 i e he).2 j a ha;exact hr0.pN
 ·exact⟨Nat.le_refl _,hk.B,hk.size,hk.os,hk.tape,hk.output,fun k hlt hm=>⟨(hk.imm k hlt hm).1,fun h=>(hk.imm k hlt hm).2 (Ctx.y7 h)⟩,fun id o' ho hid=>hk.obj id o' (Ctx.l6 ho).2 hid⟩
def jV (P:Program) (f:FuncId) (args:List au) (R:au->Prop):Prop:=∀ H n,bl P f args H n (fun v H1 U=>R v/\H1=H/\U=n)
def Fh (n:Nat) (H:az):Prop:=∀ i o,H i=some o->i.1<n/\∀ e ∈ o.els,∀ a ∈ e,pU n a
theorem bl.pN {P:Program} {f:FuncId} {args:List au} {H:az} {n:Nat} {Q:au->az->Nat->Prop} (h:Fh n H->bl P f args H n Q):bl P f args H n Q:=by
 intro c xs hH hn g r;refine h (fun i o ho=>?_) c xs hH hn g r;subst hH hn;refine⟨g.stamp i o ho,fun e he a ha=>?_⟩;obtain⟨j,hj⟩:=List.getElem?_of_mem he;obtain⟨q,hq⟩:=List.getElem?_of_mem ha;obtain⟨_,cl,el,_,_,h4⟩:=g.obj i o ho;obtain⟨x,_,hr⟩:=(h4 j e hj).2 q a hq;exact hr.pN
theorem jV.of {P:Program} {f:FuncId} {fn:Func} {body:Code} {args:List au} {N:Nat} {R:au->Prop} (hfn:P.funcs[f]?=some fn) (hb:fn.body=some body) (hn:fn.ntmps=N) (hN:args.length<=N)
  (h:∀ H n Q,Fh n H->(∀ v H1 U r,qu H1 n v r->Frame n H H1->R r->Q v H1 U)->J P f N [.code body] (fN args) H n Q):jV P f args R:=fun H n=>
 bl.pN fun hB=>bl.drop (bl.of hfn hb hn hN fun Q hQ=>h H n Q hB fun v H1 U r h1 h2 h3=>hQ v H1 U ⟨r,h1,h2,h3⟩)
theorem jV.mono {P:Program} {f:FuncId} {args:List au} {R R':au->Prop} (h:jV P f args R) (hr:∀ v,R v->R' v):jV P f args R':=fun H n=>bl.mono (h H n) fun _ _ _ ⟨h1,h2⟩=>⟨hr _ h1,h2⟩
section
variable {P:Program} {f:FuncId} {N:Nat} {k:List Item} {Q:au->az->Nat->Prop} {Ty:Types} {l:List Oper} {O:Env} {H:az} {n:Nat}
theorem bE.callH (hT:aX P Ty) {d:Option Tmp} {g:Operand} {args:Array Operand} {ats:Array TypeId} {ty:TypeId} {pos:String} {af:Array Edge} {R:au->Prop} {f':FuncId} {as1 bs:List au} {ops:List Oper}
  (h:jV P f' bs R) (cK:aW P f') (hs:lM as1 bs)
  (hN:ops.all (fun o=>dM N o.dst)=true) (hl:(⟨d,.call ⟨.value g,args,ats⟩,ty,pos,af,none⟩::l:List Oper).all (fun o=>dM N o.dst)=true) (hg:O.ev g = .fn (.func f') [] []) (has:args.toList.map O.ev=as1)
  (hk:∀ v,R v->bR P f N k Q Ty ops.toArray l (O.put d v) H n) :
  bE P f N k Q ops.toArray (⟨d,.call ⟨.value g,args,ats⟩,ty,pos,af,none⟩::l) O H n:=
 bE.Fy hT (bl.sub hs (h H n)) cK hN hl hg has fun v H1 U ⟨h1,h2,h3⟩=>by subst h2 h3;exact hk v h1
end
def wD (Ty:Types) (H:az) (O:Env):ResultVar->Option au
 | .tmp t=>some (O t)
 | .cell t ty=>match Ty ty,cW H (O t) with
  | some i,some cs=>lQ i cs
  | _,_=>none
theorem sL (s:cB) (a b:Nat):(ByteArray.mk s.toArray).extract a b=ByteArray.mk ((s.drop a).take (b - a)).toArray:=by
 apply ByteArray.ext;apply Array.ext';simp
attribute [simp] sL
end Go.Ab
namespace Go.Ab
def cJ (P:Program) (f:FuncId) (args:List au) (H:az) (n:Nat) (R:au->Prop):Prop:=bl P f args H n (fun v H1 U=>R v/\H1=H/\U=n)
theorem cJ.of {P:Program} {f:FuncId} {fn:Func} {body:Code} {args:List au} {N:Nat} {R:au->Prop} {H:az} {n:Nat} (hfn:P.funcs[f]?=some fn) (hb:fn.body=some body) (hn:fn.ntmps=N) (hN:args.length<=N)
  (h:∀ Q,Fh n H->(∀ v H1 U r,qu H1 n v r->Frame n H H1->R r->Q v H1 U)->J P f N [.code body] (fN args) H n Q):cJ P f args H n R:=
 bl.pN fun hB=>bl.drop (bl.of hfn hb hn hN fun Q hQ=>h Q hB fun v H1 U r h1 h2 h3=>hQ v H1 U ⟨r,h1,h2,h3⟩)
def fL (P:Program) (H:az) (n:Nat) (cl:au) (args:List au) (R:au->Prop):Prop:=
 ∃ g first caps,cl = .fn (.func g) first caps/\aW P g/\cJ P g (first++args++caps) H n R
section
variable {P:Program} {f:FuncId} {N:Nat} {k:List Item} {Q:au->az->Nat->Prop} {Ty:Types} {l:List Oper} {O:Env} {H:az} {n:Nat}
theorem bE.DL (hT:aX P Ty) {d:Option Tmp} {g:Operand} {args:Array Operand} {ats:Array TypeId} {ty:TypeId} {pos:String} {af:Array Edge} {R:au->Prop} {cl:au} {as1:List au} {ops:List Oper}
  (h:fL P H n cl as1 R) (hN:ops.all (fun o=>dM N o.dst)=true) (hl:(⟨d,.call ⟨.value g,args,ats⟩,ty,pos,af,none⟩::l:List Oper).all (fun o=>dM N o.dst)=true) (hg:O.ev g=cl) (has:args.toList.map O.ev=as1)
  (hk:∀ v,R v->bR P f N k Q Ty ops.toArray l (O.put d v) H n) :
  bE P f N k Q ops.toArray (⟨d,.call ⟨.value g,args,ats⟩,ty,pos,af,none⟩::l) O H n:=by
 obtain⟨f',first,caps,hcl,cK,hc⟩:=h;refine bE.op hT hN hl rfl (aO.call (hg.trans hcl) cK (by rw[has];exact hc)) ?_;rintro v H1 U ⟨h1,rfl,rfl⟩;exact hk v h1
theorem bE.lH (hT:aX P Ty) {d:Option Tmp} {g:Operand} {args:Array Operand} {ats:Array TypeId} {ty:TypeId} {pos:String} {af:Array Edge} {R:au->Prop} {f':FuncId} {as1:List au} {ops:List Oper}
  (h:cJ P f' as1 H n R) (cK:aW P f')
  (hN:ops.all (fun o=>dM N o.dst)=true) (hl:(⟨d,.call ⟨.value g,args,ats⟩,ty,pos,af,none⟩::l:List Oper).all (fun o=>dM N o.dst)=true) (hg:O.ev g = .fn (.func f') [] []) (has:args.toList.map O.ev=as1)
  (hk:∀ v,R v->bR P f N k Q Ty ops.toArray l (O.put d v) H n) :
  bE P f N k Q ops.toArray (⟨d,.call ⟨.value g,args,ats⟩,ty,pos,af,none⟩::l) O H n:=
 bE.Fy hT h cK hN hl hg has fun v H1 U ⟨h1,h2,h3⟩=>by subst h2 h3;exact hk v h1
theorem bw.lH (hT:aX P Ty) {κ:Op->Nat} (hκ:Fq κ) {d:Option Tmp} {g:Operand} {args:Array Operand} {ats:Array TypeId} {ty:TypeId} {pos:String} {af:Array Edge} {v:au} {f':FuncId} {as1:List au} {ops:Array Oper}
  (h:cJ P f' as1 H n (fun r=>r=v)) (cK:aW P f') (h0:κ (.call ⟨.value g,args,ats⟩) ≠ 0) (hg:O.ev g = .fn (.func f') [] []) (has:args.toList.map O.ev=as1)
  (hk:en P f N k Q Ty κ ops l (O.put d v) H n):bw P f N k Q κ ops (⟨d,.call ⟨.value g,args,ats⟩,ty,pos,af,none⟩::l) O H n:=by
 refine bw.op hT hκ rfl h0 (fun _=>⟨rfl,rfl⟩) ?_ hk;have h1:(loc (.call ⟨.value g,args,ats⟩) O).ev g=O.ev g:=fy (by simp[Op.operands,Call.operands]);have h2:args.toList.map (loc (.call ⟨.value g,args,ats⟩) O).ev=args.toList.map O.ev:=List.map_congr_left fun x hx=>fy (by simp[Op.operands,Call.operands];exact .inr (by simpa using hx))
 exact aO.call (by rw[h1];exact hg) cK (by rw[h2,has,List.nil_append,List.append_nil];exact h)
end
end Go.Ab
namespace Go.Ab
def bp (n:Int):Prop := -9223372036854775808<=n/\n<=9223372036854775807
def at' {α:Type} [Inhabited α] (l:List α) (i:Int):α:=l.getD i.toNat default
def aG {σ:Type} (body:σ->(σ->Prop)->Prop) (s:σ):Prop:=
 ∃ (aq:σ->Prop) (m:σ->Nat),aq s/\∀ s,aq s->body s (fun s'=>aq s'/\m s'<m s)
def cE {σ:Type} (ways:(σ->Prop)->Prop) (rest:σ->Prop):Prop:=∃ aj:σ->Prop,ways aj/\∀ s,aj s->rest s
section
variable {P:Program} {f:FuncId} {N:Nat} {k:List Item} {O:Env} {H:az} {n:Nat} {Q:au->az->Nat->Prop}
theorem J.aG {σ:Type} {body:σ->(σ->Prop)->Prop} {s:σ} {x:Code} (h:Ab.aG body s) (ag:σ->Env->az->Nat->Prop) (h0:ag s O H n)
  (step:∀ s O H n (K:σ->Prop),body s K->ag s O H n->(∀ s' ρ' H' n',K s'->ag s' ρ' H' n'->J P f N (.inLoop x::k) ρ' H' n' Q)->J P f N (.code x::.inLoop x::k) O H n Q) :
  J P f N (.code (.loop x)::k) O H n Q:=by
 obtain⟨aq,m,hI,hs⟩:=h;refine J.Ec (fun ai O H n=>∃ s,aq s/\m s=ai/\ag s O H n) (m s) ⟨s,hI,rfl,h0⟩ ?_;rintro _ O H n ⟨s,hI,rfl,hE⟩ IH;exact step s O H n _ (hs s hI) hE fun s' ρ' H' n' ⟨h1,h2⟩ hE'=>IH (m s') ρ' H' n' h2 ⟨s',h1,rfl,hE'⟩
theorem J.bg {fn:Func} {t:Tmp} {v:au} (hfn:P.funcs[f]?=some fn) (hr:fn.results=#[.tmp t]) (hv:O t=v) (hq:Q v H n):J P f N (.code .ret::k) O H n Q:=
 J.ret hfn (aN.one hr) (hv ▸ hq)
theorem J.j5 {fn:Func} {t u:Tmp} {v w:au} (hfn:P.funcs[f]?=some fn) (hr:fn.results=#[.tmp t,.tmp u]) (hv:O t=v) (hw:O u=w) (hq:Q (.tup [v,w]) H n):J P f N (.code .ret::k) O H n Q:=
 J.ret hfn (aN.two hr) (hv ▸ hw ▸ hq)
end
theorem aU {a b v:Int} (h:bp (a+b)) (hv:v=a+b):ax .add .i64 a b=some (int v):=by subst hv;simp only[ax];rw[wrap64 h.1 h.2]
theorem jL {a b v:Int} (h:bp (a - b)) (hv:v=a - b):ax .sub .i64 a b=some (int v):=by subst hv;simp only[ax];rw[wrap64 h.1 h.2]
section
variable {k:IntKind} {a b:Int} {c:Bool}
theorem aY (hc:c=decide (a<b)):ax .lss k a b=some (bool c):=by subst hc;rfl
theorem CZ (hc:c=decide (a<=b)):ax .leq k a b=some (bool c):=by subst hc;rfl
theorem gM (hc:c=decide (b<a)):ax .gtr k a b=some (bool c):=by subst hc;rfl
theorem nC (hc:c=decide (b<=a)):ax .geq k a b=some (bool c):=by subst hc;rfl
theorem cA (hc:c=decide (a=b)):ax .eql k a b=some (bool c):=by subst hc;simp only[ax];congr 3
theorem c4 (hc:c=decide (a ≠ b)):ax .neq k a b=some (bool c):=by
 subst hc;simp only[ax,bne]
 by_cases h:a=b<;>simp[h]
end
theorem zq {a v:Int} (h:bp (-a)) (hv:v = -a):uE .neg (int a)=some (int v):=by
 subst hv;simp only[uE];rw[show (0:Int) - a = -a by omega,wrap64 h.1 h.2]
section
variable {a b:cB} {c:Bool}
end
section
variable {α:Type} [Inhabited α] {Ty:Types} {H:az} {t:TypeId} {j:TI} {fr:Bool} {l:List α} {f:α->List au} {k:IntKind} {i:Int} {x:α}
theorem pg (hb:0<=i/\i<l.length) (hx:x=at' l i):∃ h:i.toNat<l.length,l[i.toNat]=x:=by
 have h:i.toNat<l.length:=by omega
 exact⟨h,by rw[hx,at'];simp[h]⟩
theorem aL (hk:kd Ty t = .slice j) (hf:∀ x,(f x).length=j.size) (hb:0<=i/\i<l.length) (hx:x=at' l i):aw Ty H t (.list fr (l.map f)) (.v (.int k i))=some (.iptr fr (f x)):=by
 obtain⟨h,hg⟩:=pg hb hx;have h2:(l.map f).getD i.toNat []=f x:=by
  simp[h,hg]
 simp only[aw,hk,h2,List.length_map];rw[if_pos ⟨hb.1,hb.2,hf x⟩]
theorem cP {id:Id} {g off len sz:Nat} {els:List (List au)} (hk:kd Ty t = .slice j) (hH:H id=some ⟨sz,els⟩) (hg:els.length=g) (hs:sz=j.size) (hb:0<=i/\i<len) :
  aw Ty H t (.arr id g off len) (.v (.int k i))=some (.ptr id g (off+i.toNat) 0):=by
 simp only[aw,hk,live,hH];rw[if_pos hg];simp only;rw[if_pos ⟨hb.1,hb.2,hs⟩]
theorem aE (hk:kd Ty t = .slice j) {v:Int} (hv:v=(l.length:Int)):aP Ty H t (.list fr (l.map f))=some (int v):=by
 simp only[aP,hk,List.length_map,hv]
end
theorem aM.agg {H:az} {n:Nat} {cs ds:List au} (h:dw H n cs ds):aM H n (.agg cs) (.agg ds):=by
 intro c x hH hn g r c' hw hc;obtain⟨hl,hget⟩:=h.get;cases r with
 | agg _ vs hl' hr=>
  refine .agg _ vs (by omega) fun i b x hb hx=>?_
  have hi:=(List.getElem?_eq_some_iff.1 hb).1;obtain⟨a,ha⟩:=a8 (l:=cs) (i:=i) (by omega);exact hget i a b ha hb c x hH hn g (hr i a x ha hx) c' hw hc
inductive yr (H:az):List au->List au->Prop
 | nil:yr H [] []
 | cons {a b:au} {as1 bs:List au} (h:kz H a b) (t:yr H as1 bs):yr H (a::as1) (b::bs)
theorem yr.get {H:az} {as1 bs:List au} (h:yr H as1 bs):as1.length=bs.length/\∀ (i:Nat) (a b:au),as1[i]?=some a->bs[i]?=some b->kz H a b:=by
 induction h with
 | nil=>exact⟨rfl,by simp⟩
 | cons h _ ih=>
  refine⟨by simp[ih.1],fun i a b ha hb=>?_⟩;cases i with
  | zero=>simp at ha hb;rw[<- ha,<- hb];exact h
  | succ i=>exact ih.2 i a b (by simpa using ha) (by simpa using hb)
theorem kz.Cd {H:az} {cs ds:List au} (h:yr H cs ds):kz H (.tup cs) (.tup ds):=.tup h.get.1 h.get.2
theorem kz.aggL {H:az} {cs ds:List au} (h:yr H cs ds):kz H (.agg cs) (.agg ds):=.agg h.get.1 h.get.2
section
variable {P:Program} {f:FuncId} {N:Nat} {k:List Item} {O:Env} {H:az} {n:Nat} {Q:au->az->Nat->Prop} {Ty:Types} {fn:Func}
theorem aN.mix1 (hT:aX P Ty) {r1:ResultVar} {v1:au} (h:fn.results=#[r1]) (h1:wD Ty H O r1=some v1):aN P N fn O H n v1:=by
 cases r1 with
 | tmp t=>cases h1;exact aN.one h
 | cell t ty=>
  simp only[wD] at h1
  split at h1
  ·rename_i i cs hi hv
   exact aN.cell hT h hi hv h1
  ·cases h1
theorem J.Ep (hT:aX P Ty) {r1:ResultVar} {v:au} (hfn:P.funcs[f]?=some fn) (hr:fn.results=#[r1]) (h1:wD Ty H O r1=some v) (hq:Q v H n):J P f N (.code .ret::k) O H n Q:=J.ret hfn (aN.mix1 hT hr h1) hq
end
theorem oe {α:Type} {Ty:Types} {H:az} {t:TypeId} {j:TI} {fr:Bool} {l v:List α} {f:α->List au} {lo hi:Option au} {a b:Int} (hlo:bB lo 0=some a) (hhi:bB hi l.length=some b) (hk:kd Ty t = .slice j) (hf:∀ x,(f x).length=j.size)
  (hb:0<=a/\a<=b/\b<=l.length) (hv:v=(l.take b.toNat).drop a.toNat):ca Ty H t (.list fr (l.map f)) lo hi=some (.list fr (v.map f)):=by
 subst hv;simp only[ca,hk,hlo,List.length_map,hhi];rw[if_pos ⟨hb.1,hb.2.1,hb.2.2,by simp[hf]⟩];simp[List.map_drop,List.map_take]
theorem Al {a b c:Bool} (hc:c = !(a == b)):gf .neq a b=some (bool c):=by subst hc;rfl
theorem eN (b:Bool):uE .not (bool b)=some (bool (!b)):=rfl
end Go.Ab
namespace Go.Ab
theorem fL.mono {P:Program} {H:az} {n:Nat} {cl:au} {args:List au} {R R':au->Prop} (h:fL P H n cl args R) (hr:∀ r,R r->R' r):fL P H n cl args R':=by
 obtain⟨g,first,caps,h1,h2,h3⟩:=h;exact⟨g,first,caps,h1,h2,bl.mono h3 fun _ _ _ ⟨a,b,c⟩=>⟨hr _ a,b,c⟩⟩
end Go.Ab
namespace Go.Ab
def fz (K:Id->Bool) (H:az):au->au
 | .agg cs=>.agg (fzL K H cs)
 | .tup cs=>.tup (fzL K H cs)
 | .list fr els=>.list fr (fzLL K H els)
 | .arr id g off len=>if K id then (match H id with | some o=>if o.els.length=g then .list true ((o.els.drop off).take len) else .undef | none=>.undef) else .arr id g off len
 | .ptr id g idx off=>if K id then .undef else .ptr id g idx off
 | .iptr fr cs=>.iptr fr (fzL K H cs)
 | .fn f a b=>.fn f (fzL K H a) (fzL K H b)
 | .iface t x=>.iface t (fz K H x)
 | x=>x
 where
 fzL (K:Id->Bool) (H:az):List au->List au
  | []=>[]
  | a::l=>fz K H a::fzL K H l
 fzLL (K:Id->Bool) (H:az):List (List au)->List (List au)
  | []=>[]
  | e::l=>fzL K H e::fzLL K H l
section
variable {K:Id->Bool} {H:az}
theorem q9 (l:List au):fz.fzL K H l=l.map (fz K H):=by
 induction l with
 | nil=>rfl
 | cons a l ih=>simp[fz.fzL,ih]
theorem E9 (l:List (List au)):fz.fzLL K H l=l.map (fun e=>e.map (fz K H)):=by
 induction l with
 | nil=>rfl
 | cons a l ih=>simp[fz.fzLL,ih,q9]
theorem Ff (x:Value):fz K H (.v x) = .v x:=by simp[fz]
theorem zh (cs:List au):fz K H (.agg cs) = .agg (cs.map (fz K H)):=by simp[fz,q9]
theorem Ap (cs:List au):fz K H (.tup cs) = .tup (cs.map (fz K H)):=by simp[fz,q9]
theorem oy (fr:Bool) (els:List (List au)):fz K H (.list fr els) = .list fr (els.map fun e=>e.map (fz K H)):=by simp[fz,E9]
theorem vh (fr:Bool) (cs:List au):fz K H (.iptr fr cs) = .iptr fr (cs.map (fz K H)):=by simp[fz,q9]
theorem Dn (f:Fn) (a b:List au):fz K H (.fn f a b) = .fn f (a.map (fz K H)) (b.map (fz K H)):=by simp[fz,q9]
theorem rk (t:TypeId) (x:au):fz K H (.iface t x) = .iface t (fz K H x):=by simp[fz]
theorem yG (id:Id) (g off len:Nat):fz K H (.arr id g off len)=if K id then (match H id with | some o=>if o.els.length=g then .list true ((o.els.drop off).take len) else .undef | none=>.undef) else .arr id g off len:=by simp[fz]
theorem EE (id:Id) (g idx off:Nat):fz K H (.ptr id g idx off)=if K id then .undef else .ptr id g idx off:=by simp[fz]
theorem yd:fz K H .undef = .undef:=by simp[fz]
theorem AM (fr:Bool) (els:List (List Value)):fz K H (.clip fr els) = .clip fr els:=by simp[fz]
theorem AA (fr:Bool) (els:List (List Value)):fz K H (.list fr (els.map fun e=>e.map .v)) = .list fr (els.map fun e=>e.map .v):=by
 rw[oy];simp[Ff,Function.comp_def]
theorem kF {f:au->au}:∀ {l:List au},l.map f=l->∀ a ∈ l,f a=a
 | [],_,a,h=>by cases h
 | b::l,e,a,h=>by
  simp only[List.map_cons,List.cons.injEq] at e;rcases List.mem_cons.1 h with rfl | h
  ·exact e.1
  ·exact kF e.2 a h
theorem w7 {f:au->au}:∀ {l:List (List au)},(l.map fun e=>e.map f)=l->∀ e ∈ l,∀ a ∈ e,f a=a
 | [],_,a,h=>by cases h
 | b::l,e,a,h=>by
  simp only[List.map_cons,List.cons.injEq] at e;rcases List.mem_cons.1 h with rfl | h
  ·exact kF e.1
  ·exact w7 e.2 a h
end
def fzH (K:Id->Bool) (H:az):az:=fun i=>if K i then none else (H i).map fun o=>⟨o.size,o.els.map fun e=>e.map (fz K H)⟩
theorem cZ {K:Id->Bool} {H:az} {i:Id} {o:Ob} (h:fzH K H i=some o):K i=false/\∃ o1,H i=some o1/\o=⟨o1.size,o1.els.map fun e=>e.map (fz K H)⟩:=by
 simp only[fzH] at h
 split at h
 ·cases h
 ·rename_i hk
  cases h1:H i with
  | none=>rw[h1] at h;cases h
  | some o1=>
   rw[h1] at h;cases h;exact⟨by simpa using hk,o1,rfl,rfl⟩
section
variable {c:Ctx} {K:Id->Bool}
def Ctx.BH (c:Ctx) (K:Id->Bool):Ctx:={ c with H:=fzH K c.H }
theorem se {k:Nat} (h:(c.BH K).mu k):c.mu k:=by
 obtain⟨i,o,h1,h2⟩:=h;obtain⟨_,o1,h3,_⟩:=cZ h1;exact⟨i,o1,h3,h2⟩
theorem bF.frz1 {a:au} {x:Value} (r:bF c a x):fz K c.H a=a->bF (c.BH K) a x:=by
 induction r with
 | undef x=>intro _;exact .undef x
 | v x=>intro _;exact .v x
 | agg cs vs hl _ ih=>
  intro h;rw[zh] at h
  injection h with h
  exact .agg _ vs hl fun i a x ha hx=>ih i a x ha hx (kF h a (List.mem_of_getElem? ha))
 | tup cs vs hl _ ih=>
  intro h;rw[Ap] at h
  injection h with h
  exact .tup _ vs hl fun i a x ha hx=>ih i a x ha hx (kF h a (List.mem_of_getElem? ha))
 | lnil fr=>intro _;exact .lnil fr
 | list fr els a cap sz cell hs ez hm hsz hc _ ih=>
  intro h;rw[oy] at h
  injection h with _ h
  exact .list fr els a cap sz cell hs ez (fun hne=>⟨fun hmu=>(hm hne).1 (se hmu),(hm hne).2.1,(hm hne).2.2⟩) hsz hc fun i e j y he hy=>ih i e j y he hy (w7 h e (List.mem_of_getElem? he) y (List.mem_of_getElem? hy))
 | arr id gen off len x h1 hn hg h=>
  intro hb;refine .arr id gen off len x h1 hn (fun o ho=>?_) (fun o ho hgen=>?_)
  ·obtain⟨_,o1,h3,rfl⟩:=cZ ho;simpa using hg o1 h3
  ·obtain⟨_,o1,h3,rfl⟩:=cZ ho;exact h o1 h3 (by simpa using hgen)
 | ptr id gen idx off x h1 hn hg h=>
  intro hb;refine .ptr id gen idx off x h1 hn (fun o ho=>?_) (fun o ho hgen=>?_)
  ·obtain⟨_,o1,h3,rfl⟩:=cZ ho;simpa using hg o1 h3
  ·obtain⟨_,o1,h3,rfl⟩:=cZ ho;exact h o1 h3 (by simpa using hgen)
 | iptr fr cs a cell hs hm hb hf hc _ ih=>
  intro h;rw[vh] at h
  injection h with _ h
  exact .iptr fr cs a cell hs (fun hmu=>hm (se hmu)) hb hf hc fun j y hy=>ih j y hy (kF h y (List.mem_of_getElem? hy))
 | fn f first captured vs us hl hl' _ _ ih ih'=>
  intro h;rw[Dn] at h
  injection h with _ h h'
  exact .fn f first captured vs us hl hl' (fun i a x ha hx=>ih i a x ha hx (kF h a (List.mem_of_getElem? ha))) (fun i a x ha hx=>ih' i a x ha hx (kF h' a (List.mem_of_getElem? ha)))
 | iface t a x _ ih=>
  intro h;rw[rk] at h
  injection h with _ h
  exact .iface t a x (ih h)
 | clip fr els x hf _ ih=>intro _;exact .clip fr els x hf (ih (AA fr els))
theorem bF.BH (g:Good c) (hK:∀ i o,K i=true->c.H i=some o->∀ e ∈ o.els,∀ a ∈ e,fz K c.H a=a) {a:au} {x:Value} (r:bF c a x):bF (c.BH K) (fz K c.H a) x:=by
 induction r with
 | undef x=>rw[yd];exact .undef x
 | v x=>rw[Ff];exact .v x
 | agg cs vs hl _ ih=>
  rw[zh];refine .agg _ vs (by simpa using hl) fun i a x ha hx=>?_
  obtain⟨b,hb,rfl⟩:=bt ha;exact ih i b x hb hx
 | tup cs vs hl _ ih=>
  rw[Ap];refine .tup _ vs (by simpa using hl) fun i a x ha hx=>?_
  obtain⟨b,hb,rfl⟩:=bt ha;exact ih i b x hb hx
 | lnil fr=>rw[oy];exact .lnil fr
 | list fr els a cap sz cell hs ez hm hsz hc _ ih=>
  rw[oy];have:=bF.list (c:=c.BH K) fr (els.map fun e=>e.map (fz K c.H)) a cap sz cell (fun hne=>hs (by intro h0;subst h0;simp at hne)) (by simpa using ez) (fun hne=>?_) (fun i e he=>?_) (fun i e j y he hy=>?_) (fun i e j y he hy=>?_)
  ·simpa using this
  ·obtain⟨h1,h2,h3⟩:=hm (by intro h0;simp[h0] at hne);exact⟨fun hmu=>h1 (se hmu),h2,h3⟩
  ·obtain⟨b,hb,rfl⟩:=bt he;rw[List.length_map];exact hsz i b hb
  ·obtain⟨b,hb,rfl⟩:=bt he;obtain⟨z,hz,rfl⟩:=bt hy;exact hc i b j z hb hz
  ·obtain⟨b,hb,rfl⟩:=bt he;obtain⟨z,hz,rfl⟩:=bt hy;exact ih i b j z hb hz
 | arr id gen off len x h1 hn hg h=>
  rw[yG];cases hk:K id with
  | false=>
   refine .arr id gen off len x h1 hn (fun o ho=>?_) (fun o ho hgen=>?_)
   ·obtain⟨_,o1,h3,rfl⟩:=cZ ho;simpa using hg o1 h3
   ·obtain⟨_,o1,h3,rfl⟩:=cZ ho;exact h o1 h3 (by simpa using hgen)
  | true=>
   rw[if_pos rfl];cases ho:c.H id with
   | none=>exact .undef _
   | some o=>
   simp only
   split
   ·rename_i hgen
    obtain⟨p1,⟨b,aoff,M⟩,cap,rfl,hab,hsp,hlc,db,hcl⟩:=h o ho hgen;simp only at hab hsp db;subst hab hsp;obtain⟨hB,cl,el,hcell,hfit,hel⟩:=g.obj id o ho;have hlen:((o.els.drop off).take len).length=len:=by simp;omega
    have hget:∀ (i:Nat) (e:List au),((o.els.drop off).take len)[i]?=some e->i<len/\o.els[off+i]?=some e:=by
     intro i e he;rw[List.getElem?_take] at he
     split at he
     ·rename_i hi
      rw[List.getElem?_drop] at he;exact⟨hi,he⟩
     ·cases he
    have hao:∀ (i:Nat) (e:List au),((o.els.drop off).take len)[i]?=some e->aoff=off * o.size:=by
     intro i e he;obtain⟨hi,_⟩:=hget i e he;rcases db with h | h
     ·exact h
     ·omega
    have:=bF.list (c:=c.BH K) true ((o.els.drop off).take len) ⟨c.β id,aoff,none⟩ cap o.size (fun i j=>cl.getD ((off+i) * o.size+j) Go.undef) (fun _=>rfl) (by omega) (fun _=>⟨?_,g.lt ho,fun _=>hB⟩) (fun i e he=>?_) (fun i e j y he hy=>?_) (fun i e j y he hy=>?_)
    ·rw[hlen] at this;exact this
    ·rintro⟨i,o',h3,h4⟩;obtain⟨hki,o1,h5,_⟩:=cZ h3;have:=g.inj i id o1 o h5 ho h4;subst this;rw[hk] at hki;cases hki
    ·exact (hel _ _ (hget i e he).2).1
    ·obtain⟨hi,he2⟩:=hget i e he;obtain⟨u,hu,hr⟩:=(hel _ _ he2).2 j y hy;rw[hao i e he,<- Nat.add_assoc,<- Nat.add_mul];simp[Ctx.BH,World.cell?,hcell,hu,Array.getD_eq_getD_getElem?]
    ·obtain⟨hi,he2⟩:=hget i e he;obtain⟨u,hu,hr⟩:=(hel _ _ he2).2 j y hy;rw[Array.getD_eq_getD_getElem?,hu];exact hr.frz1 (hK id o hk ho e (List.mem_of_getElem? he2) y (List.mem_of_getElem? hy))
   ·exact .undef _
 | ptr id gen idx off x h1 hn hg h=>
  rw[EE];cases hk:K id with
  | true=>exact .undef _
  | false=>
   refine .ptr id gen idx off x h1 hn (fun o ho=>?_) (fun o ho hgen=>?_)
   ·obtain⟨_,o1,h3,rfl⟩:=cZ ho;simpa using hg o1 h3
   ·obtain⟨_,o1,h3,rfl⟩:=cZ ho;exact h o1 h3 (by simpa using hgen)
 | iptr fr cs a cell hs hm hb hf hc _ ih=>
  rw[vh];refine .iptr fr _ a cell hs (fun hmu=>hm (se hmu)) hb hf (fun j y hy=>?_) (fun j y hy=>?_)
  ·obtain⟨z,hz,rfl⟩:=bt hy;exact hc j z hz
  ·obtain⟨z,hz,rfl⟩:=bt hy;exact ih j z hz
 | fn f first captured vs us hl hl' _ _ ih ih'=>
  rw[Dn];refine .fn f _ _ vs us (by simpa using hl) (by simpa using hl') (fun i a x ha hx=>?_) (fun i a x ha hx=>?_)
  ·obtain⟨z,hz,rfl⟩:=bt ha;exact ih i z x hz hx
  ·obtain⟨z,hz,rfl⟩:=bt ha;exact ih' i z x hz hx
 | iface t a x _ ih=>rw[rk];exact .iface t _ x ih
 | clip fr els x hf _ ih=>rw[AM];rw[AA] at ih;exact .clip fr els x hf ih
end
theorem pU.fz {n:Nat} {K:Id->Bool} {H:az} (hK:∀ i,K i=true->n<=i.1) {a:au} (h:pU n a):Ab.fz K H a=a:=by
 have fix:∀ {l:List au},(∀ a ∈ l,Ab.fz K H a=a)->l.map (Ab.fz K H)=l:=fun {l} h=>by
  conv=>rhs;rw[<- List.map_id l]
  exact List.map_congr_left h
 induction h with
 | undef=>exact yd
 | v x=>exact Ff x
 | agg cs _ ih=>rw[zh,fix ih]
 | tup cs _ ih=>rw[Ap,fix ih]
 | list fr els _ ih=>
  rw[oy]
  congr 1
  conv=>rhs;rw[<- List.map_id els]
  exact List.map_congr_left fun e he=>fix (ih e he)
 | arr id g off len h=>
  rw[yG,if_neg];intro hk;have:=hK id hk;omega
 | ptr id g idx off h=>
  rw[EE,if_neg];intro hk;have:=hK id hk;omega
 | iptr fr cs _ ih=>rw[vh,fix ih]
 | fn f a b _ _ ih ih'=>rw[Dn,fix ih,fix ih']
 | iface t a _ ih=>rw[rk,ih]
 | clip fr els=>exact AM fr els
theorem Frame.fz {n:Nat} {K:Id->Bool} {H H1:az} (hB:Fh n H) (hK:∀ i,K i=true->n<=i.1) (h:Frame n H H1):Frame n H (fzH K H1):=fun i hi=>by
 have hk:K i=false:=by
  cases e:K i with
  | false=>rfl
  | true=>have:=hK i e;omega
 simp only[fzH,hk,Bool.false_eq_true,if_false];rw[h i hi];cases ho:H i with
 | none=>rfl
 | some o=>
  obtain⟨_,h2⟩:=hB i o ho;obtain⟨sz,els⟩:=o;simp only[Option.map_some,Option.some.injEq,Ob.mk.injEq,true_and]
  conv=>rhs;rw[<- List.map_id els]
  refine List.map_congr_left fun e he=>?_
  conv=>rhs;rw[id,<- List.map_id e]
  exact List.map_congr_left fun a ha=>pU.fz hK (h2 e he a ha)
theorem J.freeze {P:Program} {f:FuncId} {N:Nat} {k:List Item} {O:Env} {H:az} {n:Nat} {Q:au->az->Nat->Prop} (K:Id->Bool)
  (hK:∀ i o,K i=true->H i=some o->∀ e ∈ o.els,∀ a ∈ e,fz K H a=a) (h:J P f N k (fun t=>fz K H (O t)) (fzH K H) n Q):J P f N k O H n Q:=by
 intro c a hH hn g r b cs hf hk;subst hH hn;have g2:Good (c.BH K):=by
  refine⟨fun id o ho=>?_,fun id id' o o' ho ho' hb=>?_,g.Bsize,fun id o ho=>?_⟩
  ·obtain⟨_,o1,h3,_⟩:=cZ ho;exact g.stamp id o1 h3
  ·obtain⟨_,o1,h3,_⟩:=cZ ho;obtain⟨_,o2,h4,_⟩:=cZ ho';exact g.inj id id' o1 o2 h3 h4 hb
  ·obtain⟨_,o1,h3,rfl⟩:=cZ ho;obtain⟨p1,cl,el,p2,p3,p4⟩:=g.obj id o1 h3;refine⟨p1,cl,el,p2,by simpa using p3,fun i e he=>?_⟩;obtain⟨e1,he1,rfl⟩:=bt (show (o1.els.map fun e=>e.map (fz K c.H))[i]?=some e from he);refine⟨by rw[List.length_map];exact (p4 i e1 he1).1,fun j y hy=>?_⟩;obtain⟨z,hz,rfl⟩:=bt hy;obtain⟨x,hx,hr⟩:=(p4 i e1 he1).2 j z hz;exact⟨x,hx,hr.BH g hK⟩
 have r2:cL N (c.BH K) (fun t=>fz K c.H (O t)) a:=⟨r.defers,r.size,fun t=>(r.rep t).BH g hK⟩
 have k2:bh c (c.BH K):=by
  refine⟨Nat.le_refl _,rfl,Nat.le_refl _,rfl,rfl,rfl,fun k hk hm=>⟨rfl,fun h=>hm (se h)⟩,fun id o' ho hid=>?_⟩;obtain⟨_,o1,h3,rfl⟩:=cZ ho;exact⟨o1,h3,rfl,by simp,fun _=>⟨rfl,fun cl el fz h=>⟨cl,el,fz,h,Nat.le_refl _⟩⟩⟩
 obtain⟨x,v,c',fr,q,hr,hg,hke,rest⟩:=h (c.BH K) a rfl rfl g2 r2 b cs hf hk;exact⟨x,v,c',fr,q,hr,hg,k2.trans hke,rest⟩
theorem J.Fv {P:Program} {f:FuncId} {N:Nat} {k:List Item} {O:Env} {H:az} {n:Nat} {Q:au->az->Nat->Prop} (id:Id) {o:Ob} (hid:H id=some o)
  (hf:∀ e ∈ o.els,∀ a ∈ e,flat a=true) (h:J P f N k (fun t=>fz (fun i=>decide (i=id)) H (O t)) (fzH (fun i=>decide (i=id)) H) n Q):J P f N k O H n Q:=by
 refine J.freeze (fun i=>decide (i=id)) (fun i o' hi ho e he a ha=>?_) h;have hi:i=id:=by simpa using hi
 subst hi;rw[hid] at ho;cases ho;have:=hf e he a ha;cases a<;>simp[flat] at this;exact Ff _
theorem fz_own {H:az} {id:Id} {sz g:Nat} {els:List (List au)} (h:H id=some ⟨sz,els⟩) (hg:els.length=g):fz (fun i=>decide (i=id)) H (.arr id g 0 g) = .list true els:=by
 rw[yG];simp[h,hg];rw[<- hg,List.take_length]
end Go.Ab
