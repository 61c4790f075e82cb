/- Merged texts (2 of 11) of the proof that ends in Fpy: K L M N T Tb Tc Td Tf Vc Te. -/
import Derived.Test.YtiokiodmcghlhaaDoorAbQfp1
import Derived.Still
import Derived.Orders
import Derived.Laws.Strings
/- The abstract machine, part K: values handed over and handed back; loops; names for plain values. -/
namespace Go.Ab
set_option linter.unusedSectionVars false
variable [Inhabited Tabs]
abbrev Str:=List UInt8
abbrev int (n:Int):AVal:=.v (.int .i64 n)
abbrev bool (b:Bool):AVal:=.v (.bool b)
abbrev str (s:Str):AVal:=.v (.string ⟨s.toArray⟩)
def old:AVal→AVal
 | .agg cs=>.agg (oldL cs)
 | .tup cs=>.tup (oldL cs)
 | .list _ els=>.list false (oldLL els)
 | .iface t x=>.iface t (old x)
 | x=>x
 where
 oldL:List AVal→List AVal
  | []=>[]
  | a::l=>old a::oldL l
 oldLL:List (List AVal)→List (List AVal)
  | []=>[]
  | e::l=>oldL e::oldLL l
theorem oldL_eq (l:List AVal):old.oldL l=l.map old:=by
 induction l with
 | nil=>rfl
 | cons a l ih=>simp[old.oldL,ih]
theorem oldLL_eq (l:List (List AVal)):old.oldLL l=l.map (fun e=>e.map old):=by
 induction l with
 | nil=>rfl
 | cons a l ih=>simp[old.oldLL,ih,oldL_eq]
theorem old_v (x:Value):old (.v x) = .v x:=rfl
theorem old_agg (cs:List AVal):old (.agg cs) = .agg (cs.map old):=by simp[old,oldL_eq]
theorem old_list (fr:Bool) (els:List (List AVal)):old (.list fr els) = .list false (els.map (fun e=>e.map old)):=by simp[old,oldLL_eq]
inductive Imm:AVal→Prop
 | v (x:Value):Imm (.v x)
 | agg (cs:List AVal) (h:∀ a ∈ cs,Imm a):Imm (.agg cs)
 | tup (cs:List AVal) (h:∀ a ∈ cs,Imm a):Imm (.tup cs)
 | list (fr:Bool) (els:List (List AVal)) (h:∀ e ∈ els,∀ a ∈ e,Imm a):Imm (.list fr els)
 | iface (t:TypeId) (a:AVal) (h:Imm a):Imm (.iface t a)
theorem map_get {α β:Type} {f:α→β} {l:List α} {i:Nat} {b:β} (h:(l.map f)[i]?=some b):∃ a,l[i]?=some a∧b=f a:=by
 rw[List.getElem?_map] at h
 cases ha:l[i]? with
 | none=>simp[ha] at h
 | some a=>simp only[ha,Option.map_some,Option.some.injEq] at h;exact⟨a,rfl,h.symm⟩
theorem no_mu {c:Ctx} (h:∀ id,c.H id=none) (k:Nat):¬ c.mu k:=by
 rintro⟨id,o,ho,_⟩
 rw[h] at ho
 cases ho
theorem Rep.old {c c':Ctx} (hw:c'.w=c.w) (hH:∀ id,c'.H id=none) {a:AVal} {x:Value} (r:Rep c a x) (hi:Imm a):Rep c' (old a) x:=by
 induction r with
 | undef=>cases hi
 | v x=>exact .v x
 | agg cs vs hl _ ih=>
  cases hi with
  | agg _ hi=>
  rw[old_agg]
  refine .agg _ vs (by simpa using hl) fun i a x ha hx=>?_
  obtain⟨b,hb,rfl⟩:=map_get ha
  exact ih i b x hb hx (hi b (List.mem_of_getElem? hb))
 | tup cs vs hl _ ih=>
  cases hi with
  | tup _ hi=>
  simp only[Ab.old,oldL_eq]
  refine .tup _ vs (by simpa using hl) fun i a x ha hx=>?_
  obtain⟨b,hb,rfl⟩:=map_get ha
  exact ih i b x hb hx (hi b (List.mem_of_getElem? hb))
 | lnil fr=>exact .lnil false
 | list fr els a cap sz cell hs hcap hm hsz hc _ ih=>
  cases hi with
  | list _ _ hi=>
  rw[old_list]
  have:=Rep.list (c:=c') false (els.map fun e=>e.map Ab.old) a cap sz cell (fun hne=>hs (by intro h0;subst h0;simp at hne)) (by simpa using hcap) (fun hne=>?_) (fun i e he=>?_) (fun i e j x he hx=>?_) (fun i e j x he hx=>?_)
  ·simpa using this
  ·obtain⟨_,h2,_⟩:=hm (by intro h0;simp[h0] at hne)
   exact⟨no_mu hH _,by rw[hw];exact h2,fun h=>by cases h⟩
  ·obtain⟨b,hb,rfl⟩:=map_get he
   rw[List.length_map];exact hsz i b hb
  ·obtain⟨b,hb,rfl⟩:=map_get he
   obtain⟨y,hy,rfl⟩:=map_get hx
   rw[hw]
   exact hc i b j y hb hy
  ·obtain⟨b,hb,rfl⟩:=map_get he
   obtain⟨y,hy,rfl⟩:=map_get hx
   exact ih i b j y hb hy (hi b (List.mem_of_getElem? hb) y (List.mem_of_getElem? hy))
 | arr=>cases hi
 | ptr=>cases hi
 | iptr=>cases hi
 | fn=>cases hi
 | iface t a x _ ih=>
  cases hi with
  | iface _ _ hi=>exact .iface t _ x (ih hi)
 | clip=>cases hi
theorem ArgOk.imm {H:Heap} {n:Nat} {a:AVal} (hi:Imm a):ArgOk H n a (old a):=fun _ _ _ _ _ r _ hw hH=>r.old hw hH hi
theorem ArgOk.v (H:Heap) (n:Nat) (x:Value):ArgOk H n (.v x) (.v x):=fun _ y _ _ _ r _ _ _=>by rw[r.v_inv];exact .v x
theorem ArgOk.imm' {H:Heap} {n:Nat} {a b:AVal} (hi:Imm a) (h:old a=b):ArgOk H n a b:=h ▸ ArgOk.imm hi
inductive Ret (H:Heap):AVal→AVal→Prop
 | v (x:Value):Ret H (.v x) (.v x)
 | agg {cs ds:List AVal} (hl:cs.length=ds.length) (h:∀ (i:Nat) (a b:AVal),cs[i]?=some a→ds[i]?=some b→Ret H a b):Ret H (.agg cs) (.agg ds)
 | tup {cs ds:List AVal} (hl:cs.length=ds.length) (h:∀ (i:Nat) (a b:AVal),cs[i]?=some a→ds[i]?=some b→Ret H a b):Ret H (.tup cs) (.tup ds)
 | list {els fls:List (List AVal)} (hl:els.length=fls.length) (hl':∀ (i:Nat) (e f:List AVal),els[i]?=some e→fls[i]?=some f→e.length=f.length)
   (h:∀ (i:Nat) (e f:List AVal) (j:Nat) (a b:AVal),els[i]?=some e→fls[i]?=some f→e[j]?=some a→f[j]?=some b→Ret H a b):Ret H (.list true els) (.list true fls)
 | nil (fr:Bool):Ret H (.v (.slice none 0 0)) (.list fr [])
 | arr {id:Id} {g off len:Nat} {o:Ob} {fls:List (List AVal)} (hlv:live H id g=some o) (hl:((o.els.drop off).take len).length=fls.length)
   (hl':∀ (i:Nat) (e f:List AVal),((o.els.drop off).take len)[i]?=some e→fls[i]?=some f→e.length=f.length)
   (h:∀ (i:Nat) (e f:List AVal) (j:Nat) (a b:AVal),((o.els.drop off).take len)[i]?=some e→fls[i]?=some f→e[j]?=some a→f[j]?=some b→Ret H a b):Ret H (.arr id g off len) (.list true fls)
theorem get_of_len {α:Type} {l:List α} {i:Nat} (h:i<l.length):∃ a,l[i]?=some a:=⟨l[i],List.getElem?_eq_getElem h⟩
theorem Rep.ret {c c':Ctx} (g:Good c) (hw:c'.w=c.w) (hmu:∀ k,c'.mu k→k<c.B) (hB:c'.B≤c.B) {a b:AVal} (r:Ret c.H a b):∀ {x:Value},Rep c a x→Rep c' b x:=by
 induction r with
 | v x=>intro y h;rw[h.v_inv];exact .v x
 | agg hl _ ih=>
  intro x hx
  cases hx with
  | agg _ vs hl' hr=>
  refine .agg _ vs (by omega) fun i b x hb hx=>?_
  have hi:=(List.getElem?_eq_some_iff.1 hb).1
  obtain⟨a,ha⟩:=get_of_len (l:=_) (i:=i) (by rw[hl];exact hi)
  exact ih i a b ha hb (hr i a x ha hx)
 | tup hl _ ih=>
  intro x hx
  cases hx with
  | tup _ vs hl' hr=>
  refine .tup _ vs (by omega) fun i b x hb hx=>?_
  have hi:=(List.getElem?_eq_some_iff.1 hb).1
  obtain⟨a,ha⟩:=get_of_len (l:=_) (i:=i) (by rw[hl];exact hi)
  exact ih i a b ha hb (hr i a x ha hx)
 | nil fr=>intro x hx;rw[hx.v_inv];exact .lnil fr
 | @list els fls hl hl' _ ih=>
  intro x hx
  cases hx with
  | lnil=>
   have:fls=[]:=List.eq_nil_of_length_eq_zero (by simpa using hl.symm)
   subst this
   exact .lnil true
  | list _ _ a cap sz cell hs hcap hm hsz hc hr=>
   have:=Rep.list (c:=c') true fls a cap sz cell (fun hne=>hs (by intro h0;subst h0;exact hne (List.eq_nil_of_length_eq_zero (by simpa using hl.symm)))) (by omega) (fun hne=>?_) (fun i f hf=>?_) (fun i f j y hf hy=>?_) (fun i f j y hf hy=>?_)
   ·rw[← hl] at this;exact this
   ·have hne':els ≠ []:=by intro h0;subst h0;exact hne (List.eq_nil_of_length_eq_zero (by simpa using hl.symm))
    obtain⟨h1,h2,h3⟩:=hm hne'
    refine⟨fun hmk=>?_,by rw[hw];exact h2,fun _=>Nat.le_trans hB (h3 rfl)⟩
    have:=hmu _ hmk
    have:=h3 rfl
    omega
   ·have hi:=(List.getElem?_eq_some_iff.1 hf).1
    obtain⟨e,he⟩:=get_of_len (l:=els) (i:=i) (by omega)
    rw[← hl' i e f he hf]
    exact hsz i e he
   ·have hi:=(List.getElem?_eq_some_iff.1 hf).1
    obtain⟨e,he⟩:=get_of_len (l:=els) (i:=i) (by omega)
    have hj:=(List.getElem?_eq_some_iff.1 hy).1
    obtain⟨z,hz⟩:=get_of_len (l:=e) (i:=j) (by rw[hl' i e f he hf];exact hj)
    rw[hw]
    exact hc i e j z he hz
   ·have hi:=(List.getElem?_eq_some_iff.1 hf).1
    obtain⟨e,he⟩:=get_of_len (l:=els) (i:=i) (by omega)
    have hj:=(List.getElem?_eq_some_iff.1 hy).1
    obtain⟨z,hz⟩:=get_of_len (l:=e) (i:=j) (by rw[hl' i e f he hf];exact hj)
    exact ih i e f j z y he hf hz hy (hr i e j z he hz)
 | @arr id gg off len o fls hlv hl hl' _ ih=>
  intro x hx
  obtain⟨l1,l2⟩:=live_some hlv
  cases hx with
  | arr _ _ _ _ _ hone hn hg hp=>
  obtain⟨p1,⟨b,aoff,sp⟩,cap,rfl,hab,hsp,hlc,hoff,hcl⟩:=hp o l1 l2
  simp only at hab hsp hoff
  subst hab hsp
  obtain⟨hBo,cl,el,hcell,hfit,hel⟩:=g.obj id o l1
  have hlen:((o.els.drop off).take len).length=len:=by simp;omega
  have hget:∀ (i:Nat) (e:List AVal),((o.els.drop off).take len)[i]?=some e→i<len∧o.els[off+i]?=some e:=by
   intro i e he
   rw[List.getElem?_take] at he
   split at he
   ·rename_i hi
    rw[List.getElem?_drop] at he
    exact⟨hi,he⟩
   ·cases he
  have key:∀ (i:Nat) (f:List AVal) (j:Nat) (y:AVal),fls[i]?=some f→f[j]?=some y→∃ e z u,((o.els.drop off).take len)[i]?=some e∧e[j]?=some z∧cl[(off+i) * o.size+j]?=some u∧Rep c z u∧aoff=off * o.size:=by
   intro i f j y hf hy
   have hi:=(List.getElem?_eq_some_iff.1 hf).1
   obtain⟨e,he⟩:=get_of_len (l:=(o.els.drop off).take len) (i:=i) (by omega)
   have hj:=(List.getElem?_eq_some_iff.1 hy).1
   obtain⟨z,hz⟩:=get_of_len (l:=e) (i:=j) (by rw[hl' i e f he hf];exact hj)
   obtain⟨hi2,he0⟩:=hget i e he
   obtain⟨u,hu,hr⟩:=(hel _ _ he0).2 j z hz
   refine⟨e,z,u,he,hz,hu,hr,?_⟩
   rcases hoff with h | h
   ·exact h
   ·omega
  have:=Rep.list (c:=c') true fls ⟨c.β id,aoff,none⟩ cap o.size (fun i j=>cl.getD ((off+i) * o.size+j) Go.undef) (fun _=>rfl) (by omega) (fun hne=>?_) (fun i f hf=>?_) (fun i f j y hf hy=>?_) (fun i f j y hf hy=>?_)
  ·rw[← hl,hlen] at this;exact this
  ·refine⟨fun hmk=>?_,by rw[hw];exact g.lt l1,fun _=>Nat.le_trans hB hBo⟩
   have:=hmu _ hmk
   simp only at this
   omega
  ·have hi:=(List.getElem?_eq_some_iff.1 hf).1
   obtain⟨e,he⟩:=get_of_len (l:=(o.els.drop off).take len) (i:=i) (by omega)
   rw[← hl' i e f he hf]
   exact (hel _ _ (hget i e he).2).1
  ·obtain⟨e,z,u,he,hz,hu,hr,hao⟩:=key i f j y hf hy
   rw[hw,hao,← Nat.add_assoc,← Nat.add_mul]
   simp[World.cell?,hcell,hu,Array.getD_eq_getD_getElem?]
  ·obtain⟨e,z,u,he,hz,hu,hr,hao⟩:=key i f j y hf hy
   rw[Array.getD_eq_getD_getElem?,hu]
   exact ih i e f j z y he hf hz hy hr
theorem ResOk.of {H:Heap} {n:Nat} {a b:AVal} (r:Ret H a b):ResOk H n a b:=by
 intro c x hH _ g hx c' hw hmu hB
 subst hH
 exact Rep.ret g hw hmu hB r hx
theorem ResOk.v (H:Heap) (n:Nat) (x:Value):ResOk H n (.v x) (.v x):=.of (.v x)
inductive Fresh:AVal→Prop
 | v (x:Value):Fresh (.v x)
 | agg (cs:List AVal) (h:∀ a ∈ cs,Fresh a):Fresh (.agg cs)
 | tup (cs:List AVal) (h:∀ a ∈ cs,Fresh a):Fresh (.tup cs)
 | list (els:List (List AVal)) (h:∀ e ∈ els,∀ a ∈ e,Fresh a):Fresh (.list true els)
@[simp] theorem fresh_v (x : Value) : Fresh (.v x) := .v x
@[simp] theorem fresh_list (els : List (List AVal)) : Fresh (.list true els) ↔ ∀ e ∈ els, ∀ a ∈ e, Fresh a := ⟨fun h => by cases h with | list _ h => exact h, .list els⟩
theorem Ret.fresh {H:Heap} {a:AVal} (h:Fresh a):Ret H a a:=by
 induction h with
 | v x=>exact .v x
 | agg cs _ ih=>exact .agg rfl fun i a b ha hb=>by rw[ha] at hb;cases hb;exact ih a (List.mem_of_getElem? ha)
 | tup cs _ ih=>exact .tup rfl fun i a b ha hb=>by rw[ha] at hb;cases hb;exact ih a (List.mem_of_getElem? ha)
 | list els _ ih=>exact .list rfl (fun i e f he hf=>by rw[he] at hf;cases hf;rfl) fun i e f j a b he hf ha hb=>by rw[he] at hf;cases hf;rw[ha] at hb;cases hb;exact ih e (List.mem_of_getElem? he) a (List.mem_of_getElem? ha)
theorem Ret.arrF {H:Heap} {id:Id} {g sz:Nat} {els:List (List AVal)} (hl:live H id g=some ⟨sz,els⟩) (h:∀ e ∈ els,∀ a ∈ e,Fresh a):Ret H (.arr id g 0 g) (.list true els):=by
 obtain⟨l1,l2⟩:=live_some hl
 simp only at l2
 have e1:((Ob.mk sz els).els.drop 0).take g=els:=by simp[← l2]
 refine .arr hl (by rw[e1]) (fun i e f he hf=>?_) fun i e f j a b he hf ha hb=>?_
 ·rw[e1,hf] at he;cases he;rfl
 ·rw[e1,hf] at he;cases he;rw[ha] at hb;cases hb;exact Ret.fresh (h e (List.mem_of_getElem? hf) a (List.mem_of_getElem? ha))
def flat:AVal→Bool
 | .v _=>true
 | _=>false
theorem Fresh.flat {a:AVal} (h:Ab.flat a=true):Fresh a:=by
 cases a<;>simp[Ab.flat] at h
 exact .v _
theorem Imm.flat {a:AVal} (h:Ab.flat a=true):Imm a:=by
 cases a<;>simp[Ab.flat] at h
 exact .v _
section
variable {P:Program} {N:Nat} {fn:Func} {ρ:Env} {H:Heap} {n:Nat}
theorem RetOk.one {t:Tmp} (h:fn.results=#[.tmp t]):RetOk P N fn ρ H n (ρ t):=fun c a _ _ _ r=>⟨a.tmps.getD t undef,results_tmp h a.tmps P c.w,r.rep t⟩
theorem RetOk.two {t u:Tmp} (h:fn.results=#[.tmp t,.tmp u]):RetOk P N fn ρ H n (.tup [ρ t,ρ u]):=fun c a _ _ _ r=>
 ⟨.tuple [a.tmps.getD t undef,a.tmps.getD u undef].toArray,by simp[results,h],.tup _ _ rfl fun i b x hb hx=>by
  match i with
  | 0=>simp at hb hx;rw[← hb,← hx];simpa using r.rep t
  | 1=>simp at hb hx;rw[← hb,← hx];simpa using r.rep u
  | i+2=>simp at hb⟩
theorem RetOk.three {t u v:Tmp} (h:fn.results=#[.tmp t,.tmp u,.tmp v]):RetOk P N fn ρ H n (.tup [ρ t,ρ u,ρ v]):=fun c a _ _ _ r=>
 ⟨.tuple [a.tmps.getD t undef,a.tmps.getD u undef,a.tmps.getD v undef].toArray,by simp[results,h],.tup _ _ rfl fun i b x hb hx=>by
  match i with
  | 0=>simp at hb hx;rw[← hb,← hx];simpa using r.rep t
  | 1=>simp at hb hx;rw[← hb,← hx];simpa using r.rep u
  | 2=>simp at hb hx;rw[← hb,← hx];simpa using r.rep v
  | i+3=>simp at hb⟩
end
section
variable {P:Program} {f:FuncId} {N:Nat} {k:List Item} {ρ:Env} {H:Heap} {n:Nat} {Q:AVal→Heap→Nat→Prop}
theorem Runs.loopUp {x:Code} (len:Nat) (I:Nat→Env→Heap→Nat→Prop) (h0:I 0 ρ H n)
  (step:∀ i ρ H n,i≤len→I i ρ H n→(i<len→∀ ρ' H' n',I (i+1) ρ' H' n'→Runs P f N (.inLoop x::k) ρ' H' n' Q)→Runs P f N (.code x::.inLoop x::k) ρ H n Q) :
  Runs P f N (.code (.loop x)::k) ρ H n Q:=by
 have key:∀ m i ρ H n,i+m=len→I i ρ H n→Runs P f N (.code x::.inLoop x::k) ρ H n Q:=by
  intro m
  induction m with
  | zero=>intro i ρ H n hi hI;exact step i ρ H n (by omega) hI (fun h=>by omega)
  | succ m ih=>intro i ρ H n hi hI;exact step i ρ H n (by omega) hI (fun _ ρ' H' n' hI'=>Runs.inLoop (ih (i+1) ρ' H' n' (by omega) hI'))
 exact Runs.loop (key len 0 ρ H n (by omega) h0)
theorem Runs.loopM {x:Code} (I:Nat→Env→Heap→Nat→Prop) (m:Nat) (h0:I m ρ H n)
  (step:∀ m ρ H n,I m ρ H n→(∀ m' ρ' H' n',m'<m→I m' ρ' H' n'→Runs P f N (.inLoop x::k) ρ' H' n' Q)→Runs P f N (.code x::.inLoop x::k) ρ H n Q) :
  Runs P f N (.code (.loop x)::k) ρ H n Q:=by
 have key:∀ m ρ H n,I m ρ H n→Runs P f N (.code x::.inLoop x::k) ρ H n Q:=by
  intro m
  induction m using Nat.strongRecOn with
  | _ m ih=>intro ρ H n hI;exact step m ρ H n hI (fun m' ρ' H' n' hm hI'=>Runs.inLoop (ih m' hm ρ' H' n' hI'))
 exact Runs.loop (key m ρ H n h0)
theorem Runs.ite {t:Operand} {x y:Code} {b:Bool} (hb:ρ.ev t = .v (.bool b)) (hy:b=true→Runs P f N (.code x::k) ρ H n Q) (hn:b=false→Runs P f N (.code y::k) ρ H n Q):Runs P f N (.code (.cond t x y)::k) ρ H n Q:=by
 cases b with
 | true=>exact Runs.cond hb (hy rfl)
 | false=>exact Runs.cond hb (hn rfl)
end
theorem wrap64 {x:Int} (h1 : -9223372036854775808≤x) (h2:x≤9223372036854775807):IntKind.i64.wrap x=x:=by
 simp only[IntKind.wrap,IntKind.bits,IntKind.signed]
 simp only[Bool.true_and]
 split<;>rename_i h<;>simp at h<;>omega
theorem wrap_succ {k:Nat} (h:k<4611686018427387904):IntKind.i64.wrap ((k:Int)+1)=((k+1:Nat):Int):=by
 rw[wrap64 (by omega) (by omega)];omega
section
variable {P:Program} {f:FuncId} {N:Nat} {k:List Item} {ρ:Env} {H:Heap} {n:Nat} {Q:AVal→Heap→Nat→Prop} {Ty:Types}
theorem Runs.seqE (hT:TypesOk P Ty) {id:Nat} {ops:List Oper} {y:Code} (hN:ops.all (fun o=>dok N o.dst)=true)
  (h:∀ k':List Item,(∀ ρ H n,Runs P f N (.code y::k) ρ H n Q→Runs P f N k' ρ H n Q)→evalK P f N k' Q Ty ops.toArray ops ρ H n):Runs P f N (.code (.seq (.region id ops.toArray false) y)::k) ρ H n Q:=
 Runs.seq (Runs.eval hT hN (h (.code y::k) fun _ _ _ h=>h))
theorem Runs.evalE (hT:TypesOk P Ty) {id:Nat} {ops:List Oper} (hN:ops.all (fun o=>dok N o.dst)=true)
  (h:∀ k':List Item,(∀ ρ H n,Runs P f N k ρ H n Q→Runs P f N k' ρ H n Q)→evalK P f N k' Q Ty ops.toArray ops ρ H n):Runs P f N (.code (.region id ops.toArray false)::k) ρ H n Q:=
 Runs.eval hT hN (h k fun _ _ _ h=>h)
end
def Post (R:AVal→Prop) (Q:AVal→Heap→Nat→Prop):Prop:=∀ v H n r,ResOk H n v r→R r→Q v H n
theorem PureC.of {P:Program} {f:FuncId} {fn:Func} {body:Code} {args:List AVal} {R:AVal→Prop} {N:Nat} (hfn:P.funcs[f]?=some fn) (hb:fn.body=some body) (hn:fn.ntmps=N) (hN:args.length≤N)
  (h:∀ Q,Post R Q→Runs P f N [.code body] (argEnv args) noHeap 0 Q):PureC P f args R:=by
 subst hn
 exact PureC.of_runs hfn hb hN (h _ fun v H n r h1 h2=>⟨r,h1,h2⟩)
attribute [simp] Heap.set_set evalK_guard stepF guardOf Env.put_get Env.put_none Env.ev constA argEnv Heap.get_set viewOf live loadA partA fillA splice cellsA one1 one buildF chunks intBin strBin binF boolBin unF convF lenF indexAddrF indexF boundOf sliceF storeF ptrAdd Ob.write srcOf appendF makeF
end Go.Ab
/- The abstract machine, part L: a region that draws its order: one evaluation in the text's order serves every order. -/
namespace Go.Ab
set_option linter.unusedSectionVars false
variable [Inhabited Tabs]
def tmpsOf (op:Op):List Tmp:=op.operands.toList.filterMap fun | .tmp t=>some t | _=>none
def loc (op:Op) (ρ:Env):Env:=fun t=>if (tmpsOf op).contains t then ρ t else .undef
theorem loc_ev {op:Op} {ρ:Env} {x:Operand} (h:x ∈ op.operands):(loc op ρ).ev x=ρ.ev x:=by
 cases x with
 | tmp t=>
  have:t ∈ tmpsOf op:=List.mem_filterMap.2 ⟨.tmp t,by simpa using h,rfl⟩
  simp[Env.ev,loc,this]
 | _=>rfl
theorem loc_put {op:Op} {ρ:Env} {d:Option Tmp} {v:AVal} (h:∀ t,d=some t→t ∉ tmpsOf op):loc op (ρ.put d v)=loc op ρ:=by
 cases d with
 | none=>rfl
 | some d=>
  funext t
  simp only[loc,Env.put]
  split
  ·rename_i ht
   rw[if_neg]
   intro he
   subst he
   exact h t rfl (by simpa using ht)
  ·rfl
theorem RelE.loc {N:Nat} {c:Ctx} {ρ:Env} {a:Act} (op:Op) (r:RelE N c ρ a):RelE N c (loc op ρ) a:=by
 refine⟨r.defers,r.size,fun t=>?_⟩
 simp only[Ab.loc]
 split
 ·exact r.rep t
 ·exact .undef _
theorem put_comm {ρ:Env} {x y:Option Nat} (v u:AVal) (h:∀ d,x=some d→y ≠ some d):(ρ.put x v).put y u=(ρ.put y u).put x v:=by
 cases x with
 | none=>rfl
 | some d=>
  cases y with
  | none=>rfl
  | some e=>
   have hne:d ≠ e:=fun he=>h d rfl (he ▸ rfl)
   funext t
   simp only[Env.put]
   by_cases h1:t=e<;>by_cases h2:t=d<;>simp_all
def kindOp:Op→Nat
 | .move _ | .assign _ | .pick .. | .binOp .. | .unOp .. | .convert .. | .makeFunc .. | .extract .. | .field .. | .index .. | .build ..=>0
 | .load .. | .fieldAddr .. | .indexAddr .. | .slice .. | .nilCheck _ | .call ⟨.builtin .len,_,_⟩ | .call ⟨.value _,_,_⟩=>1
 | .buildSlice _ len _=>if len=0 then 2 else 0
 | _=>2
abbrev AS:=Env × Heap × Nat
def gok (ops:Array Oper) (o:Oper) (ρ:Env):Option Bool:=
 match o.guard with
 | none=>some true
 | some (j,w)=>match guardOf ops ρ j with
  | .v (.bool b)=>some (b == w)
  | .v (.tuple _)=>some false
  | _=>none
def isV (v:AVal) (H:Heap) (n:Nat):AVal→Heap→Nat→Prop:=fun v1 H1 n1=>v1=v∧H1=H∧n1=n
section
variable (P:Program) (N:Nat) (ops:Array Oper) (κ:Op→Nat)
def StepD (o:Oper) (s s':AS):Prop:=
 (gok ops o s.1=some true∧∃ v,s'.1=s.1.put o.dst v∧(κ o.op=0→s'.2=s.2∧∀ H n,OpSem P N o (loc o.op s.1) H n (isV v H n))∧(κ o.op=1→s'.2=s.2)∧OpSem P N o (loc o.op s.1) s.2.1 s.2.2 (isV v s'.2.1 s'.2.2)) ∨
 (gok ops o s.1=some false∧s'=(s.1.put o.dst skv,s.2))
def AnyA (R:AS→Prop):Nat→Array Bool→AS→Prop
 | 0,listed,s=>Region.ready .any ops listed=[]∧R s
 | fuel+1,listed,s=>(Region.ready .any ops listed=[]→R s)∧∀ i ∈ Region.ready .any ops listed,∃ o s',ops[i]?=some o∧StepD P N ops κ o s s'∧AnyA R fuel (listed.setIfInBounds i true) s'
def RunD (R:AS→Prop):List Oper→AS→Prop
 | [],s=>R s
 | o::l,s=>∃ s',StepD P N ops κ o s s'∧RunD R l s'
end
def compat (a b:Nat):Bool:=a == 0 || b == 0 || (a == 1 && b == 1)
section
variable {P:Program} {N:Nat} {ops:Array Oper} {κ:Op→Nat}
theorem gok_put {o:Oper} {ρ:Env} {d:Option Tmp} {v:AVal} (h:∀ t,d=some t→t ∉ o.looksAt ops):gok ops o (ρ.put d v)=gok ops o ρ:=by
 unfold gok
 cases hg:o.guard with
 | none=>rfl
 | some gw=>
  obtain⟨j,w⟩:=gw
  have:guardOf ops (ρ.put d v) j=guardOf ops ρ j:=by
   unfold guardOf
   cases ht:(ops[j]?).bind (·.dst) with
   | none=>rfl
   | some t=>
    cases d with
    | none=>rfl
    | some d=>
     simp only[Env.put]
     rw[if_neg]
     intro he
     subst he
     exact h t rfl (by simp[Oper.looksAt,hg,ht])
  simp only[this]
theorem looks_tmps {o:Oper} {d:Option Tmp} (h:∀ t,d=some t→t ∉ o.looksAt ops):∀ t,d=some t→t ∉ tmpsOf o.op:=fun t ht hm=>by
 obtain⟨x,hx,he⟩:=List.mem_filterMap.1 hm
 cases x with
 | tmp t'=>cases he;exact h _ ht (List.mem_append_left _ (List.mem_filterMap.2 ⟨.tmp _,hx,rfl⟩))
 | _=>cases he
theorem StepD.diamond {oi oj:Oper} (hap:oi.apart ops oj=true) (hc:compat (κ oi.op) (κ oj.op)=true) {s si sij:AS} (hi:StepD P N ops κ oi s si) (hj:StepD P N ops κ oj si sij):∃ sj,StepD P N ops κ oj s sj∧StepD P N ops κ oi sj sij:=by
 obtain⟨h1,h2,h3⟩:=Oper.apart_spec hap
 have lj:∀ v,loc oj.op (s.1.put oi.dst v)=loc oj.op s.1:=fun v=>loc_put (looks_tmps h1)
 have li:∀ v,loc oi.op (s.1.put oj.dst v)=loc oi.op s.1:=fun v=>loc_put (looks_tmps h3)
 have gj:∀ v,gok ops oj (s.1.put oi.dst v)=gok ops oj s.1:=fun v=>gok_put h1
 have gi:∀ v,gok ops oi (s.1.put oj.dst v)=gok ops oi s.1:=fun v=>gok_put h3
 have hcc:κ oi.op=0∨κ oj.op=0∨(κ oi.op=1∧κ oj.op=1):=by
  simp only[compat,Bool.or_eq_true,beq_iff_eq,Bool.and_eq_true] at hc
  rcases hc with (h | h) | h
  ·exact .inl h
  ·exact .inr (.inl h)
  ·exact .inr (.inr h)
 obtain⟨ρ,H,n⟩:=s
 obtain⟨ρi,Hi,ni⟩:=si
 obtain⟨ρj,Hj,nj⟩:=sij
 simp only at lj li gj gi
 rcases hi with ⟨hgi,v,hv,hk0,hk1,hop⟩ | ⟨hgi,hs⟩
 ·simp only at hgi hv hk0 hk1 hop
  subst hv
  rcases hj with ⟨hgj,u,hu,hl0,hl1,hoq⟩ | ⟨hgj,hs'⟩
  ·simp only at hgj hu hl0 hl1 hoq
   subst hu
   rw[gj] at hgj
   rw[lj] at hl0 hoq
   rcases hcc with h0 | h0 | ⟨h0,h0'⟩
   ·obtain⟨he,hall⟩:=hk0 h0
    cases he
    refine⟨(ρ.put oj.dst u,Hj,nj),.inl ⟨hgj,u,rfl,hl0,hl1,hoq⟩,.inl ⟨by simpa only [gi] using hgi,v,by rw[put_comm v u h2],fun _=>⟨rfl,by simpa only [li] using hall⟩,fun _=>rfl,?_⟩⟩
    simp only[li]
    exact hall Hj nj
   ·obtain⟨he,hall⟩:=hl0 h0
    cases he
    refine⟨(ρ.put oj.dst u,H,n),.inl ⟨hgj,u,rfl,fun _=>⟨rfl,hall⟩,fun _=>rfl,hall H n⟩,.inl ⟨by simpa only [gi] using hgi,v,by rw[put_comm v u h2],by simpa only [li] using hk0,hk1,?_⟩⟩
    simp only[li]
    exact hop
   ·have e1:=hk1 h0
    have e2:=hl1 h0'
    cases e1
    cases e2
    refine⟨(ρ.put oj.dst u,H,n),.inl ⟨hgj,u,rfl,hl0,hl1,hoq⟩,.inl ⟨by simpa only [gi] using hgi,v,by rw[put_comm v u h2],by simpa only [li] using hk0,hk1,?_⟩⟩
    simp only[li]
    exact hop
  ·simp only at hgj hs'
   cases hs'
   rw[gj] at hgj
   refine⟨(ρ.put oj.dst skv,H,n),.inr ⟨hgj,rfl⟩,.inl ⟨by simpa only [gi] using hgi,v,by rw[put_comm v skv h2],by simpa only [li] using hk0,hk1,?_⟩⟩
   simp only[li]
   exact hop
 ·simp only at hgi hs
  cases hs
  rcases hj with ⟨hgj,u,hu,hl0,hl1,hoq⟩ | ⟨hgj,hs'⟩
  ·simp only at hgj hu hl0 hl1 hoq
   subst hu
   rw[gj] at hgj
   rw[lj] at hl0 hoq
   exact⟨(ρ.put oj.dst u,Hj,nj),.inl ⟨hgj,u,rfl,hl0,hl1,hoq⟩,.inr ⟨by simpa only [gi] using hgi,by rw[put_comm skv u h2]⟩⟩
  ·simp only at hgj hs'
   cases hs'
   rw[gj] at hgj
   exact⟨(ρ.put oj.dst skv,H,n),.inr ⟨hgj,rfl⟩,.inr ⟨by simpa only [gi] using hgi,by rw[put_comm skv skv h2]⟩⟩
theorem AnyA.first {R:AS→Prop} {i:Nat} {oi:Oper} (hi:ops[i]?=some oi) (D:List Nat) (hD:∀ j oj,ops[j]?=some oj→j ∈ D→j ≠ i→∃ e ∈ oj.after,Region.binds .any e=true∧e.on ∈ D):∀ (fuel:Nat) (listed:Array Bool) (s s':AS),
  (∀ j ∈ D,listed.getD j true=false)→(∀ j oj,ops[j]?=some oj→j ≠ i→listed.getD j true=false→j ∉ D→oi.apart ops oj=true∧compat (κ oi.op) (κ oj.op)=true) →
  i ∈ Region.ready .any ops listed→StepD P N ops κ oi s s'→AnyA P N ops κ R fuel (listed.setIfInBounds i true) s'→AnyA P N ops κ R (fuel+1) listed s:=by
 intro fuel
 induction fuel with
 | zero=>
  intro listed s s' _ _ hr hst H
  refine⟨fun h=>(by rw[h] at hr;cases hr),fun j hj=>?_⟩
  by_cases hji:j=i
  ·subst hji;exact⟨oi,s',hi,hst,H⟩
  ·have:=ready_mono hj hji
   rw[H.1] at this
   cases this
 | succ fuel ih=>
  intro listed s s' hinv hfree hr hst H
  refine⟨fun h=>(by rw[h] at hr;cases hr),fun j hj=>?_⟩
  by_cases hji:j=i
  ·subst hji;exact⟨oi,s',hi,hst,H⟩
  ·obtain⟨oj,s'',hoj,hstj,hrest⟩:=H.2 j (ready_mono hj hji)
   obtain⟨hjun,oj',hoj',hall⟩:=mem_ready.1 hj
   rw[hoj] at hoj'
   cases hoj'
   have hnot:j ∉ D:=fun hd=>by
    obtain⟨e,he,hb,hed⟩:=hD j oj hoj hd hji
    have h1:=hall e he hb
    have h0:=hinv e.on hed
    rcases Nat.lt_or_ge e.on listed.size with h' | h'
    ·simp[h'] at h0 h1;rw[h0] at h1;cases h1
    ·simp[Array.getElem?_eq_none h'] at h1
   obtain⟨hap,hco⟩:=hfree j oj hoj hji hjun hnot
   obtain⟨sj,h1,h2⟩:=StepD.diamond hap hco hst hstj
   refine⟨oj,sj,hoj,h1,ih (listed.setIfInBounds j true) sj s'' (fun k hk=>?_) (fun k ok hk hki hun hno=>?_) (ready_mono hr (Ne.symm hji)) h2 ?_⟩
   ·have hjk:j ≠ k:=fun he=>hnot (he ▸ hk)
    rw[getD_set_ne true hjk]
    exact hinv k hk
   ·refine hfree k ok hk hki ?_ hno
    by_cases hjk:j=k
    ·subst hjk;exact hjun
    ·rw[getD_set_ne true hjk] at hun;exact hun
   ·rw[Array.setIfInBounds_comm _ _ hji]
    exact hrest
def behind (ops:Array Oper) (i:Nat):List Nat:=
 (List.range ops.size).foldl (fun D j=>match ops[j]? with
  | some oj=>if oj.after.any (fun e=>Region.binds .any e && D.contains e.on) then j::D else D
  | none=>D) [i]
def freeD (κ:Op→Nat) (ops:Array Oper) (listed:Array Bool) (i:Nat):Bool:=
 match ops[i]? with
 | none=>false
 | some oi=>((behind ops i).all fun j => !(listed.getD j true) && match ops[j]? with
   | none=>true
   | some oj=>j == i || oj.after.any (fun e=>Region.binds .any e && (behind ops i).contains e.on)) &&
  (List.range ops.size).all fun j=>match ops[j]? with
  | none=>true
  | some oj=>j == i || listed.getD j true || (behind ops i).contains j || (oi.apart ops oj && compat (κ oi.op) (κ oj.op))
def lexD (κ:Op→Nat) (ops:Array Oper):Nat→Nat→Array Bool→Bool
 | 0,_,listed=>(Region.ready .any ops listed).isEmpty
 | fuel+1,k,listed=>(Region.ready .any ops listed).contains k && freeD κ ops listed k && lexD κ ops fuel (k+1) (listed.setIfInBounds k true)
def drawOk (κ:Op→Nat) (ops:Array Oper):Bool:=lexD κ ops ops.size 0 (Array.replicate ops.size false)
theorem freeD_spec {listed:Array Bool} {i:Nat} {oi:Oper} (hi:ops[i]?=some oi) (h:freeD κ ops listed i=true) :
  (∀ j oj,ops[j]?=some oj→j ∈ behind ops i→j ≠ i→∃ e ∈ oj.after,Region.binds .any e=true∧e.on ∈ behind ops i)∧(∀ j ∈ behind ops i,listed.getD j true=false) ∧
  ∀ j oj,ops[j]?=some oj→j ≠ i→listed.getD j true=false→j ∉ behind ops i→oi.apart ops oj=true∧compat (κ oi.op) (κ oj.op)=true:=by
 unfold freeD at h
 simp only[hi,Bool.and_eq_true] at h
 obtain⟨h1,h2⟩:=h
 refine⟨fun j oj hj hd hji=>?_,fun j hd=>?_,fun j oj hj hji hun hno=>?_⟩
 ·have:=List.all_eq_true.1 h1 j hd
  simp only[hj,Bool.and_eq_true,Bool.or_eq_true,beq_iff_eq] at this
  rcases this.2 with h3 | h3
  ·exact absurd h3 hji
  ·obtain⟨e,he,hb⟩:=Array.any_eq_true'.1 h3
   simp only[Bool.and_eq_true,List.contains_iff_mem] at hb
   exact⟨e,he,hb.1,hb.2⟩
 ·have:=List.all_eq_true.1 h1 j hd
  simp only[Bool.and_eq_true,Bool.not_eq_true'] at this
  exact this.1
 ·have hlt:j<ops.size:=(Array.getElem?_eq_some_iff.1 hj).1
  have:=List.all_eq_true.1 h2 j (List.mem_range.2 hlt)
  simp only[hj,hun,Bool.or_false,Bool.or_eq_true,beq_iff_eq,Bool.and_eq_true,List.contains_iff_mem] at this
  rcases this with (h1 | h1) | h1
  ·exact absurd h1 hji
  ·exact absurd h1 hno
  ·exact h1
theorem AnyA.lex {R:AS→Prop}:∀ (l:List Oper) (k:Nat) (listed:Array Bool) (s:AS),(∀ j:Nat,l[j]?=ops[k+j]?)→lexD κ ops l.length k listed=true→RunD P N ops κ R l s→AnyA P N ops κ R l.length listed s
 | [],_,_,_,_,hB,h=>⟨by simpa[lexD] using hB,h⟩
 | o::l,k,listed,s,hl,hB,h=>by
  have h0:ops[k]?=some o:=by simpa using (hl 0).symm
  simp only[List.length_cons,lexD,Bool.and_eq_true] at hB
  obtain⟨⟨hr,hf⟩,hB'⟩:=hB
  obtain⟨s',hst,hrest⟩:=h
  obtain⟨f1,f2,f3⟩:=freeD_spec h0 hf
  exact AnyA.first h0 (behind ops k) f1 l.length listed s s' f2 f3 (by simpa using hr) hst
   (AnyA.lex l (k+1) _ _ (fun j=>by have:=hl (j+1);simpa[Nat.add_assoc,Nat.add_comm 1 j] using this) hB' hrest)
theorem wanted_of_gok {c:Ctx} {ρ:Env} {a:Act} (r:RelE N c ρ a) (hN:ops.toList.all (fun o=>dok N o.dst)=true) {o:Oper} {b:Bool} (h:gok ops o ρ=some b):Region.wanted o (yielded ops a.tmps)=b:=by
 unfold gok at h
 cases hg:o.guard with
 | none=>simp only[hg,Option.some.injEq] at h;simp[Region.wanted,hg,← h]
 | some gw=>
  obtain⟨j,w⟩:=gw
  simp only[hg] at h
  split at h
  ·rename_i b' hv
   unfold guardOf at hv
   split at hv
   ·rename_i t hj
    have ht:dok N (some t)=true:=by
     cases ho:ops[j]? with
     | none=>simp[ho] at hj
     | some o'=>
      simp only[ho,Option.bind_some] at hj
      have:=List.all_eq_true.1 hN o' (by rw[← Array.getElem?_toList] at ho;exact List.mem_of_getElem? ho)
      rw[hj] at this
      exact this
    have hy:=yielded_of r hj ht hv
    simp only[Option.some.injEq] at h
    subst h
    simp only[Region.wanted,hg,hy]
    cases b'<;>cases w<;>rfl
   ·cases hv
  ·rename_i xs hv
   unfold guardOf at hv
   split at hv
   ·rename_i t hj
    have ht:dok N (some t)=true:=by
     cases ho:ops[j]? with
     | none=>simp[ho] at hj
     | some o'=>
      simp only[ho,Option.bind_some] at hj
      have:=List.all_eq_true.1 hN o' (by rw[← Array.getElem?_toList] at ho;exact List.mem_of_getElem? ho)
      rw[hj] at this
      exact this
    have hy:=yielded_none r hj ht hv
    simp only[Option.some.injEq] at h
    subst h
    simp only[Region.wanted,hg,hy]
    rfl
   ·cases hv
  ·cases h
theorem AnyA.sound {R:AS→Prop} (hN:ops.toList.all (fun o=>dok N o.dst)=true) {Q:Exit→Act→World→Prop} {c0:Ctx} (hQ:∀ a c ρ,Keeps c0 c→Good c→RelE N c ρ a→R (ρ,c.H,c.n)→Q .normal a c.w) :
  ∀ (fuel:Nat) (listed:Array Bool) (ρ:Env) (c:Ctx) (a:Act),Keeps c0 c→Good c→RelE N c ρ a→AnyA P N ops κ R fuel listed (ρ,c.H,c.n)→wpAny P .any ops Q fuel listed a c.w
 | 0,_,_,_,_,hk,g,r,h=>⟨h.1,hQ _ _ _ hk g r h.2⟩
 | fuel+1,listed,ρ,c,a,hk,g,r,h=>by
  refine⟨fun h0=>hQ _ _ _ hk g r (h.1 h0),fun i hi=>?_⟩
  obtain⟨o,s',ho,hst,hrest⟩:=h.2 i hi
  obtain⟨ρ',H',n'⟩:=s'
  have hd:dok N o.dst=true:=List.all_eq_true.1 hN o (by rw[← Array.getElem?_toList] at ho;exact List.mem_of_getElem? ho)
  unfold wpOp
  simp only[ho]
  rcases hst with ⟨hg,v,hv,_,_,hop⟩ | ⟨hg,hs⟩
  ·rw[if_pos (wanted_of_gok r hN hg)]
   simp only at hv hop
   subst hv
   refine .inl (hop c a rfl rfl g (r.loc o.op) _ _ ?_)
   rintro v1 x c' ⟨rfl,hH,hn⟩ hrep hgood hkeep
   exact AnyA.sound hN hQ fuel _ _ c' _ (hk.trans hkeep) hgood ((r.keeps hkeep).put hd hrep) (by rw[hH,hn];exact hrest)
  ·rw[if_neg (by rw[wanted_of_gok r hN hg];simp)]
   cases hs
   exact AnyA.sound hN hQ fuel _ _ c _ hk g (r.put hd (.v _)) hrest
end
section
variable {P:Program} {f:FuncId} {N:Nat} {k:List Item} {ρ:Env} {H:Heap} {n:Nat} {Q:AVal→Heap→Nat→Prop} {κ:Op→Nat}
theorem Runs.draw {id:Nat} {ops:List Oper} (hm:P.follows .mixedOrders=true) (hN:ops.all (fun o=>dok N o.dst)=true) (hB:drawOk κ ops.toArray=true)
  (h:RunD P N ops.toArray κ (fun s=>Runs P f N k s.1 s.2.1 s.2.2 Q) ops (ρ,H,n)):Runs P f N (.code (.region id ops.toArray true)::k) ρ H n Q:=by
 intro c a hH hn g r b cs hf hk
 subst hH
 subst hn
 obtain⟨d1,d2⟩:=draw_keeps g
 have hany:=AnyA.lex (P:=P) (N:=N) (κ:=κ) (ops:=ops.toArray) ops 0 (Array.replicate ops.toArray.size false) (ρ,c.H,c.n) (by simp) (by simpa[drawOk] using hB) h
 have hw:(Code.region id ops.toArray true).wp P (fun e a' w'=>e = .normal∧∃ c' ρ',c'.w=w'∧Keeps c c'∧Good c'∧RelE N c' ρ' a'∧Runs P f N k ρ' c'.H c'.n Q) a c.w:=by
  refine wp_region_any hm ?_
  have:=AnyA.sound (P:=P) (N:=N) (κ:=κ) (ops:=ops.toArray) (c0:=c) (by simpa using hN) (Q:=fun e a' w'=>e = .normal∧∃ c' ρ',c'.w=w'∧Keeps c c'∧Good c'∧RelE N c' ρ' a'∧Runs P f N k ρ' c'.H c'.n Q)
   (R:=fun s=>Runs P f N k s.1 s.2.1 s.2.2 Q) (fun a' c' ρ' hk' hg' hr' hR=>⟨rfl,c',ρ',rfl,hk',hg',hr',hR⟩) ops.length (Array.replicate ops.toArray.size false) ρ { c with w:={ c.w with drawn:=c.w.drawn+1 } } a d1 d2 (r.keeps d1) hany
  simpa using this
 obtain⟨e,a',w',⟨rfl,c',ρ',rfl,hk',hg',hr',hR⟩,harr⟩:=hw b k cs
 obtain⟨x,v,c'',fr,q,hr,hg,hke,hst,rest⟩:=hR c' a' rfl rfl hg' hr' b cs hf hk
 exact⟨x,v,c'',fr,q,hr,hg,hk'.trans hke,Steps.trans harr hst,rest⟩
end
section
variable {P:Program} {N:Nat} {Ty:Types} {ρ ρ':Env} {H:Heap} {n:Nat} {d:Option Tmp}
theorem stepF_loc {op:Op}:stepF Ty d op (loc op ρ) H n=stepF Ty d op ρ H n:=by
 have h:∀ x,x ∈ op.operands→(loc op ρ).ev x=ρ.ev x:=fun x hx=>loc_ev hx
 generalize loc op ρ=ρ' at h
 cases op with
 | build t ps=>
  have:ps.toList.map (fun p=>(p.1,ρ'.ev p.2))=ps.toList.map (fun p=>(p.1,ρ.ev p.2)):=List.map_congr_left fun p hp=>by rw[h p.2 (by simp[Op.operands];exact⟨p.1,by simpa using hp⟩)]
  simp only[stepF,this]
 | buildSlice t len ps=>
  have:ps.toList.map (fun p=>(p.1,ρ'.ev p.2))=ps.toList.map (fun p=>(p.1,ρ.ev p.2)):=List.map_congr_left fun p hp=>by rw[h p.2 (by simp[Op.operands];exact⟨p.1,by simpa using hp⟩)]
  simp only[stepF,this]
 | makeFunc f first cap=>
  have h1:first.toList.map ρ'.ev=first.toList.map ρ.ev:=List.map_congr_left fun p hp=>h p (by simp[Op.operands];exact .inl (by simpa using hp))
  have h2:cap.toList.map ρ'.ev=cap.toList.map ρ.ev:=List.map_congr_left fun p hp=>h p (by simp[Op.operands];exact .inr (by simpa using hp))
  simp only[stepF,h1,h2]
 | slice t x lo hi mx=>
  cases lo<;>cases hi<;>cases mx<;>simp_all [stepF,Op.operands]
 | call c=>
  obtain⟨cal,args,ats⟩:=c
  cases cal with
  | builtin b=>
   have ha:∀ x,x ∈ args.toList→ρ'.ev x=ρ.ev x:=fun x hx=>h x (by simp[Op.operands,Call.operands];simpa using hx)
   cases b<;>try rfl
   case append=>
    obtain⟨l⟩:=args
    obtain⟨m⟩:=ats
    match l,m with
    | [s,x],[t,t']=>
     simp only[stepF]
     rw[ha s (by simp),ha x (by simp)]
    | [],_ | [_],_ | _::_::_::_,_ | [_,_],[] | [_,_],[_] | [_,_],_::_::_::_=>rfl
   case len=>
    obtain⟨l⟩:=args
    obtain⟨m⟩:=ats
    match l,m with
    | [x],[t]=>
     simp only[stepF]
     rw[ha x (by simp)]
    | [],_ | _::_::_,_ | [_],[] | [_],_::_::_=>rfl
  | _=>rfl
 | _=>first | rfl | (simp_all [stepF,Op.operands])
end
end Go.Ab
/- The abstract machine, part M: a region that draws its order, evaluated. -/
namespace Go.Ab
set_option linter.unusedSectionVars false
variable [Inhabited Tabs]
section
variable {Ty:Types} {ρ:Env} {H H':Heap} {n n':Nat} {d:Option Tmp} {v:AVal}
theorem map_some_eq {x:Option AVal} (h:x.map (fun y=>(y,H,n))=some (v,H',n')):x=some v∧H'=H∧n'=n:=by
 cases x with
 | none=>cases h
 | some y=>cases h;exact⟨rfl,rfl,rfl⟩
theorem stepF_k0 {op:Op} (hk:kindOp op=0) (h:stepF Ty d op ρ H n=some (v,H',n')):H'=H∧n'=n∧∀ H2 n2,stepF Ty d op ρ H2 n2=some (v,H2,n2):=by
 cases op with
 | move x=>cases h;exact⟨rfl,rfl,fun _ _=>rfl⟩
 | assign x=>cases h;exact⟨rfl,rfl,fun _ _=>rfl⟩
 | pick c a b=>
  simp only[stepF] at h ⊢
  split at h
  ·cases h;exact⟨rfl,rfl,fun _ _=>rfl⟩
  ·cases h
 | binOp op t x y t'=>obtain⟨h1,h2,h3⟩:=map_some_eq h;exact⟨h2,h3,fun _ _=>by simp only[stepF,h1,Option.map_some]⟩
 | unOp op t x=>obtain⟨h1,h2,h3⟩:=map_some_eq h;exact⟨h2,h3,fun _ _=>by simp only[stepF,h1,Option.map_some]⟩
 | convert s t x=>obtain⟨h1,h2,h3⟩:=map_some_eq h;exact⟨h2,h3,fun _ _=>by simp only[stepF,h1,Option.map_some]⟩
 | makeFunc f a b=>cases h;exact⟨rfl,rfl,fun _ _=>rfl⟩
 | extract t i=>
  simp only[stepF] at h ⊢
  split at h
  ·obtain⟨h1,h2,h3⟩:=map_some_eq h
   exact⟨h2,h3,fun _ _=>by simp only[h1,Option.map_some]⟩
  ·cases h
 | field t x f=>
  simp only[stepF] at h ⊢
  split at h
  ·split at h
   ·obtain⟨h1,h2,h3⟩:=map_some_eq h
    exact⟨h2,h3,fun _ _=>by simp only[h1,Option.map_some]⟩
   ·cases h
  ·cases h
 | index t x i=>obtain⟨h1,h2,h3⟩:=map_some_eq h;exact⟨h2,h3,fun _ _=>by simp only[stepF,h1,Option.map_some]⟩
 | build t ps=>obtain⟨h1,h2,h3⟩:=map_some_eq h;exact⟨h2,h3,fun _ _=>by simp only[stepF,h1,Option.map_some]⟩
 | buildSlice t len ps=>
  simp only[kindOp] at hk
  split at hk
  ·cases hk
  ·rename_i h0
   simp only[stepF] at h ⊢
   split at h
   ·rw[if_neg h0] at h
    split at h
    ·rename_i hc
     cases hf:fillA (fun k=>some (k * _,_)) _ (ps.toList.map fun p=>(p.1,ρ.ev p.2)) with
     | none=>rw[hf] at h;cases h
     | some cs=>
      rw[hf] at h
      cases h
      refine⟨rfl,rfl,fun H2 n2=>?_⟩
      rw[if_neg h0,if_pos hc]
      rfl
    ·cases h
   ·cases h
 | call c=>
  obtain⟨cal,args,ats⟩:=c
  cases cal with
  | builtin b=>cases b<;>simp[kindOp] at hk
  | _=>simp[kindOp] at hk
 | _=>simp[kindOp] at hk
theorem stepF_k1 {op:Op} (hk:kindOp op=1) (h:stepF Ty d op ρ H n=some (v,H',n')):H'=H∧n'=n:=by
 cases op with
 | load t a=>
  simp only[stepF] at h
  split at h
  ·split at h
   ·cases h;exact⟨rfl,rfl⟩
   ·cases h
  ·cases h
 | fieldAddr t a f=>
  simp only[stepF] at h
  split at h
  ·split at h
   ·split at h
    ·cases h
    ·cases h;exact⟨rfl,rfl⟩
   ·cases h
  ·cases h
 | indexAddr t a i=>exact (map_some_eq h).2
 | slice t x lo hi mx=>
  cases mx with
  | none=>exact (map_some_eq h).2
  | some m=>cases h
 | nilCheck x=>
  simp only[stepF] at h
  split at h
  ·cases h;exact⟨rfl,rfl⟩
  ·cases h
 | call c=>
  obtain⟨cal,args,ats⟩:=c
  cases cal with
  | builtin b=>
   cases b<;>simp[kindOp] at hk
   simp only[stepF] at h
   split at h
   ·exact (map_some_eq h).2
   ·cases h
  | value g=>cases h
  | invoke r m=>simp[kindOp] at hk
 | buildSlice t len ps=>simp only[kindOp] at hk;split at hk<;>cases hk
 | _=>simp[kindOp] at hk
end
def KOk (κ:Op→Nat):Prop:=∀ op,(κ op=0→kindOp op=0)∧(κ op=1→kindOp op=1)
theorem kindOp_ok:KOk kindOp:=fun _=>⟨id,id⟩
section
variable (P:Program) (f:FuncId) (N:Nat) (k:List Item) (Q:AVal→Heap→Nat→Prop) (Ty:Types) (κ:Op→Nat) (ops:Array Oper)
def RunDK (l:List Oper) (ρ:Env) (H:Heap) (n:Nat):Prop:=RunD P N ops κ (fun s=>Runs P f N k s.1 s.2.1 s.2.2 Q) l (ρ,H,n)
mutual
def evalD:List Oper→Env→Heap→Nat→Prop
 | [],ρ,H,n=>Runs P f N k ρ H n Q
 | o::l,ρ,H,n=>
  match o.guard with
  | none=>bindD (stepF Ty o.dst o.op ρ H n) o l ρ H n
  | some (j,want)=>match guardOf ops ρ j with
   | .v (.bool b)=>guardD b want o l ρ H n
   | .v (.tuple _)=>evalD l (ρ.put o.dst skv) H n
   | _=>RunDK P f N k Q κ ops (o::l) ρ H n
 termination_by l=>(l.length,0)
def bindD:Option (AVal × Heap × Nat)→Oper→List Oper→Env→Heap→Nat→Prop
 | some (v,H',n'),o,l,ρ,_,_=>evalD l (ρ.put o.dst v) H' n'
 | none,o,l,ρ,H,n=>RunDK P f N k Q κ ops ({ o with guard:=none }::l) ρ H n
 termination_by _ _ l=>(l.length,1)
def guardD (b want:Bool) (o:Oper) (l:List Oper) (ρ:Env) (H:Heap) (n:Nat):Prop:=
 if b=want then bindD (stepF Ty o.dst o.op ρ H n) o l ρ H n else evalD l (ρ.put o.dst skv) H n
 termination_by (l.length,2)
end
end
section
variable {P:Program} {f:FuncId} {N:Nat} {k:List Item} {Q:AVal→Heap→Nat→Prop} {Ty:Types} {κ:Op→Nat} {ops:Array Oper} {o:Oper} {l:List Oper} {ρ:Env} {H:Heap} {n:Nat}
@[simp] theorem evalD_nil : evalD P f N k Q Ty κ ops [] ρ H n = Runs P f N k ρ H n Q := by rw [evalD]
@[simp] theorem evalD_op {d : Option Tmp} {op : Op} {ty : TypeId} {pos : String} {af : Array Edge} : evalD P f N k Q Ty κ ops (⟨d, op, ty, pos, af, none⟩ :: l) ρ H n = bindD P f N k Q Ty κ ops (stepF Ty d op ρ H n) ⟨d, op, ty, pos, af, none⟩ l ρ H n := by rw [evalD]
@[simp] theorem evalD_guard {d : Option Tmp} {op : Op} {ty : TypeId} {pos : String} {af : Array Edge} {j : Nat} {want : Bool} : evalD P f N k Q Ty κ ops (⟨d, op, ty, pos, af, some (j, want)⟩ :: l) ρ H n = (match guardOf ops ρ j with
   | .v (.bool b)=>guardD P f N k Q Ty κ ops b want ⟨d,op,ty,pos,af,some (j,want)⟩ l ρ H n
   | .v (.tuple _)=>evalD P f N k Q Ty κ ops l (ρ.put d skv) H n
   | _=>RunDK P f N k Q κ ops (⟨d,op,ty,pos,af,some (j,want)⟩::l) ρ H n):=by rw[evalD]
@[simp] theorem bindD_some {v : AVal} {H' : Heap} {n' : Nat} : bindD P f N k Q Ty κ ops (some (v, H', n')) o l ρ H n = evalD P f N k Q Ty κ ops l (ρ.put o.dst v) H' n' := by rw [bindD]
@[simp] theorem bindD_none : bindD P f N k Q Ty κ ops none o l ρ H n = RunDK P f N k Q κ ops ({ o with guard := none } :: l) ρ H n := by rw [bindD]
@[simp] theorem guardD_tt : guardD P f N k Q Ty κ ops true true o l ρ H n = bindD P f N k Q Ty κ ops (stepF Ty o.dst o.op ρ H n) o l ρ H n := by rw [guardD, if_pos rfl]
@[simp] theorem guardD_ff : guardD P f N k Q Ty κ ops false false o l ρ H n = bindD P f N k Q Ty κ ops (stepF Ty o.dst o.op ρ H n) o l ρ H n := by rw [guardD, if_pos rfl]
@[simp] theorem guardD_tf : guardD P f N k Q Ty κ ops true false o l ρ H n = evalD P f N k Q Ty κ ops l (ρ.put o.dst skv) H n := by rw [guardD, if_neg (by simp)]
@[simp] theorem guardD_ft : guardD P f N k Q Ty κ ops false true o l ρ H n = evalD P f N k Q Ty κ ops l (ρ.put o.dst skv) H n := by rw [guardD, if_neg (by simp)]
theorem StepD.of_step (hT:TypesOk P Ty) (hκ:KOk κ) {v:AVal} {H':Heap} {n':Nat} (hg:gok ops o ρ=some true) (hs:stepF Ty o.dst o.op ρ H n=some (v,H',n')):StepD P N ops κ o (ρ,H,n) (ρ.put o.dst v,H',n'):=by
 have hl:stepF Ty o.dst o.op (loc o.op ρ) H n=some (v,H',n'):=by rw[stepF_loc];exact hs
 refine .inl ⟨hg,v,rfl,fun h0=>?_,fun h1=>?_,stepF_ok hT hl⟩
 ·obtain⟨e1,e2,hall⟩:=stepF_k0 ((hκ o.op).1 h0) hl
  subst e1
  subst e2
  exact⟨rfl,fun H2 n2=>stepF_ok hT (hall H2 n2)⟩
 ·obtain⟨e1,e2⟩:=stepF_k1 ((hκ o.op).2 h1) hl
  subst e1
  subst e2
  rfl
theorem RunDK.unguard {j:Nat} {want b:Bool} (hg:o.guard=some (j,want)) (hv:guardOf ops ρ j = .v (.bool b)) (hb:b=want) (h:RunDK P f N k Q κ ops ({ o with guard:=none }::l) ρ H n):RunDK P f N k Q κ ops (o::l) ρ H n:=by
 obtain⟨s',hst,hrest⟩:=h
 refine⟨s',?_,hrest⟩
 rcases hst with ⟨_,v,hv',h0,h1,hop⟩ | ⟨hgf,_⟩
 ·exact .inl ⟨by simp only[gok,hg,hv,hb];cases want<;>rfl,v,hv',h0,h1,hop⟩
 ·simp[gok] at hgf
theorem evalD_sound (hT:TypesOk P Ty) (hκ:KOk κ):∀ (l:List Oper) (ρ:Env) (H:Heap) (n:Nat),evalD P f N k Q Ty κ ops l ρ H n→RunDK P f N k Q κ ops l ρ H n
 | [],ρ,H,n,h=>by
  rw[evalD] at h
  exact h
 | o::l,ρ,H,n,h=>by
  rw[evalD] at h
  split at h
  ·rename_i hg
   cases hs:stepF Ty o.dst o.op ρ H n with
   | some r=>
    obtain⟨v,H',n'⟩:=r
    rw[hs,bindD_some] at h
    exact⟨_,StepD.of_step hT hκ (by simp[gok,hg]) hs,evalD_sound hT hκ l _ _ _ h⟩
   | none=>
    rw[hs,bindD_none] at h
    obtain⟨d,op,ty,pos,af,gu⟩:=o
    simp only at hg
    subst hg
    exact h
  ·rename_i j want hg
   split at h
   ·rename_i b hv
    rw[guardD] at h
    split at h
    ·rename_i hb
     cases hs:stepF Ty o.dst o.op ρ H n with
     | some r=>
      obtain⟨v,H',n'⟩:=r
      rw[hs,bindD_some] at h
      exact⟨_,StepD.of_step hT hκ (by simp only[gok,hg,hv,hb];cases want<;>rfl) hs,evalD_sound hT hκ l _ _ _ h⟩
     | none=>
      rw[hs,bindD_none] at h
      exact RunDK.unguard hg hv hb h
    ·rename_i hb
     refine⟨_,.inr ⟨?_,rfl⟩,evalD_sound hT hκ l _ _ _ h⟩
     simp only[gok,hg,hv]
     cases b<;>cases want<;>simp_all
   ·rename_i xs hv
    exact⟨_,.inr ⟨by simp only[gok,hg,hv],rfl⟩,evalD_sound hT hκ l _ _ _ h⟩
   ·exact h
theorem RunDK.op (hT:TypesOk P Ty) (hκ:KOk κ) {v:AVal} {H':Heap} {n':Nat} (hg:o.guard=none) (h0:κ o.op ≠ 0) (h1:κ o.op=1→H'=H∧n'=n) (hop:OpSem P N o (loc o.op ρ) H n (isV v H' n'))
  (h:evalD P f N k Q Ty κ ops l (ρ.put o.dst v) H' n'):RunDK P f N k Q κ ops (o::l) ρ H n:=
 ⟨(ρ.put o.dst v,H',n'),.inl ⟨by simp[gok,hg],v,rfl,fun h=>absurd h h0,fun h=>by obtain⟨e1,e2⟩:=h1 h;rw[e1,e2],hop⟩,evalD_sound hT hκ l _ _ _ h⟩
theorem Runs.seqD (hT:TypesOk P Ty) (hκ:KOk κ) {id:Nat} {ops:List Oper} {y:Code} (hm:P.follows .mixedOrders=true) (hN:ops.all (fun o=>dok N o.dst)=true) (hB:drawOk κ ops.toArray=true)
  (h:∀ k':List Item,(∀ ρ H n,Runs P f N (.code y::k) ρ H n Q→Runs P f N k' ρ H n Q)→evalD P f N k' Q Ty κ ops.toArray ops ρ H n):Runs P f N (.code (.seq (.region id ops.toArray true) y)::k) ρ H n Q:=
 Runs.seq (Runs.draw hm hN hB (evalD_sound hT hκ ops _ _ _ (h (.code y::k) fun _ _ _ h=>h)))
theorem Runs.evalDE (hT:TypesOk P Ty) (hκ:KOk κ) {id:Nat} {ops:List Oper} (hm:P.follows .mixedOrders=true) (hN:ops.all (fun o=>dok N o.dst)=true) (hB:drawOk κ ops.toArray=true)
  (h:∀ k':List Item,(∀ ρ H n,Runs P f N k ρ H n Q→Runs P f N k' ρ H n Q)→evalD P f N k' Q Ty κ ops.toArray ops ρ H n):Runs P f N (.code (.region id ops.toArray true)::k) ρ H n Q:=
 Runs.draw hm hN hB (evalD_sound hT hκ ops _ _ _ (h k fun _ _ _ h=>h))
theorem OpSem.callD {d:Option Tmp} {g:Operand} {args:Array Operand} {ats:Array TypeId} {ty:TypeId} {pos:String} {af:Array Edge} {gu:Option (Nat × Bool)} {v:AVal}
  {f:FuncId} {args':List AVal} (hg:ρ.ev g = .fn (.func f) [] []) (hent:Ent P f) (ha:ArgsOk H n (args.toList.map ρ.ev) args') (h:PureC P f args' (fun r=>r=v)) :
  OpSem P N ⟨d,.call ⟨.value g,args,ats⟩,ty,pos,af,gu⟩ (loc (.call ⟨.value g,args,ats⟩) ρ) H n (isV v H n):=by
 have h1:(loc (.call ⟨.value g,args,ats⟩) ρ).ev g=ρ.ev g:=loc_ev (by simp[Op.operands,Call.operands])
 have h2:args.toList.map (loc (.call ⟨.value g,args,ats⟩) ρ).ev=args.toList.map ρ.ev:=List.map_congr_left fun x hx=>loc_ev (by simp[Op.operands,Call.operands];exact .inr (by simpa using hx))
 exact OpSem.callP (by rw[h1];exact hg) hent (by rw[h2];exact ha) h
theorem RunK.call (hT:TypesOk P Ty) {d:Option Tmp} {g:Operand} {args:Array Operand} {ats:Array TypeId} {ty:TypeId} {pos:String} {af:Array Edge} {R:AVal→Prop} {f':FuncId} {args':List AVal} {ops:List Oper}
  (hN:ops.all (fun o=>dok N o.dst)=true) (hl:(⟨d,.call ⟨.value g,args,ats⟩,ty,pos,af,none⟩::l:List Oper).all (fun o=>dok N o.dst)=true) (hg:ρ.ev g = .fn (.func f') [] []) (hent:Ent P f') (ha:ArgsOk H n (args.toList.map ρ.ev) args') (h:PureC P f' args' R)
  (hk:∀ v,R v→evalK P f N k Q Ty ops.toArray l (ρ.put d v) H n):RunK P f N k Q ops.toArray (⟨d,.call ⟨.value g,args,ats⟩,ty,pos,af,none⟩::l) ρ H n:=
 RunK.op hT hN hl rfl (OpSem.callP hg hent ha h) fun v H' n' ⟨hR,hH,hn⟩=>by rw[hH,hn];exact hk v hR
theorem RunDK.call (hT:TypesOk P Ty) (hκ:KOk κ) {d:Option Tmp} {g:Operand} {args:Array Operand} {ats:Array TypeId} {ty:TypeId} {pos:String} {af:Array Edge} {v:AVal} {f':FuncId} {args':List AVal}
  (h0:κ (.call ⟨.value g,args,ats⟩) ≠ 0) (hg:ρ.ev g = .fn (.func f') [] []) (hent:Ent P f') (ha:ArgsOk H n (args.toList.map ρ.ev) args') (h:PureC P f' args' (fun r=>r=v))
  (hk:evalD P f N k Q Ty κ ops l (ρ.put d v) H n):RunDK P f N k Q κ ops (⟨d,.call ⟨.value g,args,ats⟩,ty,pos,af,none⟩::l) ρ H n:=
 RunDK.op hT hκ rfl h0 (fun _=>⟨rfl,rfl⟩) (OpSem.callD hg hent ha h) hk
end
end Go.Ab
/- The abstract machine, part N: handing over, shorter. -/
namespace Go.Ab
set_option linter.unusedSectionVars false
variable [Inhabited Tabs]
theorem map_old_flat {e:List AVal} (h:∀ a ∈ e,flat a=true):e.map old=e:=by
 conv=>rhs;rw[← List.map_id e]
 refine List.map_congr_left fun a ha=>?_
 have:=h a ha
 cases a<;>simp[flat] at this
 rfl
theorem maps_old_flat {els:List (List AVal)} (h:∀ e ∈ els,∀ a ∈ e,flat a=true):els.map (fun e=>e.map old)=els:=by
 conv=>rhs;rw[← List.map_id els]
 exact List.map_congr_left fun e he=>map_old_flat (h e he)
section
variable {H:Heap} {n:Nat}
theorem ArgOk.listF {fr:Bool} {els:List (List AVal)} (h:∀ e ∈ els,∀ a ∈ e,flat a=true):ArgOk H n (.list fr els) (.list false els):=by
 refine ArgOk.imm' (.list _ _ fun e he a ha=>Imm.flat (h e he a ha)) ?_
 rw[old_list,maps_old_flat h]
end
section
variable {P:Program} {f:FuncId} {N:Nat} {k:List Item} {Q:AVal→Heap→Nat→Prop} {Ty:Types} {l:List Oper} {ρ:Env} {H:Heap} {n:Nat}
theorem RunK.callA (hT:TypesOk P Ty) {d:Option Tmp} {g:Operand} {args:Array Operand} {ats:Array TypeId} {ty:TypeId} {pos:String} {af:Array Edge} {R:AVal→Prop} {f':FuncId} {as1 args':List AVal} {ops:List Oper}
  (h:PureC P f' args' R) (hent:Ent P f') (ha:ArgsOk H n as1 args')
  (hN:ops.all (fun o=>dok N o.dst)=true) (hl:(⟨d,.call ⟨.value g,args,ats⟩,ty,pos,af,none⟩::l:List Oper).all (fun o=>dok N o.dst)=true) (hg:ρ.ev g = .fn (.func f') [] []) (has:args.toList.map ρ.ev=as1)
  (hk:∀ v,R v→evalK P f N k Q Ty ops.toArray l (ρ.put d v) H n):RunK P f N k Q ops.toArray (⟨d,.call ⟨.value g,args,ats⟩,ty,pos,af,none⟩::l) ρ H n:=
 RunK.call hT hN hl hg hent (has ▸ ha) h hk
theorem RunDK.callA (hT:TypesOk P Ty) {κ:Op→Nat} (hκ:KOk κ) {d:Option Tmp} {g:Operand} {args:Array Operand} {ats:Array TypeId} {ty:TypeId} {pos:String} {af:Array Edge} {v:AVal} {f':FuncId} {as1 args':List AVal} {ops:Array Oper}
  (h:PureC P f' args' (fun r=>r=v)) (hent:Ent P f') (ha:ArgsOk H n as1 args') (h0:κ (.call ⟨.value g,args,ats⟩) ≠ 0) (hg:ρ.ev g = .fn (.func f') [] []) (has:args.toList.map ρ.ev=as1)
  (hk:evalD P f N k Q Ty κ ops l (ρ.put d v) H n):RunDK P f N k Q κ ops (⟨d,.call ⟨.value g,args,ats⟩,ty,pos,af,none⟩::l) ρ H n:=
 RunDK.call hT hκ h0 hg hent (has ▸ ha) h hk
end
@[simp] theorem Fresh.v_iff (x : Value) : Fresh (.v x) ↔ True := ⟨fun _ => trivial, fun _ => .v x⟩
@[simp] theorem Imm.v_iff (x : Value) : Imm (.v x) ↔ True := ⟨fun _ => trivial, fun _ => .v x⟩
@[simp] theorem flat_v (x : Value) : flat (.v x) = true := rfl
theorem Fresh.list_iff (els:List (List AVal)):Fresh (.list true els)↔∀ e ∈ els,∀ a ∈ e,Fresh a:=⟨fun h=>by cases h;assumption,fun h=>.list els h⟩
theorem Fresh.agg_iff (cs:List AVal):Fresh (.agg cs)↔∀ a ∈ cs,Fresh a:=⟨fun h=>by cases h;assumption,fun h=>.agg cs h⟩
theorem Fresh.tup_iff (cs:List AVal):Fresh (.tup cs)↔∀ a ∈ cs,Fresh a:=⟨fun h=>by cases h;assumption,fun h=>.tup cs h⟩
attribute [simp] Fresh.list_iff Fresh.agg_iff Fresh.tup_iff
theorem Imm.list_iff (fr:Bool) (els:List (List AVal)):Imm (.list fr els)↔∀ e ∈ els,∀ a ∈ e,Imm a:=⟨fun h=>by cases h;assumption,fun h=>.list fr els h⟩
theorem Imm.agg_iff (cs:List AVal):Imm (.agg cs)↔∀ a ∈ cs,Imm a:=⟨fun h=>by cases h;assumption,fun h=>.agg cs h⟩
attribute [simp] Imm.list_iff Imm.agg_iff
@[simp] theorem bytes_append (a b : Array UInt8) : (ByteArray.mk a) ++ (ByteArray.mk b) = ByteArray.mk (a ++ b) := by
 apply ByteArray.ext
 simp
@[simp] theorem bytes_size (a : Array UInt8) : (ByteArray.mk a).size = a.size := rfl
@[simp] theorem bytes_list (l : Array UInt8) : (ByteArray.mk l).toList = l.toList := by rw [ByteArray.toList_eq]
theorem Ent.of {P : Program} {f : FuncId} {fn : Func} {body : Code} (h : P.funcs[f]? = some fn) (hn : (fn.name == "runtime.NumGoroutine") = false) (hb : fn.body = some body) : Ent P f := ⟨fn, body, h, hn, hb⟩
attribute [simp] wrap64
def part {α:Type} (f:α→List AVal) (z:List AVal) (p:List α) (k:Nat):List (List AVal):=(p.take k).map f++List.replicate (p.length - k) z
section
variable {α:Type} {f:α→List AVal} {z:List AVal} {p:List α} {k:Nat}
end
section
variable {P:Program} {N:Nat} {fn:Func} {ρ:Env} {H:Heap} {n:Nat} {Ty:Types}
theorem RetOk.cell (hT:TypesOk P Ty) {t:Tmp} {ty:TypeId} (h:fn.results=#[.cell t ty]) {i:TI} {cs:List AVal} {v:AVal} (hi:Ty ty=some i) (hv:viewOf H (ρ t)=some cs) (hl:loadA i cs=some v):RetOk P N fn ρ H n v:=by
 intro c a hH hn g r
 subst hH
 obtain⟨b,off,hx,hview⟩:=viewOf_ok g (r.rep t) hv
 obtain⟨y,hrun,hrep⟩:=run_loadVar (hT ty i hi) hview hl
 rw[Array.getD_eq_getD_getElem?] at hx
 exact⟨y,by simp[results,h,hx,hrun,asAddr],hrep⟩
end
end Go.Ab
/- The abstract machine, part T: what a callee has made is taken over, as the caller's own. -/
namespace Go.Ab
set_option linter.unusedSectionVars false
variable [Inhabited Tabs]
def shId (k:Nat) (id:Id):Id:=(id.1+k,id.2)
def shA (k:Nat):AVal→AVal
 | .agg cs=>.agg (shL k cs)
 | .tup cs=>.tup (shL k cs)
 | .list fr els=>.list fr (shLL k els)
 | .arr id g off len=>.arr (shId k id) g off len
 | .ptr id g idx off=>.ptr (shId k id) g idx off
 | x=>x
 where
 shL (k:Nat):List AVal→List AVal
  | []=>[]
  | a::l=>shA k a::shL k l
 shLL (k:Nat):List (List AVal)→List (List AVal)
  | []=>[]
  | e::l=>shL k e::shLL k l
theorem shL_eq (k:Nat) (l:List AVal):shA.shL k l=l.map (shA k):=by
 induction l with
 | nil=>rfl
 | cons a l ih=>simp[shA.shL,ih]
theorem shLL_eq (k:Nat) (l:List (List AVal)):shA.shLL k l=l.map (fun e=>e.map (shA k)):=by
 induction l with
 | nil=>rfl
 | cons a l ih=>simp[shA.shLL,ih,shL_eq]
theorem shA_v (k:Nat) (x:Value):shA k (.v x) = .v x:=by simp[shA]
theorem shA_agg (k:Nat) (cs:List AVal):shA k (.agg cs) = .agg (cs.map (shA k)):=by simp[shA,shL_eq]
theorem shA_tup (k:Nat) (cs:List AVal):shA k (.tup cs) = .tup (cs.map (shA k)):=by simp[shA,shL_eq]
theorem shA_list (k:Nat) (fr:Bool) (els:List (List AVal)):shA k (.list fr els) = .list fr (els.map fun e=>e.map (shA k)):=by simp[shA,shLL_eq]
theorem shA_arr (k:Nat) (id:Id) (g off len:Nat):shA k (.arr id g off len) = .arr (shId k id) g off len:=by simp[shA]
inductive Mv (K:Id→Prop):AVal→Prop
 | v (x:Value):Mv K (.v x)
 | agg (cs:List AVal) (h:∀ a ∈ cs,Mv K a):Mv K (.agg cs)
 | tup (cs:List AVal) (h:∀ a ∈ cs,Mv K a):Mv K (.tup cs)
 | list (els:List (List AVal)) (h:∀ e ∈ els,∀ a ∈ e,Mv K a):Mv K (.list true els)
 | arr (id:Id) (g off len:Nat) (h:K id):Mv K (.arr id g off len)
 | ptr (id:Id) (g idx off:Nat) (h:K id):Mv K (.ptr id g idx off)
def shOb (k:Nat) (o:Ob):Ob:=⟨o.size,o.els.map fun e=>e.map (shA k)⟩
def merge (n:Nat) (H H':Heap) (K:Id→Bool):Heap:=fun id=>if id.1<n then H id else if K (id.1 - n,id.2) then (H' (id.1 - n,id.2)).map (shOb n) else none
theorem merge_lt {n:Nat} {H H':Heap} {K:Id→Bool} {id:Id} (h:id.1<n):merge n H H' K id=H id:=by simp[merge,h]
theorem merge_sh {n:Nat} {H H':Heap} {K:Id→Bool} {id:Id} (h:K id=true):merge n H H' K (shId n id)=(H' id).map (shOb n):=by
 have h1:¬ (shId n id).1<n:=by simp[shId]
 unfold merge
 rw[if_neg h1]
 simp[shId,h]
theorem Rep.sh {c1 c2:Ctx} {k:Nat} {K:Id→Prop} (hw:c2.w=c1.w) (hB:c2.B≤c1.B) (hmu:∀ b,c1.B≤b→c2.mu b→c1.mu b) (hn:c1.n+k≤c2.n)
  (hobj:∀ id,K id→c2.β (shId k id)=c1.β id∧∀ o',c2.H (shId k id)=some o'→∃ o,c1.H id=some o∧o.size=o'.size∧o.els.length=o'.els.length) {a:AVal} {x:Value} (r:Rep c1 a x) :
  Mv K a→Rep c2 (shA k a) x:=by
 induction r with
 | undef=>intro h;cases h
 | v x=>intro _;rw[shA_v];exact .v x
 | agg cs vs hl _ ih=>
  intro h
  cases h with
  | agg _ h=>
  rw[shA_agg]
  refine .agg _ vs (by simpa using hl) fun i a x ha hx=>?_
  obtain⟨b,hb,rfl⟩:=map_get ha
  exact ih i b x hb hx (h b (List.mem_of_getElem? hb))
 | tup cs vs hl _ ih=>
  intro h
  cases h with
  | tup _ h=>
  rw[shA_tup]
  refine .tup _ vs (by simpa using hl) fun i a x ha hx=>?_
  obtain⟨b,hb,rfl⟩:=map_get ha
  exact ih i b x hb hx (h b (List.mem_of_getElem? hb))
 | lnil fr=>intro _;exact .lnil fr
 | list fr els a cap sz cell hs hcap hm hsz hc _ ih=>
  intro h
  cases h with
  | list _ h=>
  rw[shA_list]
  have:=Rep.list (c:=c2) true (els.map fun e=>e.map (shA k)) a cap sz cell (fun hne=>hs (by intro h0;subst h0;simp at hne)) (by simpa using hcap) (fun hne=>?_) (fun i e he=>?_) (fun i e j x he hx=>?_) (fun i e j x he hx=>?_)
  ·simpa using this
  ·obtain⟨h1,h2,h3⟩:=hm (by intro h0;simp[h0] at hne)
   exact⟨fun hmk=>h1 (hmu _ (h3 rfl) hmk),by rw[hw];exact h2,fun _=>Nat.le_trans hB (h3 rfl)⟩
  ·obtain⟨b,hb,rfl⟩:=map_get he
   rw[List.length_map];exact hsz i b hb
  ·obtain⟨b,hb,rfl⟩:=map_get he
   obtain⟨y,hy,rfl⟩:=map_get hx
   rw[hw]
   exact hc i b j y hb hy
  ·obtain⟨b,hb,rfl⟩:=map_get he
   obtain⟨y,hy,rfl⟩:=map_get hx
   exact ih i b j y hb hy (h b (List.mem_of_getElem? hb) y (List.mem_of_getElem? hy))
 | arr id gen off len x h1 hlt hg hh=>
  intro h
  cases h with
  | arr _ _ _ _ hK=>
  rw[shA_arr]
  obtain⟨hb,ho⟩:=hobj id hK
  refine .arr _ gen off len x h1 (by simp[shId];omega) (fun o' ho'=>?_) (fun o' ho' hgen=>?_)
  ·obtain⟨o,h2,h3,h4⟩:=ho o' ho'
   rw[← h4];exact hg o h2
  ·obtain⟨o,h2,h3,h4⟩:=ho o' ho'
   obtain⟨p1,a,cap,p2,p3,p4,p5,p6,p7⟩:=hh o h2 (by omega)
   refine⟨p1,a,cap,p2,by rw[hb];exact p3,p4,p5,by rw[← h3];exact p6,?_⟩
   rw[hb,hw,← h3]
   exact p7
 | ptr id gen idx off x h1 hlt hg hh=>
  intro h
  cases h with
  | ptr _ _ _ _ hK=>
  have e:shA k (.ptr id gen idx off) = .ptr (shId k id) gen idx off:=by simp[shA]
  rw[e]
  obtain⟨hb,ho⟩:=hobj id hK
  refine .ptr _ gen idx off x h1 (by simp[shId];omega) (fun o' ho'=>?_) (fun o' ho' hgen=>?_)
  ·obtain⟨o,h2,h3,h4⟩:=ho o' ho'
   rw[← h4];exact hg o h2
  ·obtain⟨o,h2,h3,h4⟩:=ho o' ho'
   obtain⟨p1,p2⟩:=hh o h2 (by omega)
   exact⟨p1,by rw[hb,← h3];exact p2⟩
 | iptr=>intro h;cases h
 | fn=>intro h;cases h
 | iface=>intro h;cases h
 | clip=>intro h;cases h
def Closed (H':Heap) (K:Id→Bool):Prop:=∀ id o,H' id=some o→K id=true→∀ e ∈ o.els,∀ a ∈ e,Mv (fun i=>K i=true) a
theorem take_over {c c1:Ctx} (g:Good c) (g1:Good c1) (hk:Keeps ⟨c.w.heap.size,fun _=>0,noHeap,0,c.w⟩ c1) {K:Id→Bool} (hcl:Closed c1.H K) :
  ∃ c2:Ctx,c2.H=merge c.n c.H c1.H K∧c2.n=c.n+c1.n∧c2.w=c1.w∧Good c2∧Keeps c c2∧∀ a x,Rep c1 a x→Mv (fun i=>K i=true) a→Rep c2 (shA c.n a) x:=by
 have hB1:c1.B=c.w.heap.size:=hk.B
 have hnomu:∀ k,¬ Ctx.mu ⟨c.w.heap.size,fun _=>0,noHeap,0,c.w⟩ k:=by
  rintro k ⟨id,o,ho,_⟩
  cases ho
 have hblk:∀ k,k<c.w.heap.size→c1.w.heap[k]?=c.w.heap[k]?:=fun k hlt=>(hk.imm k hlt (hnomu k)).1
 have hsize:c.w.heap.size≤c1.w.heap.size:=hk.size
 let c2:Ctx:=⟨c.B,fun id=>if id.1<c.n then c.β id else c1.β (id.1 - c.n,id.2),merge c.n c.H c1.H K,c.n+c1.n,c1.w⟩
 have hsh:∀ id:Id,¬ (shId c.n id).1<c.n:=fun id=>by simp[shId]
 have hβs:∀ id:Id,c2.β (shId c.n id)=c1.β id:=fun id=>by
  show (if (shId c.n id).1<c.n then _ else _)=_
  rw[if_neg (hsh id)]
  simp[shId]
 have hβo:∀ id:Id,id.1<c.n→c2.β id=c.β id:=fun id h=>by
  show (if id.1<c.n then _ else _)=_
  rw[if_pos h]
 -- an object of c2 is one of c, or one of c1, shifted
 have hcase:∀ id o,c2.H id=some o→(id.1<c.n∧c.H id=some o)∨∃ id1 o1,id=shId c.n id1∧c1.H id1=some o1∧K id1=true∧o=shOb c.n o1:=by
  intro id o ho
  rcases Nat.lt_or_ge id.1 c.n with h | h
  ·left
   refine⟨h,?_⟩
   have:merge c.n c.H c1.H K id=some o:=ho
   rwa [merge_lt h] at this
  ·right
   have e:merge c.n c.H c1.H K id=some o:=ho
   unfold merge at e
   rw[if_neg (by omega)] at e
   split at e
   ·rename_i hK
    cases h1:c1.H (id.1 - c.n,id.2) with
    | none=>rw[h1] at e;cases e
    | some o1=>
     rw[h1] at e
     cases e
     exact⟨(id.1 - c.n,id.2),o1,by ext<;>simp[shId];omega,h1,hK,rfl⟩
   ·cases e
 have hlow:∀ id o,c.H id=some o→c.β id<c.w.heap.size:=fun id o h=>g.lt h
 have hhigh:∀ id o,c1.H id=some o→c.w.heap.size≤c1.β id:=fun id o h=>by rw[← hB1];exact (g1.obj id o h).1
 have hmu2:∀ b,c2.mu b→c.mu b∨c1.mu b:=by
  rintro b ⟨id,o,ho,hb⟩
  rcases hcase id o ho with ⟨h1,h2⟩ | ⟨id1,o1,rfl,h1,_,_⟩
  ·left;exact⟨id,o,h2,by rw[← hb,hβo id h1]⟩
  ·right;exact⟨id1,o1,h1,by rw[← hb,hβs]⟩
 have hkeep:Keeps c c2:=by
  refine⟨Nat.le_add_right _ _,rfl,hsize,hk.os,hk.tape,hk.output,fun k hlt hm=>⟨hblk k hlt,fun h=>?_⟩,fun id o' ho' hid=>?_⟩
  ·rcases hmu2 k h with h | ⟨id,o,h1,h2⟩
   ·exact hm h
   ·have:=hhigh id o h1;omega
  ·have e:merge c.n c.H c1.H K id=some o':=ho'
   rw[merge_lt hid] at e
   refine⟨o',e,rfl,Nat.le_refl _,fun _=>⟨hβo id hid,fun cl' el' fz' h=>⟨cl',el',fz',?_,Nat.le_refl _⟩⟩⟩
   have h2:c1.w.heap[c.β id]?=some (.cells cl' el' fz'):=h
   rw[hblk _ (hlow id o' e)] at h2
   exact h2
 have hrep:∀ a x,Rep c1 a x→Mv (fun i=>K i=true) a→Rep c2 (shA c.n a) x:=by
  intro a x r hm
  refine Rep.sh (c1:=c1) (c2:=c2) (K:=fun i=>K i=true) rfl ?_ ?_ (Nat.le_of_eq (Nat.add_comm _ _)) ?_ r hm
  ·rw[hB1];exact g.Bsize
  ·intro b hb h
   rcases hmu2 b h with ⟨id,o,h1,h2⟩ | h
   ·have:=hlow id o h1;omega
   ·exact h
  ·intro id hK
   refine⟨hβs id,fun o' ho'=>?_⟩
   have e:merge c.n c.H c1.H K (shId c.n id)=some o':=ho'
   rw[merge_sh hK] at e
   cases h1:c1.H id with
   | none=>rw[h1] at e;cases e
   | some o=>
    rw[h1] at e
    cases e
    exact⟨o,rfl,rfl,by simp[shOb]⟩
 refine⟨c2,rfl,rfl,rfl,⟨fun id o ho=>?_,fun id id' o o' ho ho' hb=>?_,Nat.le_trans g.Bsize hsize,fun id o ho=>?_,g.tabOn hkeep⟩,hkeep,hrep⟩
 ·rcases hcase id o ho with ⟨h1,_⟩ | ⟨id1,o1,rfl,h1,_,_⟩
  ·show id.1<c.n+c1.n;omega
  ·have:=g1.stamp id1 o1 h1
   show (shId c.n id1).1<c.n+c1.n
   simp[shId];omega
 ·rcases hcase id o ho with ⟨h1,h2⟩ | ⟨id1,o1,rfl,h1,_,_⟩<;>rcases hcase id' o' ho' with ⟨k1,k2⟩ | ⟨id1',o1',rfl,k1,_,_⟩
  ·rw[hβo id h1,hβo id' k1] at hb
   exact g.inj id id' o o' h2 k2 hb
  ·rw[hβo id h1,hβs] at hb
   have:=hlow id o h2
   have:=hhigh id1' o1' k1
   omega
  ·rw[hβo id' k1,hβs] at hb
   have:=hlow id' o' k2
   have:=hhigh id1 o1 h1
   omega
  ·rw[hβs,hβs] at hb
   rw[g1.inj id1 id1' o1 o1' h1 k1 hb]
 ·rcases hcase id o ho with ⟨h1,h2⟩ | ⟨id1,o1,rfl,h1,hK,rfl⟩
  ·obtain⟨p1,cl,el,p2,p3,p4⟩:=g.obj id o h2
   rw[hβo id h1]
   refine⟨p1,cl,el,?_,p3,fun i e he=>⟨(p4 i e he).1,fun j a ha=>?_⟩⟩
   ·show c1.w.heap[c.β id]?=_
    rw[hblk _ (hlow id o h2)];exact p2
   ·obtain⟨x,hx,hr⟩:=(p4 i e he).2 j a ha
    exact⟨x,hx,hr.keeps hkeep⟩
  ·obtain⟨p1,cl,el,p2,p3,p4⟩:=g1.obj id1 o1 h1
   rw[hβs]
   refine⟨by rw[hB1] at p1;exact Nat.le_trans g.Bsize p1,cl,el,p2,by simpa[shOb] using p3,fun i e he=>?_⟩
   obtain⟨e1,he1,rfl⟩:=map_get (show (o1.els.map fun e=>e.map (shA c.n))[i]?=some e from he)
   obtain⟨q1,q2⟩:=p4 i e1 he1
   refine⟨by rw[List.length_map];exact q1,fun j a ha=>?_⟩
   obtain⟨b,hb,rfl⟩:=map_get ha
   obtain⟨x,hx,hr⟩:=q2 j b hb
   exact⟨x,hx,hrep b x hr (hcl id1 o1 h1 hK e1 (List.mem_of_getElem? he1) b (List.mem_of_getElem? hb))⟩
def MadeC (P:Program) (f:FuncId) (args:List AVal) (R:AVal→Heap→Nat→Prop):Prop:=CallsA P f args noHeap 0 R
def OwnL (Q:AVal→AVal→List Id→Prop):List AVal→List AVal→List Id→Prop
 | [],[],S=>S=[]
 | a::as1,b::bs,S=>∃ S1 S2,Q a b S1∧OwnL Q as1 bs S2∧S=S1++S2∧∀ i ∈ S1,i ∉ S2
 | _,_,_=>False
def OwnLL (Q:AVal→AVal→List Id→Prop):List (List AVal)→List (List AVal)→List Id→Prop
 | [],[],S=>S=[]
 | a::as1,b::bs,S=>∃ S1 S2,OwnL Q a b S1∧OwnLL Q as1 bs S2∧S=S1++S2∧∀ i ∈ S1,i ∉ S2
 | _,_,_=>False
def Own (H:Heap):Nat→AVal→AVal→List Id→Prop
 | 0,a,b,S=>(a=b∧Fresh a)∧S=[]
 | d+1,a,b,S=>((a=b∧Fresh a)∧S=[])∨(∃ cs ds,a = .agg cs∧b = .agg ds∧OwnL (Own H d) cs ds S)∨(∃ cs ds,a = .tup cs∧b = .tup ds∧OwnL (Own H d) cs ds S) ∨
  (a = .v (.slice none 0 0)∧b = .list true []∧S=[]) ∨
  ∃ id o els T,a = .arr id o.els.length 0 o.els.length∧b = .list true els∧H id=some o∧OwnLL (Own H d) o.els els T∧id ∉ T∧S=id::T
section
variable {Q Q':AVal→AVal→List Id→Prop}
theorem OwnL.mono:∀ {as1 bs:List AVal} {S:List Id},OwnL Q as1 bs S→(∀ a b T,a ∈ as1→Q a b T→(∀ i ∈ T,i ∈ S)→Q' a b T)→OwnL Q' as1 bs S
 | [],[],S,h,_=>h
 | a::as1,b::bs,S,⟨S1,S2,h1,h2,h3,h4⟩,hq=>
  ⟨S1,S2,hq a b S1 (by simp) h1 (fun i hi=>by simp[h3,hi]),OwnL.mono h2 (fun x y T hx hxy hT=>hq x y T (by simp[hx]) hxy (fun i hi=>by simp[h3,hT i hi])),h3,h4⟩
theorem OwnLL.mono:∀ {as1 bs:List (List AVal)} {S:List Id},OwnLL Q as1 bs S→(∀ e ∈ as1,∀ a b T,a ∈ e→Q a b T→(∀ i ∈ T,i ∈ S)→Q' a b T)→OwnLL Q' as1 bs S
 | [],[],S,h,_=>h
 | a::as1,b::bs,S,⟨S1,S2,h1,h2,h3,h4⟩,hq=>
  ⟨S1,S2,OwnL.mono h1 (fun x y T hx hxy hT=>hq a (by simp) x y T hx hxy (fun i hi=>by simp[h3,hT i hi])),
   OwnLL.mono h2 (fun e he x y T hx hxy hT=>hq e (by simp[he]) x y T hx hxy (fun i hi=>by simp[h3,hT i hi])),h3,h4⟩
theorem OwnL.len:∀ {as1 bs:List AVal} {S:List Id},OwnL Q as1 bs S→as1.length=bs.length
 | [],[],_,_=>rfl
 | a::as1,b::bs,_,⟨_,_,_,h2,_,_⟩=>by simp[OwnL.len h2]
theorem OwnLL.len:∀ {as1 bs:List (List AVal)} {S:List Id},OwnLL Q as1 bs S→as1.length=bs.length
 | [],[],_,_=>rfl
 | a::as1,b::bs,_,⟨_,_,_,h2,_,_⟩=>by simp[OwnLL.len h2]
theorem OwnL.get:∀ {as1 bs:List AVal} {S:List Id},OwnL Q as1 bs S→∀ (i:Nat) a b,as1[i]?=some a→bs[i]?=some b→∃ T,Q a b T∧∀ j ∈ T,j ∈ S
 | [],[],_,_,i,a,b,ha,_=>by simp at ha
 | x::as1,y::bs,S,⟨S1,S2,h1,h2,h3,_⟩,i,a,b,ha,hb=>by
  match i with
  | 0=>simp at ha hb;subst ha hb;exact⟨S1,h1,fun j hj=>by simp[h3,hj]⟩
  | i+1=>
   obtain⟨T,hT,hs⟩:=OwnL.get h2 i a b (by simpa using ha) (by simpa using hb)
   exact⟨T,hT,fun j hj=>by simp[h3,hs j hj]⟩
theorem OwnLL.get:∀ {as1 bs:List (List AVal)} {S:List Id},OwnLL Q as1 bs S→∀ (i:Nat) a b,as1[i]?=some a→bs[i]?=some b→∃ T,OwnL Q a b T∧∀ j ∈ T,j ∈ S
 | [],[],_,_,i,a,b,ha,_=>by simp at ha
 | x::as1,y::bs,S,⟨S1,S2,h1,h2,h3,_⟩,i,a,b,ha,hb=>by
  match i with
  | 0=>simp at ha hb;subst ha hb;exact⟨S1,h1,fun j hj=>by simp[h3,hj]⟩
  | i+1=>
   obtain⟨T,hT,hs⟩:=OwnLL.get h2 i a b (by simpa using ha) (by simpa using hb)
   exact⟨T,hT,fun j hj=>by simp[h3,hs j hj]⟩
end
theorem Own.ret {H:Heap}:∀ {d:Nat} {a b:AVal} {S:List Id},Own H d a b S→Ret H a b
 | 0,_,_,_,⟨⟨rfl,hF⟩,_⟩=>Ret.fresh hF
 | d+1,a,b,S,h=>by
  rcases h with ⟨⟨rfl,hF⟩,_⟩ | ⟨cs,ds,rfl,rfl,h⟩ | ⟨cs,ds,rfl,rfl,h⟩ | ⟨rfl,rfl,_⟩ | ⟨id,o,els,T,rfl,rfl,ho,h,hn,rfl⟩
  ·exact Ret.fresh hF
  ·exact .agg h.len fun i a b ha hb=>by obtain⟨T,hT,_⟩:=h.get i a b ha hb;exact Own.ret hT
  ·exact .tup h.len fun i a b ha hb=>by obtain⟨T,hT,_⟩:=h.get i a b ha hb;exact Own.ret hT
  ·exact .nil true
  ·have e:(o.els.drop 0).take o.els.length=o.els:=by simp
   refine .arr (o:=o) (by simp[live,ho]) (by rw[e];exact h.len) (fun i x y hx hy=>?_) (fun i x y j p q hx hy hp hq=>?_)
   ·rw[e] at hx
    obtain⟨T',hT,_⟩:=h.get i x y hx hy
    exact hT.len
   ·rw[e] at hx
    obtain⟨T',hT,_⟩:=h.get i x y hx hy
    obtain⟨T2,hT2,_⟩:=hT.get j p q hp hq
    exact Own.ret hT2
section
variable {Q Q':AVal→AVal→List Id→Prop}
theorem OwnL.mem {i:Id}:∀ {as1 bs:List AVal} {S:List Id},OwnL Q as1 bs S→i ∈ S→∃ a ∈ as1,∃ b ∈ bs,∃ T,Q a b T∧i ∈ T∧∀ j ∈ T,j ∈ S
 | [],[],S,h,hi=>by rw[show S=[] from h] at hi;cases hi
 | x::as1,y::bs,S,⟨S1,S2,h1,h2,h3,_⟩,hi=>by
  rw[h3] at hi
  rcases List.mem_append.1 hi with hi | hi
  ·exact⟨x,by simp,y,by simp,S1,h1,hi,fun j hj=>by simp[h3,hj]⟩
  ·obtain⟨a,ha,b,hb,T,hT,hiT,hs⟩:=OwnL.mem h2 hi
   exact⟨a,by simp[ha],b,by simp[hb],T,hT,hiT,fun j hj=>by simp[h3,hs j hj]⟩
theorem OwnLL.mem {i:Id}:∀ {as1 bs:List (List AVal)} {S:List Id},OwnLL Q as1 bs S→i ∈ S→∃ e ∈ as1,∃ a ∈ e,∃ f ∈ bs,∃ b ∈ f,∃ T,Q a b T∧i ∈ T∧∀ j ∈ T,j ∈ S
 | [],[],S,h,hi=>by rw[show S=[] from h] at hi;cases hi
 | x::as1,y::bs,S,⟨S1,S2,h1,h2,h3,_⟩,hi=>by
  rw[h3] at hi
  rcases List.mem_append.1 hi with hi | hi
  ·obtain⟨a,ha,b,hb,T,hT,hiT,hs⟩:=h1.mem hi
   exact⟨x,by simp,a,ha,y,by simp,b,hb,T,hT,hiT,fun j hj=>by simp[h3,hs j hj]⟩
  ·obtain⟨e,he,a,ha,f,hf,b,hb,T,hT,hiT,hs⟩:=OwnLL.mem h2 hi
   exact⟨e,by simp[he],a,ha,f,by simp[hf],b,hb,T,hT,hiT,fun j hj=>by simp[h3,hs j hj]⟩
end
theorem Mv.mono {K K':Id→Prop} (h:∀ i,K i→K' i) {a:AVal} (m:Mv K a):Mv K' a:=by
 induction m with
 | v x=>exact .v x
 | agg cs _ ih=>exact .agg cs ih
 | tup cs _ ih=>exact .tup cs ih
 | list els _ ih=>exact .list els ih
 | arr id g off len hk=>exact .arr id g off len (h id hk)
 | ptr id g idx off hk=>exact .ptr id g idx off (h id hk)
theorem Fresh.mv {K:Id→Prop} {a:AVal} (h:Fresh a):Mv K a:=by
 induction h with
 | v x=>exact .v x
 | agg cs _ ih=>exact .agg cs ih
 | tup cs _ ih=>exact .tup cs ih
 | list els _ ih=>exact .list els ih
theorem Fresh.sh {n:Nat} {a:AVal} (h:Fresh a):shA n a=a:=by
 have fix:∀ {l:List AVal},(∀ a ∈ l,shA n a=a)→l.map (shA n)=l:=fun {l} h=>by
  conv=>rhs;rw[← List.map_id l]
  exact List.map_congr_left h
 induction h with
 | v x=>exact shA_v n x
 | agg cs _ ih=>rw[shA_agg,fix ih]
 | tup cs _ ih=>rw[shA_tup,fix ih]
 | list els _ ih=>
  rw[shA_list]
  congr 1
  conv=>rhs;rw[← List.map_id els]
  exact List.map_congr_left fun e he=>fix (ih e he)
theorem Own.mv {H:Heap}:∀ {d:Nat} {a b:AVal} {S:List Id},Own H d a b S→Mv (fun i=>i ∈ S) a
 | 0,_,_,_,⟨⟨rfl,hF⟩,_⟩=>Fresh.mv hF
 | d+1,a,b,S,h=>by
  rcases h with ⟨⟨rfl,hF⟩,_⟩ | ⟨cs,ds,rfl,rfl,h⟩ | ⟨cs,ds,rfl,rfl,h⟩ | ⟨rfl,rfl,_⟩ | ⟨id,o,els,T,rfl,rfl,ho,h,hn,rfl⟩
  ·exact Fresh.mv hF
  ·refine .agg _ fun a ha=>?_
   obtain⟨i,hi⟩:=List.getElem?_of_mem ha
   obtain⟨b,hb⟩:=get_of_len (l:=ds) (i:=i) (by rw[← h.len];exact (List.getElem?_eq_some_iff.1 hi).1)
   obtain⟨T,hT,hs⟩:=h.get i a b hi hb
   exact (Own.mv hT).mono hs
  ·refine .tup _ fun a ha=>?_
   obtain⟨i,hi⟩:=List.getElem?_of_mem ha
   obtain⟨b,hb⟩:=get_of_len (l:=ds) (i:=i) (by rw[← h.len];exact (List.getElem?_eq_some_iff.1 hi).1)
   obtain⟨T,hT,hs⟩:=h.get i a b hi hb
   exact (Own.mv hT).mono hs
  ·exact .v _
  ·exact .arr _ _ _ _ (by simp)
theorem Own.cells {H:Heap}:∀ {d:Nat} {a b:AVal} {S:List Id},Own H d a b S→∀ id o,H id=some o→id ∈ S→∀ e ∈ o.els,∀ x ∈ e,Mv (fun i=>i ∈ S) x
 | 0,_,_,_,⟨_,hS⟩,id,o,_,hi=>by rw[hS] at hi;cases hi
 | d+1,a,b,S,h,id,o,ho,hi=>by
  rcases h with ⟨_,rfl⟩ | ⟨cs,ds,rfl,rfl,h⟩ | ⟨cs,ds,rfl,rfl,h⟩ | ⟨_,_,rfl⟩ | ⟨id',o',els,T,rfl,rfl,ho',h,hn,rfl⟩
  ·cases hi
  ·obtain⟨a,_,b,_,T,hT,hiT,hs⟩:=h.mem hi
   exact fun e he x hx=>(Own.cells hT id o ho hiT e he x hx).mono hs
  ·obtain⟨a,_,b,_,T,hT,hiT,hs⟩:=h.mem hi
   exact fun e he x hx=>(Own.cells hT id o ho hiT e he x hx).mono hs
  ·cases hi
  ·rcases List.mem_cons.1 hi with rfl | hi
   ·rw[ho] at ho'
    cases ho'
    intro e he x hx
    obtain⟨i,hi⟩:=List.getElem?_of_mem he
    obtain⟨f,hf⟩:=get_of_len (l:=els) (i:=i) (by rw[← h.len];exact (List.getElem?_eq_some_iff.1 hi).1)
    obtain⟨T',hT,hs⟩:=h.get i e f hi hf
    obtain⟨j,hj⟩:=List.getElem?_of_mem hx
    obtain⟨y,hy⟩:=get_of_len (l:=f) (i:=j) (by rw[← hT.len];exact (List.getElem?_eq_some_iff.1 hj).1)
    obtain⟨T2,hT2,hs2⟩:=hT.get j x y hj hy
    exact (Own.mv hT2).mono fun i hi=>by simp[hs i (hs2 i hi)]
   ·obtain⟨e',_,a,_,f,_,b,_,T',hT,hiT,hs⟩:=h.mem hi
    exact fun e he x hx=>(Own.cells hT id o ho hiT e he x hx).mono fun i hi=>by simp[hs i hi]
theorem shId_inj (n:Nat) (i j:Id) (h:shId n i=shId n j):i=j:=by
 obtain⟨a,b⟩:=i
 obtain⟨c,d⟩:=j
 simp[shId] at h
 ext
 ·simp;omega
 ·simp[h.2]
def OwnC (P:Program) (f:FuncId) (args:List AVal) (d:Nat) (R:AVal→Prop):Prop:=MadeC P f args fun v H' _=>∃ r S,Own H' d v r S∧R r
theorem OwnC.pure {P:Program} {f:FuncId} {args:List AVal} {d:Nat} {R:AVal→Prop} (h:OwnC P f args d R):PureC P f args R:=
 CallsA.mono (Q:=fun v H' _=>∃ r S,Own H' d v r S∧R r) h fun _ _ _ ⟨r,_,hO,hR⟩=>⟨r,.of hO.ret,hR⟩
end Go.Ab
/- The abstract machine, part Tb: contracts whose result the caller owns, and how a script shows one. -/
namespace Go.Ab
set_option linter.unusedSectionVars false
variable [Inhabited Tabs]
theorem Own.v {H:Heap}:∀ (d:Nat) (x:Value),Own H d (.v x) (.v x) []
 | 0,x=>⟨⟨rfl,.v x⟩,rfl⟩
 | _+1,x=>.inl ⟨⟨rfl,.v x⟩,rfl⟩
theorem OwnL.flat {H:Heap} {d:Nat}:∀ {e:List AVal},(∀ a ∈ e,flat a=true)→OwnL (Own H d) e e []
 | [],_=>rfl
 | a::e,h=>by
  have ha:=h a (by simp)
  cases a<;>simp[Ab.flat] at ha
  exact⟨[],[],Own.v d _,OwnL.flat fun b hb=>h b (by simp[hb]),rfl,by simp⟩
theorem OwnLL.flat {H:Heap} {d:Nat}:∀ {els:List (List AVal)},(∀ e ∈ els,∀ a ∈ e,flat a=true)→OwnLL (Own H d) els els []
 | [],_=>rfl
 | e::els,h=>⟨[],[],OwnL.flat (h e (by simp)),OwnLL.flat fun f hf=>h f (by simp[hf]),rfl,by simp⟩
theorem Own.arrF {H:Heap} {d g sz:Nat} {id:Id} {els:List (List AVal)} (h:H id=some ⟨sz,els⟩) (hg:els.length=g) (hf:∀ e ∈ els,∀ a ∈ e,flat a=true):Own H (d+1) (.arr id g 0 g) (.list true els) [id]:=by
 subst hg
 exact .inr (.inr (.inr (.inr ⟨id,_,els,[],rfl,rfl,h,OwnLL.flat hf,by simp,rfl⟩)))
def PostO (d:Nat) (R:AVal→Prop) (Q:AVal→Heap→Nat→Prop):Prop:=∀ v H n r S,Own H d v r S→R r→Q v H n
theorem OwnC.of {P:Program} {f:FuncId} {fn:Func} {body:Code} {args:List AVal} {R:AVal→Prop} {N d:Nat} (hfn:P.funcs[f]?=some fn) (hb:fn.body=some body) (hn:fn.ntmps=N) (hN:args.length≤N)
  (h:∀ Q,PostO d R Q→Runs P f N [.code body] (argEnv args) noHeap 0 Q):OwnC P f args d R:=by
 subst hn
 exact CallsA.of_runs hfn hb hN (h (fun v H' _=>∃ r S,Own H' d v r S∧R r) fun v H n r S h1 h2=>⟨r,S,h1,h2⟩)
section
variable {P:Program} {f:FuncId} {N:Nat} {k:List Item} {Q:AVal→Heap→Nat→Prop} {Ty:Types} {l:List Oper} {ρ:Env} {H:Heap} {n:Nat}
theorem RunK.callS (hT:TypesOk P Ty) {d:Option Tmp} {g:Operand} {args:Array Operand} {ats:Array TypeId} {ty:TypeId} {pos:String} {af:Array Edge} {post:AVal→Heap→Nat→Prop} {f':FuncId} {as1:List AVal} {ops:List Oper}
  (h:CallsA P f' as1 H n post) (hent:Ent P f')
  (hN:ops.all (fun o=>dok N o.dst)=true) (hl:(⟨d,.call ⟨.value g,args,ats⟩,ty,pos,af,none⟩::l:List Oper).all (fun o=>dok N o.dst)=true) (hg:ρ.ev g = .fn (.func f') [] []) (has:args.toList.map ρ.ev=as1)
  (hk:∀ v H1 n1,post v H1 n1→evalK P f N k Q Ty ops.toArray l (ρ.put d v) H1 n1) :
  RunK P f N k Q ops.toArray (⟨d,.call ⟨.value g,args,ats⟩,ty,pos,af,none⟩::l) ρ H n:=
 RunK.op hT hN hl rfl (OpSem.call hg hent (by simpa[has] using h)) hk
end
end Go.Ab
/- The abstract machine, part Tc: functions that turn a caller's own arrays; arrays that are turned from the left. -/
namespace Go.Ab
set_option linter.unusedSectionVars false
variable [Inhabited Tabs]
theorem Runs.cut {P:Program} {f:FuncId} {N:Nat} {k:List Item} {ρ:Env} {H:Heap} {n:Nat} {Q:AVal→Heap→Nat→Prop} (I:Env→Heap→Nat→Prop) (h0:I ρ H n) (h:∀ ρ H n,I ρ H n→Runs P f N k ρ H n Q):Runs P f N k ρ H n Q:=h _ _ _ h0
theorem CallsA.of {P:Program} {f:FuncId} {fn:Func} {body:Code} {args:List AVal} {H:Heap} {n N:Nat} {Q0:AVal→Heap→Nat→Prop} (hfn:P.funcs[f]?=some fn) (hb:fn.body=some body) (hn:fn.ntmps=N) (hN:args.length≤N)
  (h:∀ Q:AVal→Heap→Nat→Prop,(∀ v H1 n1,Q0 v H1 n1→Q v H1 n1)→Runs P f N [.code body] (argEnv args) H n Q):CallsA P f args H n Q0:=by
 subst hn
 exact CallsA.of_runs hfn hb hN (h Q0 fun _ _ _ h=>h)
section
variable {row:Nat→List AVal} {els:List (List AVal)} {k:Nat}
end
end Go.Ab
/- The abstract machine, part Td: functions whose results may share cells with their arguments; what they have made besides is dropped. -/
namespace Go.Ab
set_option linter.unusedSectionVars false
variable [Inhabited Tabs]
def Sub (a b:AVal):Prop:=∀ (c:Ctx) (x:Value),Rep c a x→Rep c b x
theorem Sub.refl (a:AVal):Sub a a:=fun _ _ h=>h
inductive SubL:List AVal→List AVal→Prop
 | nil:SubL [] []
 | cons {a b:AVal} {as1 bs:List AVal} (h:Sub a b) (t:SubL as1 bs):SubL (a::as1) (b::bs)
theorem SubL.get {as1 bs:List AVal} (h:SubL as1 bs):as1.length=bs.length∧∀ (i:Nat) (a b:AVal),as1[i]?=some a→bs[i]?=some b→Sub a b:=by
 induction h with
 | nil=>exact⟨rfl,by simp⟩
 | cons h _ ih=>
  refine⟨by simp[ih.1],fun i a b ha hb=>?_⟩
  cases i with
  | zero=>simp at ha hb;rw[← ha,← hb];exact h
  | succ i=>exact ih.2 i a b (by simpa using ha) (by simpa using hb)
theorem Sub.old {els:List (List AVal)} (t:Bool):Sub (.list t els) (.list false els):=fun c x r=>by
 cases r with
 | lnil=>exact .lnil false
 | list _ _ a cap sz cell hs hcap hm hsz hc hr=>exact .list false els a cap sz cell hs hcap (fun h=>⟨(hm h).1,(hm h).2.1,fun h=>by cases h⟩) hsz hc hr
theorem CallsA.sub {P:Program} {f:FuncId} {as1 bs:List AVal} {H:Heap} {n:Nat} {Q:AVal→Heap→Nat→Prop} (hs:SubL as1 bs) (h:CallsA P f bs H n Q):CallsA P f as1 H n Q:=fun c xs hH hn g r=>by
 obtain⟨h1,h2⟩:=hs.get
 refine h c xs hH hn g ⟨by rw[← h1];exact r.1,fun i b x hb hx=>?_⟩
 have hi:=(List.getElem?_eq_some_iff.1 hb).1
 obtain⟨a,ha⟩:=get_of_len (l:=as1) (i:=i) (by omega)
 exact h2 i a b ha hb c x (r.2 i a x ha hx)
inductive Bnd (n:Nat):AVal→Prop
 | undef:Bnd n .undef
 | v (x:Value):Bnd n (.v x)
 | agg (cs:List AVal) (h:∀ a ∈ cs,Bnd n a):Bnd n (.agg cs)
 | tup (cs:List AVal) (h:∀ a ∈ cs,Bnd n a):Bnd n (.tup cs)
 | list (fr:Bool) (els:List (List AVal)) (h:∀ e ∈ els,∀ a ∈ e,Bnd n a):Bnd n (.list fr els)
 | arr (id:Id) (g off len:Nat) (h:id.1<n):Bnd n (.arr id g off len)
 | ptr (id:Id) (g idx off:Nat) (h:id.1<n):Bnd n (.ptr id g idx off)
 | iptr (fr:Bool) (cs:List AVal) (h:∀ a ∈ cs,Bnd n a):Bnd n (.iptr fr cs)
 | fn (f:Fn) (first captured:List AVal) (h:∀ a ∈ first,Bnd n a) (h':∀ a ∈ captured,Bnd n a):Bnd n (.fn f first captured)
 | iface (t:TypeId) (a:AVal) (h:Bnd n a):Bnd n (.iface t a)
 | clip (fr:Bool) (els:List (List Value)):Bnd n (.clip fr els)
theorem mem_pair {as1:List AVal} {xs:List Value} (hl:as1.length=xs.length) {a:AVal} (ha:a ∈ as1):∃ (i:Nat) (x:Value),as1[i]?=some a∧xs[i]?=some x:=by
 obtain⟨i,hi⟩:=List.getElem?_of_mem ha
 have h1:=(List.getElem?_eq_some_iff.1 hi).1
 exact⟨i,xs[i]'(by omega),hi,List.getElem?_eq_getElem (by omega)⟩
theorem Rep.bnd {c:Ctx} {a:AVal} {x:Value} (r:Rep c a x):Bnd c.n a:=by
 induction r with
 | undef=>exact .undef
 | v x=>exact .v x
 | agg cs vs hl _ ih=>exact .agg _ fun a ha=>by obtain⟨i,x,h1,h2⟩:=mem_pair hl ha;exact ih i a x h1 h2
 | tup cs vs hl _ ih=>exact .tup _ fun a ha=>by obtain⟨i,x,h1,h2⟩:=mem_pair hl ha;exact ih i a x h1 h2
 | lnil fr=>exact .list _ _ (by simp)
 | list fr els a cap sz cell hs hcap hm hsz hc _ ih=>
  refine .list _ _ fun e he y hy=>?_
  obtain⟨i,hi⟩:=List.getElem?_of_mem he
  obtain⟨j,hj⟩:=List.getElem?_of_mem hy
  exact ih i e j y hi hj
 | arr id gen off len x h1 hn hg h=>exact .arr _ _ _ _ hn
 | ptr id gen idx off x h1 hn hg h=>exact .ptr _ _ _ _ hn
 | iptr fr cs a cell hs hm hb hf hc _ ih=>
  refine .iptr _ _ fun y hy=>?_
  obtain⟨j,hj⟩:=List.getElem?_of_mem hy
  exact ih j y hj
 | fn f first captured vs us hl hl' _ _ ih ih'=>
  exact .fn _ _ _ (fun a ha=>by obtain⟨i,x,h1,h2⟩:=mem_pair hl ha;exact ih i a x h1 h2) (fun a ha=>by obtain⟨i,x,h1,h2⟩:=mem_pair hl' ha;exact ih' i a x h1 h2)
 | iface t a x _ ih=>exact .iface _ _ ih
 | clip fr els x hf _ ih=>exact .clip _ _
def Ctx.cut (c:Ctx) (n:Nat):Ctx:={ c with H:=fun i=>if i.1<n then c.H i else none,n:=n }
theorem Ctx.cut_H {c:Ctx} {n:Nat} {i:Id} {o:Ob} (h:(c.cut n).H i=some o):i.1<n∧c.H i=some o:=by
 simp only[Ctx.cut] at h
 split at h
 ·exact⟨by assumption,h⟩
 ·cases h
theorem Ctx.cut_mu {c:Ctx} {n k:Nat} (h:(c.cut n).mu k):c.mu k:=by
 obtain⟨i,o,h1,h2⟩:=h
 exact⟨i,o,(Ctx.cut_H h1).2,h2⟩
theorem Rep.cut {c:Ctx} {n:Nat} {a:AVal} {x:Value} (r:Rep c a x):Bnd n a→Rep (c.cut n) a x:=by
 induction r with
 | undef x=>intro _;exact .undef x
 | v x=>intro _;exact .v x
 | agg cs vs hl _ ih=>intro h;cases h with | agg _ h=>exact .agg _ vs hl fun i a x ha hx=>ih i a x ha hx (h a (List.mem_of_getElem? ha))
 | tup cs vs hl _ ih=>intro h;cases h with | tup _ h=>exact .tup _ vs hl fun i a x ha hx=>ih i a x ha hx (h a (List.mem_of_getElem? ha))
 | lnil fr=>intro _;exact .lnil fr
 | list fr els a cap sz cell hs hcap hm hsz hc _ ih=>
  intro h
  cases h with
  | list _ _ h=>exact .list fr els a cap sz cell hs hcap (fun hne=>⟨fun hmu=>(hm hne).1 (Ctx.cut_mu hmu),(hm hne).2.1,(hm hne).2.2⟩) hsz hc fun i e j y he hy=>ih i e j y he hy (h e (List.mem_of_getElem? he) y (List.mem_of_getElem? hy))
 | arr id gen off len x h1 hn hg h=>
  intro hb
  cases hb with
  | arr _ _ _ _ hlt=>exact .arr id gen off len x h1 hlt (fun o ho=>hg o (Ctx.cut_H ho).2) (fun o ho hgen=>h o (Ctx.cut_H ho).2 hgen)
 | ptr id gen idx off x h1 hn hg h=>
  intro hb
  cases hb with
  | ptr _ _ _ _ hlt=>exact .ptr id gen idx off x h1 hlt (fun o ho=>hg o (Ctx.cut_H ho).2) (fun o ho hgen=>h o (Ctx.cut_H ho).2 hgen)
 | iptr fr cs a cell hs hm hb hf hc _ ih=>
  intro h
  cases h with
  | iptr _ _ h=>exact .iptr fr cs a cell hs (fun hmu=>hm (Ctx.cut_mu hmu)) hb hf hc fun j y hy=>ih j y hy (h y (List.mem_of_getElem? hy))
 | fn f first captured vs us hl hl' _ _ ih ih'=>
  intro h
  cases h with
  | fn _ _ _ h h'=>exact .fn f first captured vs us hl hl' (fun i a x ha hx=>ih i a x ha hx (h a (List.mem_of_getElem? ha))) (fun i a x ha hx=>ih' i a x ha hx (h' a (List.mem_of_getElem? ha)))
 | iface t a x _ ih=>intro h;cases h with | iface _ _ h=>exact .iface t a x (ih h)
 | clip fr els x hf _ ih=>intro h;exact .clip fr els x hf (ih (.list _ _ fun e he a ha=>by obtain⟨y,_,rfl⟩:=List.mem_map.1 he;obtain⟨z,_,rfl⟩:=List.mem_map.1 ha;exact .v _))
inductive RetD (H:Heap) (n:Nat):AVal→AVal→Prop
 | bnd {a:AVal} (h:Bnd n a):RetD H n a a
 | agg {cs ds:List AVal} (hl:cs.length=ds.length) (h:∀ (i:Nat) (a b:AVal),cs[i]?=some a→ds[i]?=some b→RetD H n a b):RetD H n (.agg cs) (.agg ds)
 | tup {cs ds:List AVal} (hl:cs.length=ds.length) (h:∀ (i:Nat) (a b:AVal),cs[i]?=some a→ds[i]?=some b→RetD H n a b):RetD H n (.tup cs) (.tup ds)
 | nil (fr:Bool):RetD H n (.v (.slice none 0 0)) (.list fr [])
 | arr {id:Id} {g off len:Nat} {o:Ob} {fls:List (List AVal)} (hlv:live H id g=some o) (hid:n≤id.1) (hl:((o.els.drop off).take len).length=fls.length)
   (hl':∀ (i:Nat) (e f:List AVal),((o.els.drop off).take len)[i]?=some e→fls[i]?=some f→e.length=f.length)
   (h:∀ (i:Nat) (e f:List AVal) (j:Nat) (a b:AVal),((o.els.drop off).take len)[i]?=some e→fls[i]?=some f→e[j]?=some a→f[j]?=some b→RetD H n a b):RetD H n (.arr id g off len) (.list true fls)
theorem Rep.retD {c:Ctx} {n:Nat} (g:Good c) {a b:AVal} (r:RetD c.H n a b):∀ {x:Value},Rep c a x→Rep (c.cut n) b x:=by
 induction r with
 | bnd h=>intro x hx;exact hx.cut h
 | agg hl _ ih=>
  intro x hx
  cases hx with
  | agg _ vs hl' hr=>
  refine .agg _ vs (by omega) fun i b x hb hx=>?_
  have hi:=(List.getElem?_eq_some_iff.1 hb).1
  obtain⟨a,ha⟩:=get_of_len (l:=_) (i:=i) (by rw[hl];exact hi)
  exact ih i a b ha hb (hr i a x ha hx)
 | tup hl _ ih=>
  intro x hx
  cases hx with
  | tup _ vs hl' hr=>
  refine .tup _ vs (by omega) fun i b x hb hx=>?_
  have hi:=(List.getElem?_eq_some_iff.1 hb).1
  obtain⟨a,ha⟩:=get_of_len (l:=_) (i:=i) (by rw[hl];exact hi)
  exact ih i a b ha hb (hr i a x ha hx)
 | nil fr=>intro x hx;rw[hx.v_inv];exact .lnil fr
 | @arr id gen off len o fls hlv hid hl hl' _ ih=>
  intro x hx
  obtain⟨l1,l2⟩:=live_some hlv
  cases hx with
  | arr _ _ _ _ _ hone hn hg hp=>
  obtain⟨p1,⟨b,aoff,sp⟩,cap,rfl,hab,hsp,hlc,hoff,hcl⟩:=hp o l1 l2
  simp only at hab hsp hoff
  subst hab hsp
  obtain⟨hB,cl,el,hcell,hfit,hel⟩:=g.obj id o l1
  have hlen:((o.els.drop off).take len).length=len:=by simp;omega
  have hget:∀ (i:Nat) (e:List AVal),((o.els.drop off).take len)[i]?=some e→i<len∧o.els[off+i]?=some e:=by
   intro i e he
   rw[List.getElem?_take] at he
   split at he
   ·rename_i hi
    rw[List.getElem?_drop] at he
    exact⟨hi,he⟩
   ·cases he
  have key:∀ (i:Nat) (f:List AVal) (j:Nat) (y:AVal),fls[i]?=some f→f[j]?=some y→∃ e z u,((o.els.drop off).take len)[i]?=some e∧e[j]?=some z∧cl[(off+i) * o.size+j]?=some u∧Rep c z u∧aoff=off * o.size:=by
   intro i f j y hf hy
   have hi:=(List.getElem?_eq_some_iff.1 hf).1
   obtain⟨e,he⟩:=get_of_len (l:=(o.els.drop off).take len) (i:=i) (by omega)
   have hej:=hl' i e f he hf
   obtain⟨z,hz⟩:=get_of_len (l:=e) (i:=j) (by rw[hej];exact (List.getElem?_eq_some_iff.1 hy).1)
   obtain⟨hi2,he2⟩:=hget i e he
   obtain⟨u,hu,hr⟩:=(hel _ _ he2).2 j z hz
   refine⟨e,z,u,he,hz,hu,hr,?_⟩
   rcases hoff with h | h
   ·exact h
   ·omega
  have:=Rep.list (c:=c.cut n) true fls ⟨c.β id,aoff,none⟩ cap o.size (fun i j=>cl.getD ((off+i) * o.size+j) Go.undef) (fun _=>rfl) (by omega) (fun _=>⟨?_,g.lt l1,fun _=>hB⟩) (fun i f hf=>?_) (fun i f j y hf hy=>?_) (fun i f j y hf hy=>?_)
  ·rw[← hl,hlen] at this;exact this
  ·rintro⟨i,o',h1,h2⟩
   obtain⟨h3,h4⟩:=Ctx.cut_H h1
   have:=g.inj i id o' o h4 l1 h2
   subst this
   omega
  ·have hi:=(List.getElem?_eq_some_iff.1 hf).1
   obtain⟨e,he⟩:=get_of_len (l:=(o.els.drop off).take len) (i:=i) (by omega)
   rw[← hl' i e f he hf]
   exact (hel _ _ (hget i e he).2).1
  ·obtain⟨e,z,u,he,hz,hu,hr,hao⟩:=key i f j y hf hy
   rw[hao,← Nat.add_assoc,← Nat.add_mul]
   simp[Ctx.cut,World.cell?,hcell,hu,Array.getD_eq_getD_getElem?]
  ·obtain⟨e,z,u,he,hz,hu,hr,hao⟩:=key i f j y hf hy
   rw[Array.getD_eq_getD_getElem?,hu]
   exact ih i e f j z y he hf hz hy hr
def Frame (n:Nat) (H H1:Heap):Prop:=∀ i:Id,i.1<n→H1 i=H i
theorem Frame.refl (n:Nat) (H:Heap):Frame n H H:=fun _ _=>rfl
theorem Frame.set {n:Nat} {H H1:Heap} {id:Id} {o:Ob} (hid:n≤id.1) (h:Frame n H H1):Frame n H (H1.set id o):=fun i hi=>by
 rw[Heap.get_set_ne _ _ (by rintro rfl;omega)]
 exact h i hi
theorem CallsA.drop {P:Program} {f:FuncId} {args:List AVal} {H:Heap} {n:Nat} {R:AVal→Prop} (h:CallsA P f args H n (fun v H1 _=>∃ r,RetD H1 n v r∧Frame n H H1∧R r)):CallsA P f args H n (fun v H1 n1=>R v∧H1=H∧n1=n):=by
 intro c xs hH hn g r
 refine (h c xs hH hn g r).mono ?_
 rintro e w' ⟨x,v,c1,he,hw,⟨r',hret,hfr,hR⟩,hrep,hg1,hk⟩
 subst hH hn
 refine⟨x,r',c1.cut c.n,he,hw,⟨hR,?_,rfl⟩,hrep.retD hg1 hret,⟨fun id o ho=>(Ctx.cut_H ho).1,fun id id' o o' ho ho' hb=>hg1.inj id id' o o' (Ctx.cut_H ho).2 (Ctx.cut_H ho').2 hb,hg1.Bsize,fun id o ho=>?_,hg1.tab⟩,?_⟩
 ·funext i
  simp only[Ctx.cut]
  split
  ·rename_i h;exact hfr i h
  ·rename_i h
   cases hc:c.H i with
   | none=>rfl
   | some o=>exact absurd (g.stamp i o hc) h
 ·obtain⟨h1,h2⟩:=Ctx.cut_H ho
  obtain⟨p1,cl,el,p2,p3,p4⟩:=hg1.obj id o h2
  refine⟨p1,cl,el,p2,p3,fun i e he=>⟨(p4 i e he).1,fun j a ha=>?_⟩⟩
  obtain⟨y,hy,hr⟩:=(p4 i e he).2 j a ha
  refine⟨y,hy,hr.cut ?_⟩
  rw[hfr id h1] at h2
  obtain⟨_,cl0,el0,_,_,q4⟩:=g.obj id o h2
  obtain⟨y0,_,hr0⟩:=(q4 i e he).2 j a ha
  exact hr0.bnd
 ·exact⟨Nat.le_refl _,hk.B,hk.size,hk.os,hk.tape,hk.output,fun k hlt hm=>⟨(hk.imm k hlt hm).1,fun h=>(hk.imm k hlt hm).2 (Ctx.cut_mu h)⟩,fun id o' ho hid=>hk.obj id o' (Ctx.cut_H ho).2 hid⟩
def HBnd (n:Nat) (H:Heap):Prop:=∀ i o,H i=some o→i.1<n∧∀ e ∈ o.els,∀ a ∈ e,Bnd n a
theorem CallsA.bnd {P:Program} {f:FuncId} {args:List AVal} {H:Heap} {n:Nat} {Q:AVal→Heap→Nat→Prop} (h:HBnd n H→CallsA P f args H n Q):CallsA P f args H n Q:=by
 intro c xs hH hn g r
 refine h (fun i o ho=>?_) c xs hH hn g r
 subst hH hn
 refine⟨g.stamp i o ho,fun e he a ha=>?_⟩
 obtain⟨j,hj⟩:=List.getElem?_of_mem he
 obtain⟨q,hq⟩:=List.getElem?_of_mem ha
 obtain⟨_,cl,el,_,_,h4⟩:=g.obj i o ho
 obtain⟨x,_,hr⟩:=(h4 j e hj).2 q a hq
 exact hr.bnd
section
variable {P:Program} {f:FuncId} {N:Nat} {k:List Item} {Q:AVal→Heap→Nat→Prop} {Ty:Types} {l:List Oper} {ρ:Env} {H:Heap} {n:Nat}
end
def resA (Ty:Types) (H:Heap) (ρ:Env):ResultVar→Option AVal
 | .tmp t=>some (ρ t)
 | .cell t ty=>match Ty ty,viewOf H (ρ t) with
  | some i,some cs=>loadA i cs
  | _,_=>none
theorem bytes_extract (s:Str) (a b:Nat):(ByteArray.mk s.toArray).extract a b=ByteArray.mk ((s.drop a).take (b - a)).toArray:=by
 apply ByteArray.ext
 apply Array.ext'
 simp
attribute [simp] bytes_extract
end Go.Ab
/- The abstract machine, part Tf: calls of function values; calls that leave the heap as it is. -/
namespace Go.Ab
set_option linter.unusedSectionVars false
variable [Inhabited Tabs]
def StillC (P:Program) (f:FuncId) (args:List AVal) (H:Heap) (n:Nat) (R:AVal→Prop):Prop:=CallsA P f args H n (fun v H1 n1=>R v∧H1=H∧n1=n)
theorem StillC.of {P:Program} {f:FuncId} {fn:Func} {body:Code} {args:List AVal} {N:Nat} {R:AVal→Prop} {H:Heap} {n:Nat} (hfn:P.funcs[f]?=some fn) (hb:fn.body=some body) (hn:fn.ntmps=N) (hN:args.length≤N)
  (h:∀ Q,HBnd n H→(∀ v H1 n1 r,RetD H1 n v r→Frame n H H1→R r→Q v H1 n1)→Runs P f N [.code body] (argEnv args) H n Q):StillC P f args H n R:=
 CallsA.bnd fun hB=>CallsA.drop (CallsA.of hfn hb hn hN fun Q hQ=>h Q hB fun v H1 n1 r h1 h2 h3=>hQ v H1 n1 ⟨r,h1,h2,h3⟩)
def ClosC (P:Program) (H:Heap) (n:Nat) (cl:AVal) (args:List AVal) (R:AVal→Prop):Prop:=
 ∃ g first caps,cl = .fn (.func g) first caps∧Ent P g∧StillC P g (first++args++caps) H n R
section
variable {P:Program} {f:FuncId} {N:Nat} {k:List Item} {Q:AVal→Heap→Nat→Prop} {Ty:Types} {l:List Oper} {ρ:Env} {H:Heap} {n:Nat}
theorem RunK.callF (hT:TypesOk P Ty) {d:Option Tmp} {g:Operand} {args:Array Operand} {ats:Array TypeId} {ty:TypeId} {pos:String} {af:Array Edge} {R:AVal→Prop} {cl:AVal} {as1:List AVal} {ops:List Oper}
  (h:ClosC P H n cl as1 R) (hN:ops.all (fun o=>dok N o.dst)=true) (hl:(⟨d,.call ⟨.value g,args,ats⟩,ty,pos,af,none⟩::l:List Oper).all (fun o=>dok N o.dst)=true) (hg:ρ.ev g=cl) (has:args.toList.map ρ.ev=as1)
  (hk:∀ v,R v→evalK P f N k Q Ty ops.toArray l (ρ.put d v) H n) :
  RunK P f N k Q ops.toArray (⟨d,.call ⟨.value g,args,ats⟩,ty,pos,af,none⟩::l) ρ H n:=by
 obtain⟨f',first,caps,hcl,hent,hc⟩:=h
 refine RunK.op hT hN hl rfl (OpSem.call (hg.trans hcl) hent (by rw[has];exact hc)) ?_
 rintro v H1 n1 ⟨h1,rfl,rfl⟩
 exact hk v h1
theorem RunK.callT (hT:TypesOk P Ty) {d:Option Tmp} {g:Operand} {args:Array Operand} {ats:Array TypeId} {ty:TypeId} {pos:String} {af:Array Edge} {R:AVal→Prop} {f':FuncId} {as1:List AVal} {ops:List Oper}
  (h:StillC P f' as1 H n R) (hent:Ent P f')
  (hN:ops.all (fun o=>dok N o.dst)=true) (hl:(⟨d,.call ⟨.value g,args,ats⟩,ty,pos,af,none⟩::l:List Oper).all (fun o=>dok N o.dst)=true) (hg:ρ.ev g = .fn (.func f') [] []) (has:args.toList.map ρ.ev=as1)
  (hk:∀ v,R v→evalK P f N k Q Ty ops.toArray l (ρ.put d v) H n) :
  RunK P f N k Q ops.toArray (⟨d,.call ⟨.value g,args,ats⟩,ty,pos,af,none⟩::l) ρ H n:=
 RunK.callS hT h hent hN hl hg has fun v H1 n1 ⟨h1,h2,h3⟩=>by subst h2 h3;exact hk v h1
theorem RunDK.callT (hT:TypesOk P Ty) {κ:Op→Nat} (hκ:KOk κ) {d:Option Tmp} {g:Operand} {args:Array Operand} {ats:Array TypeId} {ty:TypeId} {pos:String} {af:Array Edge} {v:AVal} {f':FuncId} {as1:List AVal} {ops:Array Oper}
  (h:StillC P f' as1 H n (fun r=>r=v)) (hent:Ent P f') (h0:κ (.call ⟨.value g,args,ats⟩) ≠ 0) (hg:ρ.ev g = .fn (.func f') [] []) (has:args.toList.map ρ.ev=as1)
  (hk:evalD P f N k Q Ty κ ops l (ρ.put d v) H n):RunDK P f N k Q κ ops (⟨d,.call ⟨.value g,args,ats⟩,ty,pos,af,none⟩::l) ρ H n:=by
 refine RunDK.op hT hκ rfl h0 (fun _=>⟨rfl,rfl⟩) ?_ hk
 have h1:(loc (.call ⟨.value g,args,ats⟩) ρ).ev g=ρ.ev g:=loc_ev (by simp[Op.operands,Call.operands])
 have h2:args.toList.map (loc (.call ⟨.value g,args,ats⟩) ρ).ev=args.toList.map ρ.ev:=List.map_congr_left fun x hx=>loc_ev (by simp[Op.operands,Call.operands];exact .inr (by simpa using hx))
 exact OpSem.call (by rw[h1];exact hg) hent (by rw[h2,has,List.nil_append,List.append_nil];exact h)
end
end Go.Ab
/- The abstract machine, part Vc: what a walk by program leaves to show is pure: indices, sums and loops with invariants; and the facts that such a walk tells the simplifier. -/
namespace Go.Ab
set_option linter.unusedSectionVars false
variable [Inhabited Tabs]
set_option linter.unusedSectionVars false
set_option linter.unusedSimpArgs false
def I64 (n:Int):Prop := -9223372036854775808≤n∧n≤9223372036854775807
def at' {α:Type} [Inhabited α] (l:List α) (i:Int):α:=l.getD i.toNat default
def loopW {σ:Type} (body:σ→(σ→Prop)→Prop) (s:σ):Prop:=
 ∃ (I:σ→Prop) (m:σ→Nat),I s∧∀ s,I s→body s (fun s'=>I s'∧m s'<m s)
def joinW {σ:Type} (ways:(σ→Prop)→Prop) (rest:σ→Prop):Prop:=∃ J:σ→Prop,ways J∧∀ s,J s→rest s
section
variable {P:Program} {f:FuncId} {N:Nat} {k:List Item} {ρ:Env} {H:Heap} {n:Nat} {Q:AVal→Heap→Nat→Prop}
theorem Runs.loopW {σ:Type} {body:σ→(σ→Prop)→Prop} {s:σ} {x:Code} (h:Ab.loopW body s) (E:σ→Env→Heap→Nat→Prop) (h0:E s ρ H n)
  (step:∀ s ρ H n (K:σ→Prop),body s K→E s ρ H n→(∀ s' ρ' H' n',K s'→E s' ρ' H' n'→Runs P f N (.inLoop x::k) ρ' H' n' Q)→Runs P f N (.code x::.inLoop x::k) ρ H n Q) :
  Runs P f N (.code (.loop x)::k) ρ H n Q:=by
 obtain⟨I,m,hI,hs⟩:=h
 refine Runs.loopM (fun M ρ H n=>∃ s,I s∧m s=M∧E s ρ H n) (m s) ⟨s,hI,rfl,h0⟩ ?_
 rintro _ ρ H n ⟨s,hI,rfl,hE⟩ IH
 exact step s ρ H n _ (hs s hI) hE fun s' ρ' H' n' ⟨h1,h2⟩ hE'=>IH (m s') ρ' H' n' h2 ⟨s',h1,rfl,hE'⟩
theorem Runs.ret1 {fn:Func} {t:Tmp} {v:AVal} (hfn:P.funcs[f]?=some fn) (hr:fn.results=#[.tmp t]) (hv:ρ t=v) (hq:Q v H n):Runs P f N (.code .ret::k) ρ H n Q:=
 Runs.ret hfn (RetOk.one hr) (hv ▸ hq)
theorem Runs.ret2 {fn:Func} {t u:Tmp} {v w:AVal} (hfn:P.funcs[f]?=some fn) (hr:fn.results=#[.tmp t,.tmp u]) (hv:ρ t=v) (hw:ρ u=w) (hq:Q (.tup [v,w]) H n):Runs P f N (.code .ret::k) ρ H n Q:=
 Runs.ret hfn (RetOk.two hr) (hv ▸ hw ▸ hq)
theorem Runs.ret3 {fn:Func} {t u s:Tmp} {v w z:AVal} (hfn:P.funcs[f]?=some fn) (hr:fn.results=#[.tmp t,.tmp u,.tmp s]) (hv:ρ t=v) (hw:ρ u=w) (hz:ρ s=z) (hq:Q (.tup [v,w,z]) H n):Runs P f N (.code .ret::k) ρ H n Q:=
 Runs.ret hfn (RetOk.three hr) (hv ▸ hw ▸ hz ▸ hq)
end
theorem ib_add {a b v:Int} (h:I64 (a+b)) (hv:v=a+b):intBin .add .i64 a b=some (int v):=by subst hv;simp only[intBin];rw[wrap64 h.1 h.2]
theorem ib_sub {a b v:Int} (h:I64 (a - b)) (hv:v=a - b):intBin .sub .i64 a b=some (int v):=by subst hv;simp only[intBin];rw[wrap64 h.1 h.2]
theorem ib_mul {a b v:Int} (h:I64 (a * b)) (hv:v=a * b):intBin .mul .i64 a b=some (int v):=by subst hv;simp only[intBin];rw[wrap64 h.1 h.2]
theorem ib_rem {a b v:Int} (h0:b ≠ 0) (hv:v=a.tmod b):intBin .rem .i64 a b=some (int v):=by subst hv;simp only[intBin,if_neg h0]
section
variable {k:IntKind} {a b:Int} {c:Bool}
theorem ib_lss (hc:c=decide (a<b)):intBin .lss k a b=some (bool c):=by subst hc;rfl
theorem ib_leq (hc:c=decide (a≤b)):intBin .leq k a b=some (bool c):=by subst hc;rfl
theorem ib_gtr (hc:c=decide (b<a)):intBin .gtr k a b=some (bool c):=by subst hc;rfl
theorem ib_geq (hc:c=decide (b≤a)):intBin .geq k a b=some (bool c):=by subst hc;rfl
theorem ib_eql (hc:c=decide (a=b)):intBin .eql k a b=some (bool c):=by subst hc;simp only[intBin];congr 3
theorem ib_neq (hc:c=decide (a ≠ b)):intBin .neq k a b=some (bool c):=by
 subst hc
 simp only[intBin,bne]
 by_cases h:a=b<;>simp[h]
end
theorem ub_neg {a v:Int} (h:I64 (-a)) (hv:v = -a):unF .neg (int a)=some (int v):=by
 subst hv
 simp only[unF]
 rw[show (0:Int) - a = -a by omega,wrap64 h.1 h.2]
theorem cv_64 {Ty:Types} {s t:TypeId} {i:TI} {k:IntKind} {a:Int} (hs:Ty s=some i) (ht:kd Ty t = .int .i64) (h:I64 a):convF Ty s t (.v (.int k a))=some (int a):=by
 simp only[convF,hs,ht,wrap64 h.1 h.2]
section
variable {a b:Str} {c:Bool}
theorem sb_add {v:Str} (h:a.length+b.length<4611686018427387904) (hv:v=a++b):strBin .add ⟨a.toArray⟩ ⟨b.toArray⟩=some (str v):=by
 subst hv
 have h2:(ByteArray.mk a.toArray).size+(ByteArray.mk b.toArray).size<4611686018427387904:=by
  show a.toArray.size+b.toArray.size<_
  simpa using h
 simp only[strBin,if_pos h2]
 simp
end
section
variable {α:Type} [Inhabited α] {Ty:Types} {H:Heap} {t:TypeId} {j:TI} {fr:Bool} {l:List α} {f:α→List AVal} {k:IntKind} {i:Int} {x:α}
theorem at_get (hb:0≤i∧i<l.length) (hx:x=at' l i):∃ h:i.toNat<l.length,l[i.toNat]=x:=by
 have h:i.toNat<l.length:=by omega
 exact⟨h,by rw[hx,at'];simp[h]⟩
theorem ix_list (hk:kd Ty t = .slice j) (hf:∀ x,(f x).length=j.size) (hb:0≤i∧i<l.length) (hx:x=at' l i):indexAddrF Ty H t (.list fr (l.map f)) (.v (.int k i))=some (.iptr fr (f x)):=by
 obtain⟨h,hg⟩:=at_get hb hx
 have h2:(l.map f).getD i.toNat []=f x:=by
  simp[h,hg]
 simp only[indexAddrF,hk,h2,List.length_map]
 rw[if_pos ⟨hb.1,hb.2,hf x⟩]
theorem ix_arr {id:Id} {g off len sz:Nat} {els:List (List AVal)} (hk:kd Ty t = .slice j) (hH:H id=some ⟨sz,els⟩) (hg:els.length=g) (hs:sz=j.size) (hb:0≤i∧i<len) :
  indexAddrF Ty H t (.arr id g off len) (.v (.int k i))=some (.ptr id g (off+i.toNat) 0):=by
 simp only[indexAddrF,hk,live,hH]
 rw[if_pos hg]
 simp only
 rw[if_pos ⟨hb.1,hb.2,hs⟩]
theorem len_list (hk:kd Ty t = .slice j) {v:Int} (hv:v=(l.length:Int)):lenF Ty H t (.list fr (l.map f))=some (int v):=by
 simp only[lenF,hk,List.length_map,hv]
end
inductive RetL (H:Heap):List AVal→List AVal→Prop
 | nil:RetL H [] []
 | cons {a b:AVal} {as1 bs:List AVal} (h:Ret H a b) (t:RetL H as1 bs):RetL H (a::as1) (b::bs)
theorem RetL.get {H:Heap} {as1 bs:List AVal} (h:RetL H as1 bs):as1.length=bs.length∧∀ (i:Nat) (a b:AVal),as1[i]?=some a→bs[i]?=some b→Ret H a b:=by
 induction h with
 | nil=>exact⟨rfl,by simp⟩
 | cons h _ ih=>
  refine⟨by simp[ih.1],fun i a b ha hb=>?_⟩
  cases i with
  | zero=>simp at ha hb;rw[← ha,← hb];exact h
  | succ i=>exact ih.2 i a b (by simpa using ha) (by simpa using hb)
theorem Ret.tupL {H:Heap} {cs ds:List AVal} (h:RetL H cs ds):Ret H (.tup cs) (.tup ds):=.tup h.get.1 h.get.2
theorem Ret.aggL {H:Heap} {cs ds:List AVal} (h:RetL H cs ds):Ret H (.agg cs) (.agg ds):=.agg h.get.1 h.get.2
section
variable {P:Program} {f:FuncId} {N:Nat} {k:List Item} {ρ:Env} {H:Heap} {n:Nat} {Q:AVal→Heap→Nat→Prop} {Ty:Types} {fn:Func}
theorem RetOk.mix1 (hT:TypesOk P Ty) {r1:ResultVar} {v1:AVal} (h:fn.results=#[r1]) (h1:resA Ty H ρ r1=some v1):RetOk P N fn ρ H n v1:=by
 cases r1 with
 | tmp t=>cases h1;exact RetOk.one h
 | cell t ty=>
  simp only[resA] at h1
  split at h1
  ·rename_i i cs hi hv
   exact RetOk.cell hT h hi hv h1
  ·cases h1
theorem Runs.res1 (hT:TypesOk P Ty) {r1:ResultVar} {v:AVal} (hfn:P.funcs[f]?=some fn) (hr:fn.results=#[r1]) (h1:resA Ty H ρ r1=some v) (hq:Q v H n):Runs P f N (.code .ret::k) ρ H n Q:=Runs.ret hfn (RetOk.mix1 hT hr h1) hq
end
theorem sl_list {α:Type} {Ty:Types} {H:Heap} {t:TypeId} {j:TI} {fr:Bool} {l v:List α} {f:α→List AVal} {lo hi:Option AVal} {a b:Int} (hlo:boundOf lo 0=some a) (hhi:boundOf hi l.length=some b) (hk:kd Ty t = .slice j) (hf:∀ x,(f x).length=j.size)
  (hb:0≤a∧a≤b∧b≤l.length) (hv:v=(l.take b.toNat).drop a.toNat):sliceF Ty H t (.list fr (l.map f)) lo hi=some (.list fr (v.map f)):=by
 subst hv
 simp only[sliceF,hk,hlo,List.length_map,hhi]
 rw[if_pos ⟨hb.1,hb.2.1,hb.2.2,by simp[hf]⟩]
 simp[List.map_drop,List.map_take]
theorem sl_str {Ty:Types} {H:Heap} {t:TypeId} {s v:Str} {lo hi:Option AVal} {a b:Int} (hlo:boundOf lo 0=some a) (hhi:boundOf hi s.length=some b) (hk:kd Ty t = .string)
  (hb:0≤a∧a≤b∧b≤s.length) (hv:v=(s.take b.toNat).drop a.toNat):sliceF Ty H t (str s) lo hi=some (str v):=by
 subst hv
 have hz:(ByteArray.mk s.toArray).size=s.length:=by show s.toArray.size=_;simp
 simp only[sliceF,hk,hlo,hz,hhi]
 rw[if_pos ⟨hb.1,hb.2.1,by omega⟩]
 simp[List.drop_take]
theorem bb_neq {a b c:Bool} (hc:c = !(a == b)):boolBin .neq a b=some (bool c):=by subst hc;rfl
theorem ub_not' (b:Bool):unF .not (bool b)=some (bool (!b)):=rfl
end Go.Ab
namespace Go.Ab
set_option linter.unusedSectionVars false
variable [Inhabited Tabs]
end Go.Ab
/- The abstract machine, part Te: own arrays that are not turned any more become lists. -/
namespace Go.Ab
set_option linter.unusedSectionVars false
variable [Inhabited Tabs]
def fz (K:Id→Bool) (H:Heap):AVal→AVal
 | .agg cs=>.agg (fzL K H cs)
 | .tup cs=>.tup (fzL K H cs)
 | .list fr els=>.list fr (fzLL K H els)
 | .arr id g off len=>if K id then (match H id with | some o=>if o.els.length=g then .list true ((o.els.drop off).take len) else .undef | none=>.undef) else .arr id g off len
 | .ptr id g idx off=>if K id then .undef else .ptr id g idx off
 | .iptr fr cs=>.iptr fr (fzL K H cs)
 | .fn f a b=>.fn f (fzL K H a) (fzL K H b)
 | .iface t x=>.iface t (fz K H x)
 | x=>x
 where
 fzL (K:Id→Bool) (H:Heap):List AVal→List AVal
  | []=>[]
  | a::l=>fz K H a::fzL K H l
 fzLL (K:Id→Bool) (H:Heap):List (List AVal)→List (List AVal)
  | []=>[]
  | e::l=>fzL K H e::fzLL K H l
section
variable {K:Id→Bool} {H:Heap}
end
section
variable {c:Ctx} {K:Id→Bool}
end
end Go.Ab
