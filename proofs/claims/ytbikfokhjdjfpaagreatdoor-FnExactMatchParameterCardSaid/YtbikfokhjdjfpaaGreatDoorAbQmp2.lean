/- Merged texts (2 of 17) of the proof that ends in Mpy: K L M N T Tb Tc Td Tf Vc Te. -/
import Derived.Test.YtbikfokhjdjfpaaGreatDoorAbQmp1
import Derived.Still
import Derived.Orders
import Derived.Laws.Strings
/- The abstract machine, part K: values handed over and handed back; loops; names for plain values. -/
namespace Go.Ab
abbrev Str:=List UInt8
abbrev int (n:Int):ag:=.v (.int .i64 n)
abbrev bool (b:Bool):ag:=.v (.bool b)
abbrev str (s:Str):ag:=.v (.string ⟨s.toArray⟩)
def old:ag→ag
 | .agg cs=>.agg (oldL cs)
 | .tup cs=>.tup (oldL cs)
 | .list _ els=>.list false (oldLL els)
 | .iface t x=>.iface t (old x)
 | x=>x
 where
 oldL:List ag→List ag
  | []=>[]
  | a::l=>old a::oldL l
 oldLL:List (List ag)→List (List ag)
  | []=>[]
  | e::l=>oldL e::oldLL l
theorem va (l:List ag):old.oldL l=l.map old:=by
 induction l with
 | nil=>rfl
 | cons a l ih=>simp[old.oldL,ih]
theorem El (l:List (List ag)):old.oldLL l=l.map (fun e=>e.map old):=by
 induction l with
 | nil=>rfl
 | cons a l ih=>simp[old.oldLL,ih,va]
theorem FM (x:Value):old (.v x) = .v x:=rfl
theorem qH (cs:List ag):old (.agg cs) = .agg (cs.map old):=by simp[old,va]
theorem gf (fr:Bool) (els:List (List ag)):old (.list fr els) = .list false (els.map (fun e=>e.map old)):=by simp[old,El]
inductive Imm:ag→Prop
 | v (x:Value):Imm (.v x)
 | agg (cs:List ag) (h:∀ a ∈ cs,Imm a):Imm (.agg cs)
 | tup (cs:List ag) (h:∀ a ∈ cs,Imm a):Imm (.tup cs)
 | list (fr:Bool) (els:List (List ag)) (h:∀ e ∈ els,∀ a ∈ e,Imm a):Imm (.list fr els)
 | iface (t:TypeId) (a:ag) (h:Imm a):Imm (.iface t a)
theorem cG {α β:Type} {f:α→β} {l:List α} {i:Nat} {b:β} (h:(l.map f)[i]?=some b):∃ a,l[i]?=some a∧b=f a:=by
 rw[List.getElem?_map] at h
 cases ha:l[i]? with
 | none=>simp[ha] at h
 | some a=>simp only[ha,Option.map_some,Option.some.injEq] at h;exact⟨a,rfl,h.symm⟩
theorem A5 {c:Ctx} (h:∀ id,c.H id=none) (k:Nat):¬ c.mu k:=by
 rintro⟨id,o,ho,_⟩
 rw[h] at ho
 cases ho
theorem Rep.old {c c':Ctx} (hw:c'.w=c.w) (hH:∀ id,c'.H id=none) {a:ag} {x:Value} (r:Rep c a x) (hi:Imm a):Rep c' (old a) x:=by
 induction r with
 | undef=>cases hi
 | v x=>exact .v x
 | agg cs vs hl _ ih=>
  cases hi with
  | agg _ hi=>
  rw[qH]
  refine .agg _ vs (by simpa using hl) fun i a x ha hx=>?_
  obtain⟨b,hb,rfl⟩:=cG ha
  exact ih i b x hb hx (hi b (List.mem_of_getElem? hb))
 | tup cs vs hl _ ih=>
  cases hi with
  | tup _ hi=>
  simp only[Ab.old,va]
  refine .tup _ vs (by simpa using hl) fun i a x ha hx=>?_
  obtain⟨b,hb,rfl⟩:=cG ha
  exact ih i b x hb hx (hi b (List.mem_of_getElem? hb))
 | lnil fr=>exact .lnil false
 | list fr els a cap sz cell hs hcap hm hsz hc _ ih=>
  cases hi with
  | list _ _ hi=>
  rw[gf]
  have:=Rep.list (c:=c') false (els.map fun e=>e.map Ab.old) a cap sz cell (fun hne=>hs (by intro h0;subst h0;simp at hne)) (by simpa using hcap) (fun hne=>?_) (fun i e he=>?_) (fun i e j x he hx=>?_) (fun i e j x he hx=>?_)
  ·simpa using this
  ·obtain⟨_,h2,_⟩:=hm (by intro h0;simp[h0] at hne)
   exact⟨A5 hH _,by rw[hw];exact h2,fun h=>by cases h⟩
  ·obtain⟨b,hb,rfl⟩:=cG he
   rw[List.length_map];exact hsz i b hb
  ·obtain⟨b,hb,rfl⟩:=cG he
   obtain⟨y,hy,rfl⟩:=cG hx
   rw[hw]
   exact hc i b j y hb hy
  ·obtain⟨b,hb,rfl⟩:=cG he
   obtain⟨y,hy,rfl⟩:=cG hx
   exact ih i b j y hb hy (hi b (List.mem_of_getElem? hb) y (List.mem_of_getElem? hy))
 | arr=>cases hi
 | ptr=>cases hi
 | iptr=>cases hi
 | fn=>cases hi
 | iface t a x _ ih=>
  cases hi with
  | iface _ _ hi=>exact .iface t _ x (ih hi)
 | clip=>cases hi
theorem aF.imm {H:ak} {n:Nat} {a:ag} (hi:Imm a):aF H n a (old a):=fun _ _ _ _ _ r _ hw hH=>r.old hw hH hi
theorem aF.v (H:ak) (n:Nat) (x:Value):aF H n (.v x) (.v x):=fun _ y _ _ _ r _ _ _=>by rw[r.bS];exact .v x
theorem aF.vg {H:ak} {n:Nat} {a b:ag} (hi:Imm a) (h:old a=b):aF H n a b:=h ▸ aF.imm hi
inductive Ret (H:ak):ag→ag→Prop
 | v (x:Value):Ret H (.v x) (.v x)
 | agg {cs ds:List ag} (hl:cs.length=ds.length) (h:∀ (i:Nat) (a b:ag),cs[i]?=some a→ds[i]?=some b→Ret H a b):Ret H (.agg cs) (.agg ds)
 | tup {cs ds:List ag} (hl:cs.length=ds.length) (h:∀ (i:Nat) (a b:ag),cs[i]?=some a→ds[i]?=some b→Ret H a b):Ret H (.tup cs) (.tup ds)
 | list {els fls:List (List ag)} (hl:els.length=fls.length) (hl':∀ (i:Nat) (e f:List ag),els[i]?=some e→fls[i]?=some f→e.length=f.length)
   (h:∀ (i:Nat) (e f:List ag) (j:Nat) (a b:ag),els[i]?=some e→fls[i]?=some f→e[j]?=some a→f[j]?=some b→Ret H a b):Ret H (.list true els) (.list true fls)
 | nil (fr:Bool):Ret H (.v (.slice none 0 0)) (.list fr [])
 | arr {id:Id} {g off len:Nat} {o:Ob} {fls:List (List ag)} (hlv:live H id g=some o) (hl:((o.els.drop off).take len).length=fls.length)
   (hl':∀ (i:Nat) (e f:List ag),((o.els.drop off).take len)[i]?=some e→fls[i]?=some f→e.length=f.length)
   (h:∀ (i:Nat) (e f:List ag) (j:Nat) (a b:ag),((o.els.drop off).take len)[i]?=some e→fls[i]?=some f→e[j]?=some a→f[j]?=some b→Ret H a b):Ret H (.arr id g off len) (.list true fls)
theorem aY {α:Type} {l:List α} {i:Nat} (h:i<l.length):∃ a,l[i]?=some a:=⟨l[i],List.getElem?_eq_getElem h⟩
theorem Rep.ret {c c':Ctx} (g:Good c) (hw:c'.w=c.w) (hmu:∀ k,c'.mu k→k<c.B) (hB:c'.B≤c.B) {a b:ag} (r:Ret c.H a b):∀ {x:Value},Rep c a x→Rep c' b x:=by
 induction r with
 | v x=>intro y h;rw[h.bS];exact .v x
 | agg hl _ ih=>
  intro x hx
  cases hx with
  | agg _ vs hl' hr=>
  refine .agg _ vs (by omega) fun i b x hb hx=>?_
  have hi:=(List.getElem?_eq_some_iff.1 hb).1
  obtain⟨a,ha⟩:=aY (l:=_) (i:=i) (by rw[hl];exact hi)
  exact ih i a b ha hb (hr i a x ha hx)
 | tup hl _ ih=>
  intro x hx
  cases hx with
  | tup _ vs hl' hr=>
  refine .tup _ vs (by omega) fun i b x hb hx=>?_
  have hi:=(List.getElem?_eq_some_iff.1 hb).1
  obtain⟨a,ha⟩:=aY (l:=_) (i:=i) (by rw[hl];exact hi)
  exact ih i a b ha hb (hr i a x ha hx)
 | nil fr=>intro x hx;rw[hx.bS];exact .lnil fr
 | @list els fls hl hl' _ ih=>
  intro x hx
  cases hx with
  | lnil=>
   have:fls=[]:=List.eq_nil_of_length_eq_zero (by simpa using hl.symm)
   subst this
   exact .lnil true
  | list _ _ a cap sz cell hs hcap hm hsz hc hr=>
   have:=Rep.list (c:=c') true fls a cap sz cell (fun hne=>hs (by intro h0;subst h0;exact hne (List.eq_nil_of_length_eq_zero (by simpa using hl.symm)))) (by omega) (fun hne=>?_) (fun i f hf=>?_) (fun i f j y hf hy=>?_) (fun i f j y hf hy=>?_)
   ·rw[← hl] at this;exact this
   ·have hne':els ≠ []:=by intro h0;subst h0;exact hne (List.eq_nil_of_length_eq_zero (by simpa using hl.symm))
    obtain⟨h1,h2,h3⟩:=hm hne'
    refine⟨fun hmk=>?_,by rw[hw];exact h2,fun _=>Nat.le_trans hB (h3 rfl)⟩
    have:=hmu _ hmk
    have:=h3 rfl
    omega
   ·have hi:=(List.getElem?_eq_some_iff.1 hf).1
    obtain⟨e,he⟩:=aY (l:=els) (i:=i) (by omega)
    rw[← hl' i e f he hf]
    exact hsz i e he
   ·have hi:=(List.getElem?_eq_some_iff.1 hf).1
    obtain⟨e,he⟩:=aY (l:=els) (i:=i) (by omega)
    have hj:=(List.getElem?_eq_some_iff.1 hy).1
    obtain⟨z,hz⟩:=aY (l:=e) (i:=j) (by rw[hl' i e f he hf];exact hj)
    rw[hw]
    exact hc i e j z he hz
   ·have hi:=(List.getElem?_eq_some_iff.1 hf).1
    obtain⟨e,he⟩:=aY (l:=els) (i:=i) (by omega)
    have hj:=(List.getElem?_eq_some_iff.1 hy).1
    obtain⟨z,hz⟩:=aY (l:=e) (i:=j) (by rw[hl' i e f he hf];exact hj)
    exact ih i e f j z y he hf hz hy (hr i e j z he hz)
 | @arr id gg off len o fls hlv hl hl' _ ih=>
  intro x hx
  obtain⟨l1,l2⟩:=dK hlv
  cases hx with
  | arr _ _ _ _ _ hone hn hg hp=>
  obtain⟨p1,⟨b,aoff,sp⟩,cap,rfl,hab,hsp,hlc,hoff,hcl⟩:=hp o l1 l2
  simp only at hab hsp hoff
  subst hab hsp
  obtain⟨hBo,cl,el,hcell,hfit,hel⟩:=g.obj id o l1
  have hlen:((o.els.drop off).take len).length=len:=by simp;omega
  have hget:∀ (i:Nat) (e:List ag),((o.els.drop off).take len)[i]?=some e→i<len∧o.els[off+i]?=some e:=by
   intro i e he
   rw[List.getElem?_take] at he
   split at he
   ·rename_i hi
    rw[List.getElem?_drop] at he
    exact⟨hi,he⟩
   ·cases he
  have key:∀ (i:Nat) (f:List ag) (j:Nat) (y:ag),fls[i]?=some f→f[j]?=some y→∃ e z u,((o.els.drop off).take len)[i]?=some e∧e[j]?=some z∧cl[(off+i) * o.size+j]?=some u∧Rep c z u∧aoff=off * o.size:=by
   intro i f j y hf hy
   have hi:=(List.getElem?_eq_some_iff.1 hf).1
   obtain⟨e,he⟩:=aY (l:=(o.els.drop off).take len) (i:=i) (by omega)
   have hj:=(List.getElem?_eq_some_iff.1 hy).1
   obtain⟨z,hz⟩:=aY (l:=e) (i:=j) (by rw[hl' i e f he hf];exact hj)
   obtain⟨hi2,he0⟩:=hget i e he
   obtain⟨u,hu,hr⟩:=(hel _ _ he0).2 j z hz
   refine⟨e,z,u,he,hz,hu,hr,?_⟩
   rcases hoff with h | h
   ·exact h
   ·omega
  have:=Rep.list (c:=c') true fls ⟨c.β id,aoff,none⟩ cap o.size (fun i j=>cl.getD ((off+i) * o.size+j) Go.undef) (fun _=>rfl) (by omega) (fun hne=>?_) (fun i f hf=>?_) (fun i f j y hf hy=>?_) (fun i f j y hf hy=>?_)
  ·rw[← hl,hlen] at this;exact this
  ·refine⟨fun hmk=>?_,by rw[hw];exact g.lt l1,fun _=>Nat.le_trans hB hBo⟩
   have:=hmu _ hmk
   simp only at this
   omega
  ·have hi:=(List.getElem?_eq_some_iff.1 hf).1
   obtain⟨e,he⟩:=aY (l:=(o.els.drop off).take len) (i:=i) (by omega)
   rw[← hl' i e f he hf]
   exact (hel _ _ (hget i e he).2).1
  ·obtain⟨e,z,u,he,hz,hu,hr,hao⟩:=key i f j y hf hy
   rw[hw,hao,← Nat.add_assoc,← Nat.add_mul]
   simp[World.cell?,hcell,hu,Array.getD_eq_getD_getElem?]
  ·obtain⟨e,z,u,he,hz,hu,hr,hao⟩:=key i f j y hf hy
   rw[Array.getD_eq_getD_getElem?,hu]
   exact ih i e f j z y he hf hz hy hr
theorem oD.of {H:ak} {n:Nat} {a b:ag} (r:Ret H a b):oD H n a b:=by
 intro c x hH _ g hx c' hw hmu hB
 subst hH
 exact Rep.ret g hw hmu hB r hx
theorem oD.v (H:ak) (n:Nat) (x:Value):oD H n (.v x) (.v x):=.of (.v x)
inductive bJ:ag→Prop
 | v (x:Value):bJ (.v x)
 | agg (cs:List ag) (h:∀ a ∈ cs,bJ a):bJ (.agg cs)
 | tup (cs:List ag) (h:∀ a ∈ cs,bJ a):bJ (.tup cs)
 | list (els:List (List ag)) (h:∀ e ∈ els,∀ a ∈ e,bJ a):bJ (.list true els)
@[simp] theorem HU (x : Value) : bJ (.v x) := .v x
@[simp] theorem Gm (els : List (List ag)) : bJ (.list true els) ↔ ∀ e ∈ els, ∀ a ∈ e, bJ a := ⟨fun h => by cases h with | list _ h => exact h, .list els⟩
theorem Ret.fresh {H:ak} {a:ag} (h:bJ a):Ret H a a:=by
 induction h with
 | v x=>exact .v x
 | agg cs _ ih=>exact .agg rfl fun i a b ha hb=>by rw[ha] at hb;cases hb;exact ih a (List.mem_of_getElem? ha)
 | tup cs _ ih=>exact .tup rfl fun i a b ha hb=>by rw[ha] at hb;cases hb;exact ih a (List.mem_of_getElem? ha)
 | list els _ ih=>exact .list rfl (fun i e f he hf=>by rw[he] at hf;cases hf;rfl) fun i e f j a b he hf ha hb=>by rw[he] at hf;cases hf;rw[ha] at hb;cases hb;exact ih e (List.mem_of_getElem? he) a (List.mem_of_getElem? ha)
theorem Ret.zS {H:ak} {id:Id} {g sz:Nat} {els:List (List ag)} (hl:live H id g=some ⟨sz,els⟩) (h:∀ e ∈ els,∀ a ∈ e,bJ a):Ret H (.arr id g 0 g) (.list true els):=by
 obtain⟨l1,l2⟩:=dK hl
 simp only at l2
 have e1:((Ob.mk sz els).els.drop 0).take g=els:=by simp[← l2]
 refine .arr hl (by rw[e1]) (fun i e f he hf=>?_) fun i e f j a b he hf ha hb=>?_
 ·rw[e1,hf] at he;cases he;rfl
 ·rw[e1,hf] at he;cases he;rw[ha] at hb;cases hb;exact Ret.fresh (h e (List.mem_of_getElem? hf) a (List.mem_of_getElem? ha))
def flat:ag→Bool
 | .v _=>true
 | _=>false
theorem bJ.flat {a:ag} (h:Ab.flat a=true):bJ a:=by
 cases a<;>simp[Ab.flat] at h
 exact .v _
theorem Imm.flat {a:ag} (h:Ab.flat a=true):Imm a:=by
 cases a<;>simp[Ab.flat] at h
 exact .v _
section
variable {P:Program} {N:Nat} {fn:Func} {ρ:Env} {H:ak} {n:Nat}
theorem aK.one {t:Tmp} (h:fn.results=#[.tmp t]):aK P N fn ρ H n (ρ t):=fun c a _ _ _ r=>⟨a.tmps.getD t undef,results_tmp h a.tmps P c.w,r.rep t⟩
theorem aK.two {t u:Tmp} (h:fn.results=#[.tmp t,.tmp u]):aK P N fn ρ H n (.tup [ρ t,ρ u]):=fun c a _ _ _ r=>
 ⟨.tuple [a.tmps.getD t undef,a.tmps.getD u undef].toArray,by simp[results,h],.tup _ _ rfl fun i b x hb hx=>by
  match i with
  | 0=>simp at hb hx;rw[← hb,← hx];simpa using r.rep t
  | 1=>simp at hb hx;rw[← hb,← hx];simpa using r.rep u
  | i+2=>simp at hb⟩
theorem aK.three {t u v:Tmp} (h:fn.results=#[.tmp t,.tmp u,.tmp v]):aK P N fn ρ H n (.tup [ρ t,ρ u,ρ v]):=fun c a _ _ _ r=>
 ⟨.tuple [a.tmps.getD t undef,a.tmps.getD u undef,a.tmps.getD v undef].toArray,by simp[results,h],.tup _ _ rfl fun i b x hb hx=>by
  match i with
  | 0=>simp at hb hx;rw[← hb,← hx];simpa using r.rep t
  | 1=>simp at hb hx;rw[← hb,← hx];simpa using r.rep u
  | 2=>simp at hb hx;rw[← hb,← hx];simpa using r.rep v
  | i+3=>simp at hb⟩
end
section
variable {P:Program} {f:FuncId} {N:Nat} {k:List Item} {ρ:Env} {H:ak} {n:Nat} {Q:ag→ak→Nat→Prop}
theorem aa.b6 {x:Code} (len:Nat) (I:Nat→Env→ak→Nat→Prop) (h0:I 0 ρ H n)
  (step:∀ i ρ H n,i≤len→I i ρ H n→(i<len→∀ ρ' H' n',I (i+1) ρ' H' n'→aa P f N (.inLoop x::k) ρ' H' n' Q)→aa P f N (.code x::.inLoop x::k) ρ H n Q) :
  aa P f N (.code (.loop x)::k) ρ H n Q:=by
 have key:∀ m i ρ H n,i+m=len→I i ρ H n→aa P f N (.code x::.inLoop x::k) ρ H n Q:=by
  intro m
  induction m with
  | zero=>intro i ρ H n hi hI;exact step i ρ H n (by omega) hI (fun h=>by omega)
  | succ m ih=>intro i ρ H n hi hI;exact step i ρ H n (by omega) hI (fun _ ρ' H' n' hI'=>aa.inLoop (ih (i+1) ρ' H' n' (by omega) hI'))
 exact aa.loop (key len 0 ρ H n (by omega) h0)
theorem aa.EM {x:Code} (I:Nat→Env→ak→Nat→Prop) (m:Nat) (h0:I m ρ H n)
  (step:∀ m ρ H n,I m ρ H n→(∀ m' ρ' H' n',m'<m→I m' ρ' H' n'→aa P f N (.inLoop x::k) ρ' H' n' Q)→aa P f N (.code x::.inLoop x::k) ρ H n Q) :
  aa P f N (.code (.loop x)::k) ρ H n Q:=by
 have key:∀ m ρ H n,I m ρ H n→aa P f N (.code x::.inLoop x::k) ρ H n Q:=by
  intro m
  induction m using Nat.strongRecOn with
  | _ m ih=>intro ρ H n hI;exact step m ρ H n hI (fun m' ρ' H' n' hm hI'=>aa.inLoop (ih m' hm ρ' H' n' hI'))
 exact aa.loop (key m ρ H n h0)
theorem aa.ite {t:Operand} {x y:Code} {b:Bool} (hb:ρ.ev t = .v (.bool b)) (hy:b=true→aa P f N (.code x::k) ρ H n Q) (hn:b=false→aa P f N (.code y::k) ρ H n Q):aa P f N (.code (.cond t x y)::k) ρ H n Q:=by
 cases b with
 | true=>exact aa.cond hb (hy rfl)
 | false=>exact aa.cond hb (hn rfl)
end
theorem wrap64 {x:Int} (h1 : -9223372036854775808≤x) (h2:x≤9223372036854775807):IntKind.i64.wrap x=x:=by
 simp only[IntKind.wrap,IntKind.bits,IntKind.signed]
 simp only[Bool.true_and]
 split<;>rename_i h<;>simp at h<;>omega
theorem aZ {k:Nat} (h:k<4611686018427387904):IntKind.i64.wrap ((k:Int)+1)=((k+1:Nat):Int):=by
 rw[wrap64 (by omega) (by omega)];omega
section
variable {P:Program} {f:FuncId} {N:Nat} {k:List Item} {ρ:Env} {H:ak} {n:Nat} {Q:ag→ak→Nat→Prop} {Ty:Types}
theorem aa.au (hT:aU P Ty) {id:Nat} {ops:List Oper} {y:Code} (hN:ops.all (fun o=>dok N o.dst)=true)
  (h:∀ k':List Item,(∀ ρ H n,aa P f N (.code y::k) ρ H n Q→aa P f N k' ρ H n Q)→ct P f N k' Q Ty ops.toArray ops ρ H n):aa P f N (.code (.seq (.region id ops.toArray false) y)::k) ρ H n Q:=
 aa.seq (aa.eval hT hN (h (.code y::k) fun _ _ _ h=>h))
theorem aa.cg (hT:aU P Ty) {id:Nat} {ops:List Oper} (hN:ops.all (fun o=>dok N o.dst)=true)
  (h:∀ k':List Item,(∀ ρ H n,aa P f N k ρ H n Q→aa P f N k' ρ H n Q)→ct P f N k' Q Ty ops.toArray ops ρ H n):aa P f N (.code (.region id ops.toArray false)::k) ρ H n Q:=
 aa.eval hT hN (h k fun _ _ _ h=>h)
end
def H6 (R:ag→Prop) (Q:ag→ak→Nat→Prop):Prop:=∀ v H n r,oD H n v r→R r→Q v H n
theorem aq.of {P:Program} {f:FuncId} {fn:Func} {body:Code} {args:List ag} {R:ag→Prop} {N:Nat} (hfn:P.funcs[f]?=some fn) (hb:fn.body=some body) (hn:fn.ntmps=N) (hN:args.length≤N)
  (h:∀ Q,H6 R Q→aa P f N [.code body] (iI args) bc 0 Q):aq P f args R:=by
 subst hn
 exact aq.o3 hfn hb hN (h _ fun v H n r h1 h2=>⟨r,h1,h2⟩)
attribute [simp] ak.set_set wX a6 guardOf Env.Fm Env.DY Env.ev uS iI ak.aP cR live lL uo gE dj ar ay one uF chunks ai et DS dC unF AH aH ah vu ch dB bG kK Ob.write dE ba AZ
end Go.Ab
/- The abstract machine, part L: a region that bU its order: one evaluation in the text's order serves every order. -/
namespace Go.Ab
def tmpsOf (op:Op):List Tmp:=op.operands.toList.filterMap fun | .tmp t=>some t | _=>none
def loc (op:Op) (ρ:Env):Env:=fun t=>if (tmpsOf op).contains t then ρ t else .undef
theorem fu {op:Op} {ρ:Env} {x:Operand} (h:x ∈ op.operands):(loc op ρ).ev x=ρ.ev x:=by
 cases x with
 | tmp t=>
  have:t ∈ tmpsOf op:=List.mem_filterMap.2 ⟨.tmp t,by simpa using h,rfl⟩
  simp[Env.ev,loc,this]
 | _=>rfl
theorem iY {op:Op} {ρ:Env} {d:Option Tmp} {v:ag} (h:∀ t,d=some t→t ∉ tmpsOf op):loc op (ρ.put d v)=loc op ρ:=by
 cases d with
 | none=>rfl
 | some d=>
  funext t
  simp only[loc,Env.put]
  split
  ·rename_i ht
   rw[if_neg]
   intro he
   subst he
   exact h t rfl (by simpa using ht)
  ·rfl
theorem cX.loc {N:Nat} {c:Ctx} {ρ:Env} {a:Act} (op:Op) (r:cX N c ρ a):cX N c (loc op ρ) a:=by
 refine⟨r.defers,r.size,fun t=>?_⟩
 simp only[Ab.loc]
 split
 ·exact r.rep t
 ·exact .undef _
theorem put_comm {ρ:Env} {x y:Option Nat} (v u:ag) (h:∀ d,x=some d→y ≠ some d):(ρ.put x v).put y u=(ρ.put y u).put x v:=by
 cases x with
 | none=>rfl
 | some d=>
  cases y with
  | none=>rfl
  | some e=>
   have hne:d ≠ e:=fun he=>h d rfl (he ▸ rfl)
   funext t
   simp only[Env.put]
   by_cases h1:t=e<;>by_cases h2:t=d<;>simp_all
def fk:Op→Nat
 | .move _ | .assign _ | .pick .. | .binOp .. | .unOp .. | .convert .. | .makeFunc .. | .extract .. | .field .. | .index .. | .build ..=>0
 | .load .. | .fieldAddr .. | .indexAddr .. | .slice .. | .nilCheck _ | .call ⟨.builtin .len,_,_⟩ | .call ⟨.value _,_,_⟩=>1
 | .buildSlice _ len _=>if len=0 then 2 else 0
 | _=>2
abbrev AS:=Env × ak × Nat
def gok (ops:Array Oper) (o:Oper) (ρ:Env):Option Bool:=
 match o.guard with
 | none=>some true
 | some (j,w)=>match guardOf ops ρ j with
  | .v (.bool b)=>some (b == w)
  | .v (.tuple _)=>some false
  | _=>none
def isV (v:ag) (H:ak) (n:Nat):ag→ak→Nat→Prop:=fun v1 H1 n1=>v1=v∧H1=H∧n1=n
section
variable (P:Program) (N:Nat) (ops:Array Oper) (κ:Op→Nat)
def j7 (o:Oper) (s s':AS):Prop:=
 (gok ops o s.1=some true∧∃ v,s'.1=s.1.put o.dst v∧(κ o.op=0→s'.2=s.2∧∀ H n,aN P N o (loc o.op s.1) H n (isV v H n))∧(κ o.op=1→s'.2=s.2)∧aN P N o (loc o.op s.1) s.2.1 s.2.2 (isV v s'.2.1 s'.2.2)) ∨
 (gok ops o s.1=some false∧s'=(s.1.put o.dst skv,s.2))
def o5 (R:AS→Prop):Nat→Array Bool→AS→Prop
 | 0,listed,s=>Region.ready .any ops listed=[]∧R s
 | fuel+1,listed,s=>(Region.ready .any ops listed=[]→R s)∧∀ i ∈ Region.ready .any ops listed,∃ o s',ops[i]?=some o∧j7 P N ops κ o s s'∧o5 R fuel (listed.setIfInBounds i true) s'
def E9 (R:AS→Prop):List Oper→AS→Prop
 | [],s=>R s
 | o::l,s=>∃ s',j7 P N ops κ o s s'∧E9 R l s'
end
def rf (a b:Nat):Bool:=a == 0 || b == 0 || (a == 1 && b == 1)
section
variable {P:Program} {N:Nat} {ops:Array Oper} {κ:Op→Nat}
theorem mM {o:Oper} {ρ:Env} {d:Option Tmp} {v:ag} (h:∀ t,d=some t→t ∉ o.looksAt ops):gok ops o (ρ.put d v)=gok ops o ρ:=by
 unfold gok
 cases hg:o.guard with
 | none=>rfl
 | some gw=>
  obtain⟨j,w⟩:=gw
  have:guardOf ops (ρ.put d v) j=guardOf ops ρ j:=by
   unfold guardOf
   cases ht:(ops[j]?).bind (·.dst) with
   | none=>rfl
   | some t=>
    cases d with
    | none=>rfl
    | some d=>
     simp only[Env.put]
     rw[if_neg]
     intro he
     subst he
     exact h t rfl (by simp[Oper.looksAt,hg,ht])
  simp only[this]
theorem ea {o:Oper} {d:Option Tmp} (h:∀ t,d=some t→t ∉ o.looksAt ops):∀ t,d=some t→t ∉ tmpsOf o.op:=fun t ht hm=>by
 obtain⟨x,hx,he⟩:=List.mem_filterMap.1 hm
 cases x with
 | tmp t'=>cases he;exact h _ ht (List.mem_append_left _ (List.mem_filterMap.2 ⟨.tmp _,hx,rfl⟩))
 | _=>cases he
theorem j7.Fa {oi oj:Oper} (hap:oi.apart ops oj=true) (hc:rf (κ oi.op) (κ oj.op)=true) {s si sij:AS} (hi:j7 P N ops κ oi s si) (hj:j7 P N ops κ oj si sij):∃ sj,j7 P N ops κ oj s sj∧j7 P N ops κ oi sj sij:=by
 obtain⟨h1,h2,h3⟩:=Oper.apart_spec hap
 have lj:∀ v,loc oj.op (s.1.put oi.dst v)=loc oj.op s.1:=fun v=>iY (ea h1)
 have li:∀ v,loc oi.op (s.1.put oj.dst v)=loc oi.op s.1:=fun v=>iY (ea h3)
 have gj:∀ v,gok ops oj (s.1.put oi.dst v)=gok ops oj s.1:=fun v=>mM h1
 have gi:∀ v,gok ops oi (s.1.put oj.dst v)=gok ops oi s.1:=fun v=>mM h3
 have hcc:κ oi.op=0∨κ oj.op=0∨(κ oi.op=1∧κ oj.op=1):=by
  simp only[rf,Bool.or_eq_true,beq_iff_eq,Bool.and_eq_true] at hc
  rcases hc with (h | h) | h
  ·exact .inl h
  ·exact .inr (.inl h)
  ·exact .inr (.inr h)
 obtain⟨ρ,H,n⟩:=s
 obtain⟨ρi,Hi,ni⟩:=si
 obtain⟨ρj,Hj,nj⟩:=sij
 simp only at lj li gj gi
 rcases hi with ⟨hgi,v,hv,hk0,hk1,hop⟩ | ⟨hgi,hs⟩
 ·simp only at hgi hv hk0 hk1 hop
  subst hv
  rcases hj with ⟨hgj,u,hu,hl0,hl1,hoq⟩ | ⟨hgj,hs'⟩
  ·simp only at hgj hu hl0 hl1 hoq
   subst hu
   rw[gj] at hgj
   rw[lj] at hl0 hoq
   rcases hcc with h0 | h0 | ⟨h0,h0'⟩
   ·obtain⟨he,hall⟩:=hk0 h0
    cases he
    refine⟨(ρ.put oj.dst u,Hj,nj),.inl ⟨hgj,u,rfl,hl0,hl1,hoq⟩,.inl ⟨by simpa only [gi] using hgi,v,by rw[put_comm v u h2],fun _=>⟨rfl,by simpa only [li] using hall⟩,fun _=>rfl,?_⟩⟩
    simp only[li]
    exact hall Hj nj
   ·obtain⟨he,hall⟩:=hl0 h0
    cases he
    refine⟨(ρ.put oj.dst u,H,n),.inl ⟨hgj,u,rfl,fun _=>⟨rfl,hall⟩,fun _=>rfl,hall H n⟩,.inl ⟨by simpa only [gi] using hgi,v,by rw[put_comm v u h2],by simpa only [li] using hk0,hk1,?_⟩⟩
    simp only[li]
    exact hop
   ·have e1:=hk1 h0
    have e2:=hl1 h0'
    cases e1
    cases e2
    refine⟨(ρ.put oj.dst u,H,n),.inl ⟨hgj,u,rfl,hl0,hl1,hoq⟩,.inl ⟨by simpa only [gi] using hgi,v,by rw[put_comm v u h2],by simpa only [li] using hk0,hk1,?_⟩⟩
    simp only[li]
    exact hop
  ·simp only at hgj hs'
   cases hs'
   rw[gj] at hgj
   refine⟨(ρ.put oj.dst skv,H,n),.inr ⟨hgj,rfl⟩,.inl ⟨by simpa only [gi] using hgi,v,by rw[put_comm v skv h2],by simpa only [li] using hk0,hk1,?_⟩⟩
   simp only[li]
   exact hop
 ·simp only at hgi hs
  cases hs
  rcases hj with ⟨hgj,u,hu,hl0,hl1,hoq⟩ | ⟨hgj,hs'⟩
  ·simp only at hgj hu hl0 hl1 hoq
   subst hu
   rw[gj] at hgj
   rw[lj] at hl0 hoq
   exact⟨(ρ.put oj.dst u,Hj,nj),.inl ⟨hgj,u,rfl,hl0,hl1,hoq⟩,.inr ⟨by simpa only [gi] using hgi,by rw[put_comm skv u h2]⟩⟩
  ·simp only at hgj hs'
   cases hs'
   rw[gj] at hgj
   exact⟨(ρ.put oj.dst skv,H,n),.inr ⟨hgj,rfl⟩,.inr ⟨by simpa only [gi] using hgi,by rw[put_comm skv skv h2]⟩⟩
theorem o5.first {R:AS→Prop} {i:Nat} {oi:Oper} (hi:ops[i]?=some oi) (D:List Nat) (hD:∀ j oj,ops[j]?=some oj→j ∈ D→j ≠ i→∃ e ∈ oj.after,Region.binds .any e=true∧e.on ∈ D):∀ (fuel:Nat) (listed:Array Bool) (s s':AS),
  (∀ j ∈ D,listed.getD j true=false)→(∀ j oj,ops[j]?=some oj→j ≠ i→listed.getD j true=false→j ∉ D→oi.apart ops oj=true∧rf (κ oi.op) (κ oj.op)=true) →
  i ∈ Region.ready .any ops listed→j7 P N ops κ oi s s'→o5 P N ops κ R fuel (listed.setIfInBounds i true) s'→o5 P N ops κ R (fuel+1) listed s:=by
 intro fuel
 induction fuel with
 | zero=>
  intro listed s s' _ _ hr hst H
  refine⟨fun h=>(by rw[h] at hr;cases hr),fun j hj=>?_⟩
  by_cases hji:j=i
  ·subst hji;exact⟨oi,s',hi,hst,H⟩
  ·have:=ready_mono hj hji
   rw[H.1] at this
   cases this
 | succ fuel ih=>
  intro listed s s' hinv hfree hr hst H
  refine⟨fun h=>(by rw[h] at hr;cases hr),fun j hj=>?_⟩
  by_cases hji:j=i
  ·subst hji;exact⟨oi,s',hi,hst,H⟩
  ·obtain⟨oj,s'',hoj,hstj,hrest⟩:=H.2 j (ready_mono hj hji)
   obtain⟨hjun,oj',hoj',hall⟩:=mem_ready.1 hj
   rw[hoj] at hoj'
   cases hoj'
   have hnot:j ∉ D:=fun hd=>by
    obtain⟨e,he,hb,hed⟩:=hD j oj hoj hd hji
    have h1:=hall e he hb
    have h0:=hinv e.on hed
    rcases Nat.lt_or_ge e.on listed.size with h' | h'
    ·simp[h'] at h0 h1;rw[h0] at h1;cases h1
    ·simp[Array.getElem?_eq_none h'] at h1
   obtain⟨hap,hco⟩:=hfree j oj hoj hji hjun hnot
   obtain⟨sj,h1,h2⟩:=j7.Fa hap hco hst hstj
   refine⟨oj,sj,hoj,h1,ih (listed.setIfInBounds j true) sj s'' (fun k hk=>?_) (fun k ok hk hki hun hno=>?_) (ready_mono hr (Ne.symm hji)) h2 ?_⟩
   ·have hjk:j ≠ k:=fun he=>hnot (he ▸ hk)
    rw[getD_set_ne true hjk]
    exact hinv k hk
   ·refine hfree k ok hk hki ?_ hno
    by_cases hjk:j=k
    ·subst hjk;exact hjun
    ·rw[getD_set_ne true hjk] at hun;exact hun
   ·rw[Array.setIfInBounds_comm _ _ hji]
    exact hrest
def behind (ops:Array Oper) (i:Nat):List Nat:=
 (List.range ops.size).foldl (fun D j=>match ops[j]? with
  | some oj=>if oj.after.any (fun e=>Region.binds .any e && D.contains e.on) then j::D else D
  | none=>D) [i]
def A6 (κ:Op→Nat) (ops:Array Oper) (listed:Array Bool) (i:Nat):Bool:=
 match ops[i]? with
 | none=>false
 | some oi=>((behind ops i).all fun j => !(listed.getD j true) && match ops[j]? with
   | none=>true
   | some oj=>j == i || oj.after.any (fun e=>Region.binds .any e && (behind ops i).contains e.on)) &&
  (List.range ops.size).all fun j=>match ops[j]? with
  | none=>true
  | some oj=>j == i || listed.getD j true || (behind ops i).contains j || (oi.apart ops oj && rf (κ oi.op) (κ oj.op))
def DL (κ:Op→Nat) (ops:Array Oper):Nat→Nat→Array Bool→Bool
 | 0,_,listed=>(Region.ready .any ops listed).isEmpty
 | fuel+1,k,listed=>(Region.ready .any ops listed).contains k && A6 κ ops listed k && DL κ ops fuel (k+1) (listed.setIfInBounds k true)
def uz (κ:Op→Nat) (ops:Array Oper):Bool:=DL κ ops ops.size 0 (Array.replicate ops.size false)
theorem sk {listed:Array Bool} {i:Nat} {oi:Oper} (hi:ops[i]?=some oi) (h:A6 κ ops listed i=true) :
  (∀ j oj,ops[j]?=some oj→j ∈ behind ops i→j ≠ i→∃ e ∈ oj.after,Region.binds .any e=true∧e.on ∈ behind ops i)∧(∀ j ∈ behind ops i,listed.getD j true=false) ∧
  ∀ j oj,ops[j]?=some oj→j ≠ i→listed.getD j true=false→j ∉ behind ops i→oi.apart ops oj=true∧rf (κ oi.op) (κ oj.op)=true:=by
 unfold A6 at h
 simp only[hi,Bool.and_eq_true] at h
 obtain⟨h1,h2⟩:=h
 refine⟨fun j oj hj hd hji=>?_,fun j hd=>?_,fun j oj hj hji hun hno=>?_⟩
 ·have:=List.all_eq_true.1 h1 j hd
  simp only[hj,Bool.and_eq_true,Bool.or_eq_true,beq_iff_eq] at this
  rcases this.2 with h3 | h3
  ·exact absurd h3 hji
  ·obtain⟨e,he,hb⟩:=Array.any_eq_true'.1 h3
   simp only[Bool.and_eq_true,List.contains_iff_mem] at hb
   exact⟨e,he,hb.1,hb.2⟩
 ·have:=List.all_eq_true.1 h1 j hd
  simp only[Bool.and_eq_true,Bool.not_eq_true'] at this
  exact this.1
 ·have hlt:j<ops.size:=(Array.getElem?_eq_some_iff.1 hj).1
  have:=List.all_eq_true.1 h2 j (List.mem_range.2 hlt)
  simp only[hj,hun,Bool.or_false,Bool.or_eq_true,beq_iff_eq,Bool.and_eq_true,List.contains_iff_mem] at this
  rcases this with (h1 | h1) | h1
  ·exact absurd h1 hji
  ·exact absurd h1 hno
  ·exact h1
theorem o5.lex {R:AS→Prop}:∀ (l:List Oper) (k:Nat) (listed:Array Bool) (s:AS),(∀ j:Nat,l[j]?=ops[k+j]?)→DL κ ops l.length k listed=true→E9 P N ops κ R l s→o5 P N ops κ R l.length listed s
 | [],_,_,_,_,hB,h=>⟨by simpa[DL] using hB,h⟩
 | o::l,k,listed,s,hl,hB,h=>by
  have h0:ops[k]?=some o:=by simpa using (hl 0).symm
  simp only[List.length_cons,DL,Bool.and_eq_true] at hB
  obtain⟨⟨hr,hf⟩,hB'⟩:=hB
  obtain⟨s',hst,hrest⟩:=h
  obtain⟨f1,f2,f3⟩:=sk h0 hf
  exact o5.first h0 (behind ops k) f1 l.length listed s s' f2 f3 (by simpa using hr) hst
   (o5.lex l (k+1) _ _ (fun j=>by have:=hl (j+1);simpa[Nat.add_assoc,Nat.add_comm 1 j] using this) hB' hrest)
theorem cz {c:Ctx} {ρ:Env} {a:Act} (r:cX N c ρ a) (hN:ops.toList.all (fun o=>dok N o.dst)=true) {o:Oper} {b:Bool} (h:gok ops o ρ=some b):Region.wanted o (yielded ops a.tmps)=b:=by
 unfold gok at h
 cases hg:o.guard with
 | none=>simp only[hg,Option.some.injEq] at h;simp[Region.wanted,hg,← h]
 | some gw=>
  obtain⟨j,w⟩:=gw
  simp only[hg] at h
  split at h
  ·rename_i b' hv
   unfold guardOf at hv
   split at hv
   ·rename_i t hj
    have ht:dok N (some t)=true:=by
     cases ho:ops[j]? with
     | none=>simp[ho] at hj
     | some o'=>
      simp only[ho,Option.bind_some] at hj
      have:=List.all_eq_true.1 hN o' (by rw[← Array.getElem?_toList] at ho;exact List.mem_of_getElem? ho)
      rw[hj] at this
      exact this
    have hy:=nP r hj ht hv
    simp only[Option.some.injEq] at h
    subst h
    simp only[Region.wanted,hg,hy]
    cases b'<;>cases w<;>rfl
   ·cases hv
  ·rename_i xs hv
   unfold guardOf at hv
   split at hv
   ·rename_i t hj
    have ht:dok N (some t)=true:=by
     cases ho:ops[j]? with
     | none=>simp[ho] at hj
     | some o'=>
      simp only[ho,Option.bind_some] at hj
      have:=List.all_eq_true.1 hN o' (by rw[← Array.getElem?_toList] at ho;exact List.mem_of_getElem? ho)
      rw[hj] at this
      exact this
    have hy:=oM r hj ht hv
    simp only[Option.some.injEq] at h
    subst h
    simp only[Region.wanted,hg,hy]
    rfl
   ·cases hv
  ·cases h
theorem o5.sound {R:AS→Prop} (hN:ops.toList.all (fun o=>dok N o.dst)=true) {Q:Exit→Act→World→Prop} {c0:Ctx} (hQ:∀ a c ρ,bm c0 c→Good c→cX N c ρ a→R (ρ,c.H,c.n)→Q .normal a c.w) :
  ∀ (fuel:Nat) (listed:Array Bool) (ρ:Env) (c:Ctx) (a:Act),bm c0 c→Good c→cX N c ρ a→o5 P N ops κ R fuel listed (ρ,c.H,c.n)→wpAny P .any ops Q fuel listed a c.w
 | 0,_,_,_,_,hk,g,r,h=>⟨h.1,hQ _ _ _ hk g r h.2⟩
 | fuel+1,listed,ρ,c,a,hk,g,r,h=>by
  refine⟨fun h0=>hQ _ _ _ hk g r (h.1 h0),fun i hi=>?_⟩
  obtain⟨o,s',ho,hst,hrest⟩:=h.2 i hi
  obtain⟨ρ',H',n'⟩:=s'
  have hd:dok N o.dst=true:=List.all_eq_true.1 hN o (by rw[← Array.getElem?_toList] at ho;exact List.mem_of_getElem? ho)
  unfold wpOp
  simp only[ho]
  rcases hst with ⟨hg,v,hv,_,_,hop⟩ | ⟨hg,hs⟩
  ·rw[if_pos (cz r hN hg)]
   simp only at hv hop
   subst hv
   refine .inl (hop c a rfl rfl g (r.loc o.op) _ _ ?_)
   rintro v1 x c' ⟨rfl,hH,hn⟩ hrep hgood hkeep
   exact o5.sound hN hQ fuel _ _ c' _ (hk.trans hkeep) hgood ((r.keeps hkeep).put hd hrep) (by rw[hH,hn];exact hrest)
  ·rw[if_neg (by rw[cz r hN hg];simp)]
   cases hs
   exact o5.sound hN hQ fuel _ _ c _ hk g (r.put hd (.v _)) hrest
end
section
variable {P:Program} {f:FuncId} {N:Nat} {k:List Item} {ρ:Env} {H:ak} {n:Nat} {Q:ag→ak→Nat→Prop} {κ:Op→Nat}
theorem aa.draw {id:Nat} {ops:List Oper} (hm:P.follows .mixedOrders=true) (hN:ops.all (fun o=>dok N o.dst)=true) (hB:uz κ ops.toArray=true)
  (h:E9 P N ops.toArray κ (fun s=>aa P f N k s.1 s.2.1 s.2.2 Q) ops (ρ,H,n)):aa P f N (.code (.region id ops.toArray true)::k) ρ H n Q:=by
 intro c a hH hn g r b cs hf hk
 subst hH
 subst hn
 obtain⟨d1,d2⟩:=kA g
 have hany:=o5.lex (P:=P) (N:=N) (κ:=κ) (ops:=ops.toArray) ops 0 (Array.replicate ops.toArray.size false) (ρ,c.H,c.n) (by simp) (by simpa[uz] using hB) h
 have hw:(Code.region id ops.toArray true).wp P (fun e a' w'=>e = .normal∧∃ c' ρ',c'.w=w'∧bm c c'∧Good c'∧cX N c' ρ' a'∧aa P f N k ρ' c'.H c'.n Q) a c.w:=by
  refine wp_region_any hm ?_
  have:=o5.sound (P:=P) (N:=N) (κ:=κ) (ops:=ops.toArray) (c0:=c) (by simpa using hN) (Q:=fun e a' w'=>e = .normal∧∃ c' ρ',c'.w=w'∧bm c c'∧Good c'∧cX N c' ρ' a'∧aa P f N k ρ' c'.H c'.n Q)
   (R:=fun s=>aa P f N k s.1 s.2.1 s.2.2 Q) (fun a' c' ρ' hk' hg' hr' hR=>⟨rfl,c',ρ',rfl,hk',hg',hr',hR⟩) ops.length (Array.replicate ops.toArray.size false) ρ { c with w:={ c.w with drawn:=c.w.drawn+1 } } a d1 d2 (r.keeps d1) hany
  simpa using this
 obtain⟨e,a',w',⟨rfl,c',ρ',rfl,hk',hg',hr',hR⟩,harr⟩:=hw b k cs
 obtain⟨x,v,c'',fr,q,hr,hg,hke,hst,rest⟩:=hR c' a' rfl rfl hg' hr' b cs hf hk
 exact⟨x,v,c'',fr,q,hr,hg,hk'.trans hke,Steps.trans harr hst,rest⟩
end
section
variable {P:Program} {N:Nat} {Ty:Types} {ρ ρ':Env} {H:ak} {n:Nat} {d:Option Tmp}
theorem aC {op:Op}:a6 Ty d op (loc op ρ) H n=a6 Ty d op ρ H n:=by
 have h:∀ x,x ∈ op.operands→(loc op ρ).ev x=ρ.ev x:=fun x hx=>fu hx
 generalize loc op ρ=ρ' at h
 cases op with
 | build t ps=>
  have:ps.toList.map (fun p=>(p.1,ρ'.ev p.2))=ps.toList.map (fun p=>(p.1,ρ.ev p.2)):=List.map_congr_left fun p hp=>by rw[h p.2 (by simp[Op.operands];exact⟨p.1,by simpa using hp⟩)]
  simp only[a6,this]
 | buildSlice t len ps=>
  have:ps.toList.map (fun p=>(p.1,ρ'.ev p.2))=ps.toList.map (fun p=>(p.1,ρ.ev p.2)):=List.map_congr_left fun p hp=>by rw[h p.2 (by simp[Op.operands];exact⟨p.1,by simpa using hp⟩)]
  simp only[a6,this]
 | makeFunc f first cap=>
  have h1:first.toList.map ρ'.ev=first.toList.map ρ.ev:=List.map_congr_left fun p hp=>h p (by simp[Op.operands];exact .inl (by simpa using hp))
  have h2:cap.toList.map ρ'.ev=cap.toList.map ρ.ev:=List.map_congr_left fun p hp=>h p (by simp[Op.operands];exact .inr (by simpa using hp))
  simp only[a6,h1,h2]
 | slice t x lo hi mx=>
  cases lo<;>cases hi<;>cases mx<;>simp_all [a6,Op.operands]
 | call c=>
  obtain⟨cal,args,ats⟩:=c
  cases cal with
  | builtin b=>
   have ha:∀ x,x ∈ args.toList→ρ'.ev x=ρ.ev x:=fun x hx=>h x (by simp[Op.operands,Call.operands];simpa using hx)
   cases b<;>try rfl
   case append=>
    obtain⟨l⟩:=args
    obtain⟨m⟩:=ats
    match l,m with
    | [s,x],[t,t']=>
     simp only[a6]
     rw[ha s (by simp),ha x (by simp)]
    | [],_ | [_],_ | _::_::_::_,_ | [_,_],[] | [_,_],[_] | [_,_],_::_::_::_=>rfl
   case len=>
    obtain⟨l⟩:=args
    obtain⟨m⟩:=ats
    match l,m with
    | [x],[t]=>
     simp only[a6]
     rw[ha x (by simp)]
    | [],_ | _::_::_,_ | [_],[] | [_],_::_::_=>rfl
  | _=>rfl
 | _=>first | rfl | (simp_all [a6,Op.operands])
end
end Go.Ab
/- The abstract machine, part M: a region that bU its order, evaluated. -/
namespace Go.Ab
section
variable {Ty:Types} {ρ:Env} {H H':ak} {n n':Nat} {d:Option Tmp} {v:ag}
theorem cr {x:Option ag} (h:x.map (fun y=>(y,H,n))=some (v,H',n')):x=some v∧H'=H∧n'=n:=by
 cases x with
 | none=>cases h
 | some y=>cases h;exact⟨rfl,rfl,rfl⟩
theorem xI {op:Op} (hk:fk op=0) (h:a6 Ty d op ρ H n=some (v,H',n')):H'=H∧n'=n∧∀ H2 n2,a6 Ty d op ρ H2 n2=some (v,H2,n2):=by
 cases op with
 | move x=>cases h;exact⟨rfl,rfl,fun _ _=>rfl⟩
 | assign x=>cases h;exact⟨rfl,rfl,fun _ _=>rfl⟩
 | pick c a b=>
  simp only[a6] at h ⊢
  split at h
  ·cases h;exact⟨rfl,rfl,fun _ _=>rfl⟩
  ·cases h
 | binOp op t x y t'=>obtain⟨h1,h2,h3⟩:=cr h;exact⟨h2,h3,fun _ _=>by simp only[a6,h1,Option.map_some]⟩
 | unOp op t x=>obtain⟨h1,h2,h3⟩:=cr h;exact⟨h2,h3,fun _ _=>by simp only[a6,h1,Option.map_some]⟩
 | convert s t x=>obtain⟨h1,h2,h3⟩:=cr h;exact⟨h2,h3,fun _ _=>by simp only[a6,h1,Option.map_some]⟩
 | makeFunc f a b=>cases h;exact⟨rfl,rfl,fun _ _=>rfl⟩
 | extract t i=>
  simp only[a6] at h ⊢
  split at h
  ·obtain⟨h1,h2,h3⟩:=cr h
   exact⟨h2,h3,fun _ _=>by simp only[h1,Option.map_some]⟩
  ·cases h
 | field t x f=>
  simp only[a6] at h ⊢
  split at h
  ·split at h
   ·obtain⟨h1,h2,h3⟩:=cr h
    exact⟨h2,h3,fun _ _=>by simp only[h1,Option.map_some]⟩
   ·cases h
  ·cases h
 | index t x i=>obtain⟨h1,h2,h3⟩:=cr h;exact⟨h2,h3,fun _ _=>by simp only[a6,h1,Option.map_some]⟩
 | build t ps=>obtain⟨h1,h2,h3⟩:=cr h;exact⟨h2,h3,fun _ _=>by simp only[a6,h1,Option.map_some]⟩
 | buildSlice t len ps=>
  simp only[fk] at hk
  split at hk
  ·cases hk
  ·rename_i h0
   simp only[a6] at h ⊢
   split at h
   ·rw[if_neg h0] at h
    split at h
    ·rename_i hc
     cases hf:gE (fun k=>some (k * _,_)) _ (ps.toList.map fun p=>(p.1,ρ.ev p.2)) with
     | none=>rw[hf] at h;cases h
     | some cs=>
      rw[hf] at h
      cases h
      refine⟨rfl,rfl,fun H2 n2=>?_⟩
      rw[if_neg h0,if_pos hc]
      rfl
    ·cases h
   ·cases h
 | call c=>
  obtain⟨cal,args,ats⟩:=c
  cases cal with
  | builtin b=>cases b<;>simp[fk] at hk
  | _=>simp[fk] at hk
 | _=>simp[fk] at hk
theorem D2 {op:Op} (hk:fk op=1) (h:a6 Ty d op ρ H n=some (v,H',n')):H'=H∧n'=n:=by
 cases op with
 | load t a=>
  simp only[a6] at h
  split at h
  ·split at h
   ·cases h;exact⟨rfl,rfl⟩
   ·cases h
  ·cases h
 | fieldAddr t a f=>
  simp only[a6] at h
  split at h
  ·split at h
   ·split at h
    ·cases h
    ·cases h;exact⟨rfl,rfl⟩
   ·cases h
  ·cases h
 | indexAddr t a i=>exact (cr h).2
 | slice t x lo hi mx=>
  cases mx with
  | none=>exact (cr h).2
  | some m=>cases h
 | nilCheck x=>
  simp only[a6] at h
  split at h
  ·cases h;exact⟨rfl,rfl⟩
  ·cases h
 | call c=>
  obtain⟨cal,args,ats⟩:=c
  cases cal with
  | builtin b=>
   cases b<;>simp[fk] at hk
   simp only[a6] at h
   split at h
   ·exact (cr h).2
   ·cases h
  | value g=>cases h
  | invoke r m=>simp[fk] at hk
 | buildSlice t len ps=>simp only[fk] at hk;split at hk<;>cases hk
 | _=>simp[fk] at hk
end
def KOk (κ:Op→Nat):Prop:=∀ op,(κ op=0→fk op=0)∧(κ op=1→fk op=1)
theorem aD:KOk fk:=fun _=>⟨id,id⟩
section
variable (P:Program) (f:FuncId) (N:Nat) (k:List Item) (Q:ag→ak→Nat→Prop) (Ty:Types) (κ:Op→Nat) (ops:Array Oper)
def bn (l:List Oper) (ρ:Env) (H:ak) (n:Nat):Prop:=E9 P N ops κ (fun s=>aa P f N k s.1 s.2.1 s.2.2 Q) l (ρ,H,n)
mutual
def dF:List Oper→Env→ak→Nat→Prop
 | [],ρ,H,n=>aa P f N k ρ H n Q
 | o::l,ρ,H,n=>
  match o.guard with
  | none=>lv (a6 Ty o.dst o.op ρ H n) o l ρ H n
  | some (j,want)=>match guardOf ops ρ j with
   | .v (.bool b)=>iy b want o l ρ H n
   | .v (.tuple _)=>dF l (ρ.put o.dst skv) H n
   | _=>bn P f N k Q κ ops (o::l) ρ H n
 termination_by l=>(l.length,0)
def lv:Option (ag × ak × Nat)→Oper→List Oper→Env→ak→Nat→Prop
 | some (v,H',n'),o,l,ρ,_,_=>dF l (ρ.put o.dst v) H' n'
 | none,o,l,ρ,H,n=>bn P f N k Q κ ops ({ o with guard:=none }::l) ρ H n
 termination_by _ _ l=>(l.length,1)
def iy (b want:Bool) (o:Oper) (l:List Oper) (ρ:Env) (H:ak) (n:Nat):Prop:=
 if b=want then lv (a6 Ty o.dst o.op ρ H n) o l ρ H n else dF l (ρ.put o.dst skv) H n
 termination_by (l.length,2)
end
end
section
variable {P:Program} {f:FuncId} {N:Nat} {k:List Item} {Q:ag→ak→Nat→Prop} {Ty:Types} {κ:Op→Nat} {ops:Array Oper} {o:Oper} {l:List Oper} {ρ:Env} {H:ak} {n:Nat}
@[simp] theorem GA : dF P f N k Q Ty κ ops [] ρ H n = aa P f N k ρ H n Q := by rw [dF]
@[simp] theorem HF {d : Option Tmp} {op : Op} {ty : TypeId} {pos : String} {af : Array Edge} : dF P f N k Q Ty κ ops (⟨d, op, ty, pos, af, none⟩ :: l) ρ H n = lv P f N k Q Ty κ ops (a6 Ty d op ρ H n) ⟨d, op, ty, pos, af, none⟩ l ρ H n := by rw [dF]
@[simp] theorem FL {d : Option Tmp} {op : Op} {ty : TypeId} {pos : String} {af : Array Edge} {j : Nat} {want : Bool} : dF P f N k Q Ty κ ops (⟨d, op, ty, pos, af, some (j, want)⟩ :: l) ρ H n = (match guardOf ops ρ j with
   | .v (.bool b)=>iy P f N k Q Ty κ ops b want ⟨d,op,ty,pos,af,some (j,want)⟩ l ρ H n
   | .v (.tuple _)=>dF P f N k Q Ty κ ops l (ρ.put d skv) H n
   | _=>bn P f N k Q κ ops (⟨d,op,ty,pos,af,some (j,want)⟩::l) ρ H n):=by rw[dF]
@[simp] theorem lh {v : ag} {H' : ak} {n' : Nat} : lv P f N k Q Ty κ ops (some (v, H', n')) o l ρ H n = dF P f N k Q Ty κ ops l (ρ.put o.dst v) H' n' := by rw [lv]
@[simp] theorem re : lv P f N k Q Ty κ ops none o l ρ H n = bn P f N k Q κ ops ({ o with guard := none } :: l) ρ H n := by rw [lv]
@[simp] theorem Gz : iy P f N k Q Ty κ ops true true o l ρ H n = lv P f N k Q Ty κ ops (a6 Ty o.dst o.op ρ H n) o l ρ H n := by rw [iy, if_pos rfl]
@[simp] theorem Gy : iy P f N k Q Ty κ ops false false o l ρ H n = lv P f N k Q Ty κ ops (a6 Ty o.dst o.op ρ H n) o l ρ H n := by rw [iy, if_pos rfl]
@[simp] theorem GB : iy P f N k Q Ty κ ops true false o l ρ H n = dF P f N k Q Ty κ ops l (ρ.put o.dst skv) H n := by rw [iy, if_neg (by simp)]
@[simp] theorem Gx : iy P f N k Q Ty κ ops false true o l ρ H n = dF P f N k Q Ty κ ops l (ρ.put o.dst skv) H n := by rw [iy, if_neg (by simp)]
theorem j7.Bb (hT:aU P Ty) (hκ:KOk κ) {v:ag} {H':ak} {n':Nat} (hg:gok ops o ρ=some true) (hs:a6 Ty o.dst o.op ρ H n=some (v,H',n')):j7 P N ops κ o (ρ,H,n) (ρ.put o.dst v,H',n'):=by
 have hl:a6 Ty o.dst o.op (loc o.op ρ) H n=some (v,H',n'):=by rw[aC];exact hs
 refine .inl ⟨hg,v,rfl,fun h0=>?_,fun h1=>?_,aJ hT hl⟩
 ·obtain⟨e1,e2,hall⟩:=xI ((hκ o.op).1 h0) hl
  subst e1
  subst e2
  exact⟨rfl,fun H2 n2=>aJ hT (hall H2 n2)⟩
 ·obtain⟨e1,e2⟩:=D2 ((hκ o.op).2 h1) hl
  subst e1
  subst e2
  rfl
theorem bn.uK {j:Nat} {want b:Bool} (hg:o.guard=some (j,want)) (hv:guardOf ops ρ j = .v (.bool b)) (hb:b=want) (h:bn P f N k Q κ ops ({ o with guard:=none }::l) ρ H n):bn P f N k Q κ ops (o::l) ρ H n:=by
 obtain⟨s',hst,hrest⟩:=h
 refine⟨s',?_,hrest⟩
 rcases hst with ⟨_,v,hv',h0,h1,hop⟩ | ⟨hgf,_⟩
 ·exact .inl ⟨by simp only[gok,hg,hv,hb];cases want<;>rfl,v,hv',h0,h1,hop⟩
 ·simp[gok] at hgf
theorem ed (hT:aU P Ty) (hκ:KOk κ):∀ (l:List Oper) (ρ:Env) (H:ak) (n:Nat),dF P f N k Q Ty κ ops l ρ H n→bn P f N k Q κ ops l ρ H n
 | [],ρ,H,n,h=>by
  rw[dF] at h
  exact h
 | o::l,ρ,H,n,h=>by
  rw[dF] at h
  split at h
  ·rename_i hg
   cases hs:a6 Ty o.dst o.op ρ H n with
   | some r=>
    obtain⟨v,H',n'⟩:=r
    rw[hs,lh] at h
    exact⟨_,j7.Bb hT hκ (by simp[gok,hg]) hs,ed hT hκ l _ _ _ h⟩
   | none=>
    rw[hs,re] at h
    obtain⟨d,op,ty,pos,af,gu⟩:=o
    simp only at hg
    subst hg
    exact h
  ·rename_i j want hg
   split at h
   ·rename_i b hv
    rw[iy] at h
    split at h
    ·rename_i hb
     cases hs:a6 Ty o.dst o.op ρ H n with
     | some r=>
      obtain⟨v,H',n'⟩:=r
      rw[hs,lh] at h
      exact⟨_,j7.Bb hT hκ (by simp only[gok,hg,hv,hb];cases want<;>rfl) hs,ed hT hκ l _ _ _ h⟩
     | none=>
      rw[hs,re] at h
      exact bn.uK hg hv hb h
    ·rename_i hb
     refine⟨_,.inr ⟨?_,rfl⟩,ed hT hκ l _ _ _ h⟩
     simp only[gok,hg,hv]
     cases b<;>cases want<;>simp_all
   ·rename_i xs hv
    exact⟨_,.inr ⟨by simp only[gok,hg,hv],rfl⟩,ed hT hκ l _ _ _ h⟩
   ·exact h
theorem bn.op (hT:aU P Ty) (hκ:KOk κ) {v:ag} {H':ak} {n':Nat} (hg:o.guard=none) (h0:κ o.op ≠ 0) (h1:κ o.op=1→H'=H∧n'=n) (hop:aN P N o (loc o.op ρ) H n (isV v H' n'))
  (h:dF P f N k Q Ty κ ops l (ρ.put o.dst v) H' n'):bn P f N k Q κ ops (o::l) ρ H n:=
 ⟨(ρ.put o.dst v,H',n'),.inl ⟨by simp[gok,hg],v,rfl,fun h=>absurd h h0,fun h=>by obtain⟨e1,e2⟩:=h1 h;rw[e1,e2],hop⟩,ed hT hκ l _ _ _ h⟩
theorem aa.eo (hT:aU P Ty) (hκ:KOk κ) {id:Nat} {ops:List Oper} {y:Code} (hm:P.follows .mixedOrders=true) (hN:ops.all (fun o=>dok N o.dst)=true) (hB:uz κ ops.toArray=true)
  (h:∀ k':List Item,(∀ ρ H n,aa P f N (.code y::k) ρ H n Q→aa P f N k' ρ H n Q)→dF P f N k' Q Ty κ ops.toArray ops ρ H n):aa P f N (.code (.seq (.region id ops.toArray true) y)::k) ρ H n Q:=
 aa.seq (aa.draw hm hN hB (ed hT hκ ops _ _ _ (h (.code y::k) fun _ _ _ h=>h)))
theorem aa.zC (hT:aU P Ty) (hκ:KOk κ) {id:Nat} {ops:List Oper} (hm:P.follows .mixedOrders=true) (hN:ops.all (fun o=>dok N o.dst)=true) (hB:uz κ ops.toArray=true)
  (h:∀ k':List Item,(∀ ρ H n,aa P f N k ρ H n Q→aa P f N k' ρ H n Q)→dF P f N k' Q Ty κ ops.toArray ops ρ H n):aa P f N (.code (.region id ops.toArray true)::k) ρ H n Q:=
 aa.draw hm hN hB (ed hT hκ ops _ _ _ (h k fun _ _ _ h=>h))
theorem aN.FJ {d:Option Tmp} {g:Operand} {args:Array Operand} {ats:Array TypeId} {ty:TypeId} {pos:String} {af:Array Edge} {gu:Option (Nat × Bool)} {v:ag}
  {f:FuncId} {args':List ag} (hg:ρ.ev g = .fn (.func f) [] []) (hent:Ent P f) (ha:bA H n (args.toList.map ρ.ev) args') (h:aq P f args' (fun r=>r=v)) :
  aN P N ⟨d,.call ⟨.value g,args,ats⟩,ty,pos,af,gu⟩ (loc (.call ⟨.value g,args,ats⟩) ρ) H n (isV v H n):=by
 have h1:(loc (.call ⟨.value g,args,ats⟩) ρ).ev g=ρ.ev g:=fu (by simp[Op.operands,Call.operands])
 have h2:args.toList.map (loc (.call ⟨.value g,args,ats⟩) ρ).ev=args.toList.map ρ.ev:=List.map_congr_left fun x hx=>fu (by simp[Op.operands,Call.operands];exact .inr (by simpa using hx))
 exact aN.yd (by rw[h1];exact hg) hent (by rw[h2];exact ha) h
theorem aG.call (hT:aU P Ty) {d:Option Tmp} {g:Operand} {args:Array Operand} {ats:Array TypeId} {ty:TypeId} {pos:String} {af:Array Edge} {R:ag→Prop} {f':FuncId} {args':List ag} {ops:List Oper}
  (hN:ops.all (fun o=>dok N o.dst)=true) (hl:(⟨d,.call ⟨.value g,args,ats⟩,ty,pos,af,none⟩::l:List Oper).all (fun o=>dok N o.dst)=true) (hg:ρ.ev g = .fn (.func f') [] []) (hent:Ent P f') (ha:bA H n (args.toList.map ρ.ev) args') (h:aq P f' args' R)
  (hk:∀ v,R v→ct P f N k Q Ty ops.toArray l (ρ.put d v) H n):aG P f N k Q ops.toArray (⟨d,.call ⟨.value g,args,ats⟩,ty,pos,af,none⟩::l) ρ H n:=
 aG.op hT hN hl rfl (aN.yd hg hent ha h) fun v H' n' ⟨hR,hH,hn⟩=>by rw[hH,hn];exact hk v hR
theorem bn.call (hT:aU P Ty) (hκ:KOk κ) {d:Option Tmp} {g:Operand} {args:Array Operand} {ats:Array TypeId} {ty:TypeId} {pos:String} {af:Array Edge} {v:ag} {f':FuncId} {args':List ag}
  (h0:κ (.call ⟨.value g,args,ats⟩) ≠ 0) (hg:ρ.ev g = .fn (.func f') [] []) (hent:Ent P f') (ha:bA H n (args.toList.map ρ.ev) args') (h:aq P f' args' (fun r=>r=v))
  (hk:dF P f N k Q Ty κ ops l (ρ.put d v) H n):bn P f N k Q κ ops (⟨d,.call ⟨.value g,args,ats⟩,ty,pos,af,none⟩::l) ρ H n:=
 bn.op hT hκ rfl h0 (fun _=>⟨rfl,rfl⟩) (aN.FJ hg hent ha h) hk
end
end Go.Ab
/- The abstract machine, part N: handing over, shorter. -/
namespace Go.Ab
theorem oO {e:List ag} (h:∀ a ∈ e,flat a=true):e.map old=e:=by
 conv=>rhs;rw[← List.map_id e]
 refine List.map_congr_left fun a ha=>?_
 have:=h a ha
 cases a<;>simp[flat] at this
 rfl
theorem dN {els:List (List ag)} (h:∀ e ∈ els,∀ a ∈ e,flat a=true):els.map (fun e=>e.map old)=els:=by
 conv=>rhs;rw[← List.map_id els]
 exact List.map_congr_left fun e he=>oO (h e he)
section
variable {H:ak} {n:Nat}
theorem aF.uv {fr:Bool} {els:List (List ag)} (h:∀ e ∈ els,∀ a ∈ e,flat a=true):aF H n (.list fr els) (.list false els):=by
 refine aF.vg (.list _ _ fun e he a ha=>Imm.flat (h e he a ha)) ?_
 rw[gf,dN h]
theorem aF.nil:aF H n (.v (.slice none 0 0)) (.list false []):=fun _ y _ _ _ r _ _ _=>by rw[r.bS];exact .lnil false
theorem aF.HA {cs:List ag} (h:∀ a ∈ cs,flat a=true):aF H n (.agg cs) (.agg cs):=
 aF.vg (.agg _ fun a ha=>Imm.flat (h a ha)) (by rw[qH,oO h])
end
section
variable {P:Program} {f:FuncId} {N:Nat} {k:List Item} {Q:ag→ak→Nat→Prop} {Ty:Types} {l:List Oper} {ρ:Env} {H:ak} {n:Nat}
theorem aG.aB (hT:aU P Ty) {d:Option Tmp} {g:Operand} {args:Array Operand} {ats:Array TypeId} {ty:TypeId} {pos:String} {af:Array Edge} {R:ag→Prop} {f':FuncId} {as1 args':List ag} {ops:List Oper}
  (h:aq P f' args' R) (hent:Ent P f') (ha:bA H n as1 args')
  (hN:ops.all (fun o=>dok N o.dst)=true) (hl:(⟨d,.call ⟨.value g,args,ats⟩,ty,pos,af,none⟩::l:List Oper).all (fun o=>dok N o.dst)=true) (hg:ρ.ev g = .fn (.func f') [] []) (has:args.toList.map ρ.ev=as1)
  (hk:∀ v,R v→ct P f N k Q Ty ops.toArray l (ρ.put d v) H n):aG P f N k Q ops.toArray (⟨d,.call ⟨.value g,args,ats⟩,ty,pos,af,none⟩::l) ρ H n:=
 aG.call hT hN hl hg hent (has ▸ ha) h hk
theorem bn.aB (hT:aU P Ty) {κ:Op→Nat} (hκ:KOk κ) {d:Option Tmp} {g:Operand} {args:Array Operand} {ats:Array TypeId} {ty:TypeId} {pos:String} {af:Array Edge} {v:ag} {f':FuncId} {as1 args':List ag} {ops:Array Oper}
  (h:aq P f' args' (fun r=>r=v)) (hent:Ent P f') (ha:bA H n as1 args') (h0:κ (.call ⟨.value g,args,ats⟩) ≠ 0) (hg:ρ.ev g = .fn (.func f') [] []) (has:args.toList.map ρ.ev=as1)
  (hk:dF P f N k Q Ty κ ops l (ρ.put d v) H n):bn P f N k Q κ ops (⟨d,.call ⟨.value g,args,ats⟩,ty,pos,af,none⟩::l) ρ H n:=
 bn.call hT hκ h0 hg hent (has ▸ ha) h hk
end
@[simp] theorem bJ.Hp (x : Value) : bJ (.v x) ↔ True := ⟨fun _ => trivial, fun _ => .v x⟩
@[simp] theorem Imm.Hp (x : Value) : Imm (.v x) ↔ True := ⟨fun _ => trivial, fun _ => .v x⟩
@[simp] theorem Is (x : Value) : flat (.v x) = true := rfl
theorem bJ.qQ (els:List (List ag)):bJ (.list true els)↔∀ e ∈ els,∀ a ∈ e,bJ a:=⟨fun h=>by cases h;assumption,fun h=>.list els h⟩
theorem bJ.uW (cs:List ag):bJ (.agg cs)↔∀ a ∈ cs,bJ a:=⟨fun h=>by cases h;assumption,fun h=>.agg cs h⟩
theorem bJ.Fk (cs:List ag):bJ (.tup cs)↔∀ a ∈ cs,bJ a:=⟨fun h=>by cases h;assumption,fun h=>.tup cs h⟩
attribute [simp] bJ.qQ bJ.uW bJ.Fk
theorem Imm.qQ (fr:Bool) (els:List (List ag)):Imm (.list fr els)↔∀ e ∈ els,∀ a ∈ e,Imm a:=⟨fun h=>by cases h;assumption,fun h=>.list fr els h⟩
theorem Imm.uW (cs:List ag):Imm (.agg cs)↔∀ a ∈ cs,Imm a:=⟨fun h=>by cases h;assumption,fun h=>.agg cs h⟩
attribute [simp] Imm.qQ Imm.uW
@[simp] theorem EY (a b : Array UInt8) : (ByteArray.mk a) ++ (ByteArray.mk b) = ByteArray.mk (a ++ b) := by
 apply ByteArray.ext
 simp
@[simp] theorem FU (a : Array UInt8) : (ByteArray.mk a).size = a.size := rfl
@[simp] theorem Gb (l : Array UInt8) : (ByteArray.mk l).toList = l.toList := by rw [ByteArray.toList_eq]
theorem Ent.of {P : Program} {f : FuncId} {fn : Func} {body : Code} (h : P.funcs[f]? = some fn) (hn : (fn.name == "runtime.NumGoroutine") = false) (hb : fn.body = some body) : Ent P f := ⟨fn, body, h, hn, hb⟩
attribute [simp] wrap64
def part {α:Type} (f:α→List ag) (z:List ag) (p:List α) (k:Nat):List (List ag):=(p.take k).map f++List.replicate (p.length - k) z
section
variable {α:Type} {f:α→List ag} {z:List ag} {p:List α} {k:Nat}
theorem jU:part f z p 0=List.replicate p.length z:=by simp[part]
theorem fY (hk:k≤p.length):(part f z p k).length=p.length:=by simp[part];omega
theorem ft (hk:k<p.length):(part f z p k)[k]?=some z:=by
 unfold part
 rw[List.getElem?_append_right (by simp;omega)]
 rw[List.getElem?_replicate]
 simp
 omega
theorem j6 (hk:k<p.length) (h:k<(part f z p k).length):(part f z p k)[k]=z:=by
 have:=ft (f:=f) (z:=z) hk
 rw[List.getElem?_eq_getElem h] at this
 exact Option.some.inj this
theorem lF (hk:k<p.length):(part f z p k).set k (f p[k])=part f z p (k+1):=by
 unfold part
 rw[List.set_append_right _ _ (by simp;omega),List.take_succ_eq_append_getElem hk,List.map_append,List.append_assoc]
 congr 1
 have h1:p.length - k=(p.length - (k+1))+1:=by omega
 have h2:k - (List.map f (p.take k)).length=0:=by simp;omega
 rw[h1,h2,List.replicate_succ]
 rfl
theorem lz:part f z p p.length=p.map f:=by simp[part]
end
section
variable {P:Program} {N:Nat} {fn:Func} {ρ:Env} {H:ak} {n:Nat} {Ty:Types}
theorem aK.cell (hT:aU P Ty) {t:Tmp} {ty:TypeId} (h:fn.results=#[.cell t ty]) {i:TI} {cs:List ag} {v:ag} (hi:Ty ty=some i) (hv:cR H (ρ t)=some cs) (hl:lL i cs=some v):aK P N fn ρ H n v:=by
 intro c a hH hn g r
 subst hH
 obtain⟨b,off,hx,hview⟩:=jZ g (r.rep t) hv
 obtain⟨y,hrun,hrep⟩:=lp (hT ty i hi) hview hl
 rw[Array.getD_eq_getD_getElem?] at hx
 exact⟨y,by simp[results,h,hx,hrun,asAddr],hrep⟩
end
end Go.Ab
/- The abstract machine, part T: what a callee has made is taken over, as the caller's own. -/
namespace Go.Ab
def dP (k:Nat) (id:Id):Id:=(id.1+k,id.2)
def shA (k:Nat):ag→ag
 | .agg cs=>.agg (shL k cs)
 | .tup cs=>.tup (shL k cs)
 | .list fr els=>.list fr (shLL k els)
 | .arr id g off len=>.arr (dP k id) g off len
 | .ptr id g idx off=>.ptr (dP k id) g idx off
 | x=>x
 where
 shL (k:Nat):List ag→List ag
  | []=>[]
  | a::l=>shA k a::shL k l
 shLL (k:Nat):List (List ag)→List (List ag)
  | []=>[]
  | e::l=>shL k e::shLL k l
theorem yr (k:Nat) (l:List ag):shA.shL k l=l.map (shA k):=by
 induction l with
 | nil=>rfl
 | cons a l ih=>simp[shA.shL,ih]
theorem Fh (k:Nat) (l:List (List ag)):shA.shLL k l=l.map (fun e=>e.map (shA k)):=by
 induction l with
 | nil=>rfl
 | cons a l ih=>simp[shA.shLL,ih,yr]
theorem En (k:Nat) (x:Value):shA k (.v x) = .v x:=by simp[shA]
theorem vX (k:Nat) (cs:List ag):shA k (.agg cs) = .agg (cs.map (shA k)):=by simp[shA,yr]
theorem u5 (k:Nat) (cs:List ag):shA k (.tup cs) = .tup (cs.map (shA k)):=by simp[shA,yr]
theorem xt (k:Nat) (fr:Bool) (els:List (List ag)):shA k (.list fr els) = .list fr (els.map fun e=>e.map (shA k)):=by simp[shA,Fh]
theorem AU (k:Nat) (id:Id) (g off len:Nat):shA k (.arr id g off len) = .arr (dP k id) g off len:=by simp[shA]
inductive Mv (K:Id→Prop):ag→Prop
 | v (x:Value):Mv K (.v x)
 | agg (cs:List ag) (h:∀ a ∈ cs,Mv K a):Mv K (.agg cs)
 | tup (cs:List ag) (h:∀ a ∈ cs,Mv K a):Mv K (.tup cs)
 | list (els:List (List ag)) (h:∀ e ∈ els,∀ a ∈ e,Mv K a):Mv K (.list true els)
 | arr (id:Id) (g off len:Nat) (h:K id):Mv K (.arr id g off len)
 | ptr (id:Id) (g idx off:Nat) (h:K id):Mv K (.ptr id g idx off)
def zW (k:Nat) (o:Ob):Ob:=⟨o.size,o.els.map fun e=>e.map (shA k)⟩
def merge (n:Nat) (H H':ak) (K:Id→Bool):ak:=fun id=>if id.1<n then H id else if K (id.1 - n,id.2) then (H' (id.1 - n,id.2)).map (zW n) else none
theorem merge_lt {n:Nat} {H H':ak} {K:Id→Bool} {id:Id} (h:id.1<n):merge n H H' K id=H id:=by simp[merge,h]
theorem xN {n:Nat} {H H':ak} {K:Id→Bool} {id:Id} (h:K id=true):merge n H H' K (dP n id)=(H' id).map (zW n):=by
 have h1:¬ (dP n id).1<n:=by simp[dP]
 unfold merge
 rw[if_neg h1]
 simp[dP,h]
theorem Rep.sh {c1 c2:Ctx} {k:Nat} {K:Id→Prop} (hw:c2.w=c1.w) (hB:c2.B≤c1.B) (hmu:∀ b,c1.B≤b→c2.mu b→c1.mu b) (hn:c1.n+k≤c2.n)
  (hobj:∀ id,K id→c2.β (dP k id)=c1.β id∧∀ o',c2.H (dP k id)=some o'→∃ o,c1.H id=some o∧o.size=o'.size∧o.els.length=o'.els.length) {a:ag} {x:Value} (r:Rep c1 a x) :
  Mv K a→Rep c2 (shA k a) x:=by
 induction r with
 | undef=>intro h;cases h
 | v x=>intro _;rw[En];exact .v x
 | agg cs vs hl _ ih=>
  intro h
  cases h with
  | agg _ h=>
  rw[vX]
  refine .agg _ vs (by simpa using hl) fun i a x ha hx=>?_
  obtain⟨b,hb,rfl⟩:=cG ha
  exact ih i b x hb hx (h b (List.mem_of_getElem? hb))
 | tup cs vs hl _ ih=>
  intro h
  cases h with
  | tup _ h=>
  rw[u5]
  refine .tup _ vs (by simpa using hl) fun i a x ha hx=>?_
  obtain⟨b,hb,rfl⟩:=cG ha
  exact ih i b x hb hx (h b (List.mem_of_getElem? hb))
 | lnil fr=>intro _;exact .lnil fr
 | list fr els a cap sz cell hs hcap hm hsz hc _ ih=>
  intro h
  cases h with
  | list _ h=>
  rw[xt]
  have:=Rep.list (c:=c2) true (els.map fun e=>e.map (shA k)) a cap sz cell (fun hne=>hs (by intro h0;subst h0;simp at hne)) (by simpa using hcap) (fun hne=>?_) (fun i e he=>?_) (fun i e j x he hx=>?_) (fun i e j x he hx=>?_)
  ·simpa using this
  ·obtain⟨h1,h2,h3⟩:=hm (by intro h0;simp[h0] at hne)
   exact⟨fun hmk=>h1 (hmu _ (h3 rfl) hmk),by rw[hw];exact h2,fun _=>Nat.le_trans hB (h3 rfl)⟩
  ·obtain⟨b,hb,rfl⟩:=cG he
   rw[List.length_map];exact hsz i b hb
  ·obtain⟨b,hb,rfl⟩:=cG he
   obtain⟨y,hy,rfl⟩:=cG hx
   rw[hw]
   exact hc i b j y hb hy
  ·obtain⟨b,hb,rfl⟩:=cG he
   obtain⟨y,hy,rfl⟩:=cG hx
   exact ih i b j y hb hy (h b (List.mem_of_getElem? hb) y (List.mem_of_getElem? hy))
 | arr id gen off len x h1 hlt hg hh=>
  intro h
  cases h with
  | arr _ _ _ _ hK=>
  rw[AU]
  obtain⟨hb,ho⟩:=hobj id hK
  refine .arr _ gen off len x h1 (by simp[dP];omega) (fun o' ho'=>?_) (fun o' ho' hgen=>?_)
  ·obtain⟨o,h2,h3,h4⟩:=ho o' ho'
   rw[← h4];exact hg o h2
  ·obtain⟨o,h2,h3,h4⟩:=ho o' ho'
   obtain⟨p1,a,cap,p2,p3,p4,p5,p6,p7⟩:=hh o h2 (by omega)
   refine⟨p1,a,cap,p2,by rw[hb];exact p3,p4,p5,by rw[← h3];exact p6,?_⟩
   rw[hb,hw,← h3]
   exact p7
 | ptr id gen idx off x h1 hlt hg hh=>
  intro h
  cases h with
  | ptr _ _ _ _ hK=>
  have e:shA k (.ptr id gen idx off) = .ptr (dP k id) gen idx off:=by simp[shA]
  rw[e]
  obtain⟨hb,ho⟩:=hobj id hK
  refine .ptr _ gen idx off x h1 (by simp[dP];omega) (fun o' ho'=>?_) (fun o' ho' hgen=>?_)
  ·obtain⟨o,h2,h3,h4⟩:=ho o' ho'
   rw[← h4];exact hg o h2
  ·obtain⟨o,h2,h3,h4⟩:=ho o' ho'
   obtain⟨p1,p2⟩:=hh o h2 (by omega)
   exact⟨p1,by rw[hb,← h3];exact p2⟩
 | iptr=>intro h;cases h
 | fn=>intro h;cases h
 | iface=>intro h;cases h
 | clip=>intro h;cases h
def D3 (H':ak) (K:Id→Bool):Prop:=∀ id o,H' id=some o→K id=true→∀ e ∈ o.els,∀ a ∈ e,Mv (fun i=>K i=true) a
theorem Cx {c c1:Ctx} (g:Good c) (g1:Good c1) (hk:bm ⟨c.w.heap.size,fun _=>0,bc,0,c.w⟩ c1) {K:Id→Bool} (hcl:D3 c1.H K) :
  ∃ c2:Ctx,c2.H=merge c.n c.H c1.H K∧c2.n=c.n+c1.n∧c2.w=c1.w∧Good c2∧bm c c2∧∀ a x,Rep c1 a x→Mv (fun i=>K i=true) a→Rep c2 (shA c.n a) x:=by
 have hB1:c1.B=c.w.heap.size:=hk.B
 have hnomu:∀ k,¬ Ctx.mu ⟨c.w.heap.size,fun _=>0,bc,0,c.w⟩ k:=by
  rintro k ⟨id,o,ho,_⟩
  cases ho
 have hblk:∀ k,k<c.w.heap.size→c1.w.heap[k]?=c.w.heap[k]?:=fun k hlt=>(hk.imm k hlt (hnomu k)).1
 have hsize:c.w.heap.size≤c1.w.heap.size:=hk.size
 let c2:Ctx:=⟨c.B,fun id=>if id.1<c.n then c.β id else c1.β (id.1 - c.n,id.2),merge c.n c.H c1.H K,c.n+c1.n,c1.w⟩
 have hsh:∀ id:Id,¬ (dP c.n id).1<c.n:=fun id=>by simp[dP]
 have hβs:∀ id:Id,c2.β (dP c.n id)=c1.β id:=fun id=>by
  show (if (dP c.n id).1<c.n then _ else _)=_
  rw[if_neg (hsh id)]
  simp[dP]
 have hβo:∀ id:Id,id.1<c.n→c2.β id=c.β id:=fun id h=>by
  show (if id.1<c.n then _ else _)=_
  rw[if_pos h]
 -- an object of c2 is one of c, or one of c1, shifted
 have hcase:∀ id o,c2.H id=some o→(id.1<c.n∧c.H id=some o)∨∃ id1 o1,id=dP c.n id1∧c1.H id1=some o1∧K id1=true∧o=zW c.n o1:=by
  intro id o ho
  rcases Nat.lt_or_ge id.1 c.n with h | h
  ·left
   refine⟨h,?_⟩
   have:merge c.n c.H c1.H K id=some o:=ho
   rwa [merge_lt h] at this
  ·right
   have e:merge c.n c.H c1.H K id=some o:=ho
   unfold merge at e
   rw[if_neg (by omega)] at e
   split at e
   ·rename_i hK
    cases h1:c1.H (id.1 - c.n,id.2) with
    | none=>rw[h1] at e;cases e
    | some o1=>
     rw[h1] at e
     cases e
     exact⟨(id.1 - c.n,id.2),o1,by ext<;>simp[dP];omega,h1,hK,rfl⟩
   ·cases e
 have hlow:∀ id o,c.H id=some o→c.β id<c.w.heap.size:=fun id o h=>g.lt h
 have hhigh:∀ id o,c1.H id=some o→c.w.heap.size≤c1.β id:=fun id o h=>by rw[← hB1];exact (g1.obj id o h).1
 have hmu2:∀ b,c2.mu b→c.mu b∨c1.mu b:=by
  rintro b ⟨id,o,ho,hb⟩
  rcases hcase id o ho with ⟨h1,h2⟩ | ⟨id1,o1,rfl,h1,_,_⟩
  ·left;exact⟨id,o,h2,by rw[← hb,hβo id h1]⟩
  ·right;exact⟨id1,o1,h1,by rw[← hb,hβs]⟩
 have hkeep:bm c c2:=by
  refine⟨Nat.le_add_right _ _,rfl,hsize,hk.os,hk.tape,hk.output,fun k hlt hm=>⟨hblk k hlt,fun h=>?_⟩,fun id o' ho' hid=>?_⟩
  ·rcases hmu2 k h with h | ⟨id,o,h1,h2⟩
   ·exact hm h
   ·have:=hhigh id o h1;omega
  ·have e:merge c.n c.H c1.H K id=some o':=ho'
   rw[merge_lt hid] at e
   refine⟨o',e,rfl,Nat.le_refl _,fun _=>⟨hβo id hid,fun cl' el' fz' h=>⟨cl',el',fz',?_,Nat.le_refl _⟩⟩⟩
   have h2:c1.w.heap[c.β id]?=some (.cells cl' el' fz'):=h
   rw[hblk _ (hlow id o' e)] at h2
   exact h2
 have hrep:∀ a x,Rep c1 a x→Mv (fun i=>K i=true) a→Rep c2 (shA c.n a) x:=by
  intro a x r hm
  refine Rep.sh (c1:=c1) (c2:=c2) (K:=fun i=>K i=true) rfl ?_ ?_ (Nat.le_of_eq (Nat.add_comm _ _)) ?_ r hm
  ·rw[hB1];exact g.Bsize
  ·intro b hb h
   rcases hmu2 b h with ⟨id,o,h1,h2⟩ | h
   ·have:=hlow id o h1;omega
   ·exact h
  ·intro id hK
   refine⟨hβs id,fun o' ho'=>?_⟩
   have e:merge c.n c.H c1.H K (dP c.n id)=some o':=ho'
   rw[xN hK] at e
   cases h1:c1.H id with
   | none=>rw[h1] at e;cases e
   | some o=>
    rw[h1] at e
    cases e
    exact⟨o,rfl,rfl,by simp[zW]⟩
 refine⟨c2,rfl,rfl,rfl,⟨fun id o ho=>?_,fun id id' o o' ho ho' hb=>?_,Nat.le_trans g.Bsize hsize,fun id o ho=>?_⟩,hkeep,hrep⟩
 ·rcases hcase id o ho with ⟨h1,_⟩ | ⟨id1,o1,rfl,h1,_,_⟩
  ·show id.1<c.n+c1.n;omega
  ·have:=g1.stamp id1 o1 h1
   show (dP c.n id1).1<c.n+c1.n
   simp[dP];omega
 ·rcases hcase id o ho with ⟨h1,h2⟩ | ⟨id1,o1,rfl,h1,_,_⟩<;>rcases hcase id' o' ho' with ⟨k1,k2⟩ | ⟨id1',o1',rfl,k1,_,_⟩
  ·rw[hβo id h1,hβo id' k1] at hb
   exact g.inj id id' o o' h2 k2 hb
  ·rw[hβo id h1,hβs] at hb
   have:=hlow id o h2
   have:=hhigh id1' o1' k1
   omega
  ·rw[hβo id' k1,hβs] at hb
   have:=hlow id' o' k2
   have:=hhigh id1 o1 h1
   omega
  ·rw[hβs,hβs] at hb
   rw[g1.inj id1 id1' o1 o1' h1 k1 hb]
 ·rcases hcase id o ho with ⟨h1,h2⟩ | ⟨id1,o1,rfl,h1,hK,rfl⟩
  ·obtain⟨p1,cl,el,p2,p3,p4⟩:=g.obj id o h2
   rw[hβo id h1]
   refine⟨p1,cl,el,?_,p3,fun i e he=>⟨(p4 i e he).1,fun j a ha=>?_⟩⟩
   ·show c1.w.heap[c.β id]?=_
    rw[hblk _ (hlow id o h2)];exact p2
   ·obtain⟨x,hx,hr⟩:=(p4 i e he).2 j a ha
    exact⟨x,hx,hr.keeps hkeep⟩
  ·obtain⟨p1,cl,el,p2,p3,p4⟩:=g1.obj id1 o1 h1
   rw[hβs]
   refine⟨by rw[hB1] at p1;exact Nat.le_trans g.Bsize p1,cl,el,p2,by simpa[zW] using p3,fun i e he=>?_⟩
   obtain⟨e1,he1,rfl⟩:=cG (show (o1.els.map fun e=>e.map (shA c.n))[i]?=some e from he)
   obtain⟨q1,q2⟩:=p4 i e1 he1
   refine⟨by rw[List.length_map];exact q1,fun j a ha=>?_⟩
   obtain⟨b,hb,rfl⟩:=cG ha
   obtain⟨x,hx,hr⟩:=q2 j b hb
   exact⟨x,hx,hrep b x hr (hcl id1 o1 h1 hK e1 (List.mem_of_getElem? he1) b (List.mem_of_getElem? hb))⟩
def jD (Q:ag→ag→List Id→Prop):List ag→List ag→List Id→Prop
 | [],[],S=>S=[]
 | a::as1,b::bs,S=>∃ S1 S2,Q a b S1∧jD Q as1 bs S2∧S=S1++S2∧∀ i ∈ S1,i ∉ S2
 | _,_,_=>False
def gB (Q:ag→ag→List Id→Prop):List (List ag)→List (List ag)→List Id→Prop
 | [],[],S=>S=[]
 | a::as1,b::bs,S=>∃ S1 S2,jD Q a b S1∧gB Q as1 bs S2∧S=S1++S2∧∀ i ∈ S1,i ∉ S2
 | _,_,_=>False
def Own (H:ak):Nat→ag→ag→List Id→Prop
 | 0,a,b,S=>(a=b∧bJ a)∧S=[]
 | d+1,a,b,S=>((a=b∧bJ a)∧S=[])∨(∃ cs ds,a = .agg cs∧b = .agg ds∧jD (Own H d) cs ds S)∨(∃ cs ds,a = .tup cs∧b = .tup ds∧jD (Own H d) cs ds S) ∨
  (a = .v (.slice none 0 0)∧b = .list true []∧S=[]) ∨
  ∃ id o els T,a = .arr id o.els.length 0 o.els.length∧b = .list true els∧H id=some o∧gB (Own H d) o.els els T∧id ∉ T∧S=id::T
section
variable {Q Q':ag→ag→List Id→Prop}
theorem jD.mono:∀ {as1 bs:List ag} {S:List Id},jD Q as1 bs S→(∀ a b T,a ∈ as1→Q a b T→(∀ i ∈ T,i ∈ S)→Q' a b T)→jD Q' as1 bs S
 | [],[],S,h,_=>h
 | a::as1,b::bs,S,⟨S1,S2,h1,h2,h3,h4⟩,hq=>
  ⟨S1,S2,hq a b S1 (by simp) h1 (fun i hi=>by simp[h3,hi]),jD.mono h2 (fun x y T hx hxy hT=>hq x y T (by simp[hx]) hxy (fun i hi=>by simp[h3,hT i hi])),h3,h4⟩
theorem gB.mono:∀ {as1 bs:List (List ag)} {S:List Id},gB Q as1 bs S→(∀ e ∈ as1,∀ a b T,a ∈ e→Q a b T→(∀ i ∈ T,i ∈ S)→Q' a b T)→gB Q' as1 bs S
 | [],[],S,h,_=>h
 | a::as1,b::bs,S,⟨S1,S2,h1,h2,h3,h4⟩,hq=>
  ⟨S1,S2,jD.mono h1 (fun x y T hx hxy hT=>hq a (by simp) x y T hx hxy (fun i hi=>by simp[h3,hT i hi])),
   gB.mono h2 (fun e he x y T hx hxy hT=>hq e (by simp[he]) x y T hx hxy (fun i hi=>by simp[h3,hT i hi])),h3,h4⟩
theorem jD.len:∀ {as1 bs:List ag} {S:List Id},jD Q as1 bs S→as1.length=bs.length
 | [],[],_,_=>rfl
 | a::as1,b::bs,_,⟨_,_,_,h2,_,_⟩=>by simp[jD.len h2]
theorem gB.len:∀ {as1 bs:List (List ag)} {S:List Id},gB Q as1 bs S→as1.length=bs.length
 | [],[],_,_=>rfl
 | a::as1,b::bs,_,⟨_,_,_,h2,_,_⟩=>by simp[gB.len h2]
theorem jD.get:∀ {as1 bs:List ag} {S:List Id},jD Q as1 bs S→∀ (i:Nat) a b,as1[i]?=some a→bs[i]?=some b→∃ T,Q a b T∧∀ j ∈ T,j ∈ S
 | [],[],_,_,i,a,b,ha,_=>by simp at ha
 | x::as1,y::bs,S,⟨S1,S2,h1,h2,h3,_⟩,i,a,b,ha,hb=>by
  match i with
  | 0=>simp at ha hb;subst ha hb;exact⟨S1,h1,fun j hj=>by simp[h3,hj]⟩
  | i+1=>
   obtain⟨T,hT,hs⟩:=jD.get h2 i a b (by simpa using ha) (by simpa using hb)
   exact⟨T,hT,fun j hj=>by simp[h3,hs j hj]⟩
theorem gB.get:∀ {as1 bs:List (List ag)} {S:List Id},gB Q as1 bs S→∀ (i:Nat) a b,as1[i]?=some a→bs[i]?=some b→∃ T,jD Q a b T∧∀ j ∈ T,j ∈ S
 | [],[],_,_,i,a,b,ha,_=>by simp at ha
 | x::as1,y::bs,S,⟨S1,S2,h1,h2,h3,_⟩,i,a,b,ha,hb=>by
  match i with
  | 0=>simp at ha hb;subst ha hb;exact⟨S1,h1,fun j hj=>by simp[h3,hj]⟩
  | i+1=>
   obtain⟨T,hT,hs⟩:=gB.get h2 i a b (by simpa using ha) (by simpa using hb)
   exact⟨T,hT,fun j hj=>by simp[h3,hs j hj]⟩
end
theorem Own.ret {H:ak}:∀ {d:Nat} {a b:ag} {S:List Id},Own H d a b S→Ret H a b
 | 0,_,_,_,⟨⟨rfl,hF⟩,_⟩=>Ret.fresh hF
 | d+1,a,b,S,h=>by
  rcases h with ⟨⟨rfl,hF⟩,_⟩ | ⟨cs,ds,rfl,rfl,h⟩ | ⟨cs,ds,rfl,rfl,h⟩ | ⟨rfl,rfl,_⟩ | ⟨id,o,els,T,rfl,rfl,ho,h,hn,rfl⟩
  ·exact Ret.fresh hF
  ·exact .agg h.len fun i a b ha hb=>by obtain⟨T,hT,_⟩:=h.get i a b ha hb;exact Own.ret hT
  ·exact .tup h.len fun i a b ha hb=>by obtain⟨T,hT,_⟩:=h.get i a b ha hb;exact Own.ret hT
  ·exact .nil true
  ·have e:(o.els.drop 0).take o.els.length=o.els:=by simp
   refine .arr (o:=o) (by simp[live,ho]) (by rw[e];exact h.len) (fun i x y hx hy=>?_) (fun i x y j p q hx hy hp hq=>?_)
   ·rw[e] at hx
    obtain⟨T',hT,_⟩:=h.get i x y hx hy
    exact hT.len
   ·rw[e] at hx
    obtain⟨T',hT,_⟩:=h.get i x y hx hy
    obtain⟨T2,hT2,_⟩:=hT.get j p q hp hq
    exact Own.ret hT2
section
variable {Q Q':ag→ag→List Id→Prop}
theorem jD.mem {i:Id}:∀ {as1 bs:List ag} {S:List Id},jD Q as1 bs S→i ∈ S→∃ a ∈ as1,∃ b ∈ bs,∃ T,Q a b T∧i ∈ T∧∀ j ∈ T,j ∈ S
 | [],[],S,h,hi=>by rw[show S=[] from h] at hi;cases hi
 | x::as1,y::bs,S,⟨S1,S2,h1,h2,h3,_⟩,hi=>by
  rw[h3] at hi
  rcases List.mem_append.1 hi with hi | hi
  ·exact⟨x,by simp,y,by simp,S1,h1,hi,fun j hj=>by simp[h3,hj]⟩
  ·obtain⟨a,ha,b,hb,T,hT,hiT,hs⟩:=jD.mem h2 hi
   exact⟨a,by simp[ha],b,by simp[hb],T,hT,hiT,fun j hj=>by simp[h3,hs j hj]⟩
theorem gB.mem {i:Id}:∀ {as1 bs:List (List ag)} {S:List Id},gB Q as1 bs S→i ∈ S→∃ e ∈ as1,∃ a ∈ e,∃ f ∈ bs,∃ b ∈ f,∃ T,Q a b T∧i ∈ T∧∀ j ∈ T,j ∈ S
 | [],[],S,h,hi=>by rw[show S=[] from h] at hi;cases hi
 | x::as1,y::bs,S,⟨S1,S2,h1,h2,h3,_⟩,hi=>by
  rw[h3] at hi
  rcases List.mem_append.1 hi with hi | hi
  ·obtain⟨a,ha,b,hb,T,hT,hiT,hs⟩:=h1.mem hi
   exact⟨x,by simp,a,ha,y,by simp,b,hb,T,hT,hiT,fun j hj=>by simp[h3,hs j hj]⟩
  ·obtain⟨e,he,a,ha,f,hf,b,hb,T,hT,hiT,hs⟩:=gB.mem h2 hi
   exact⟨e,by simp[he],a,ha,f,by simp[hf],b,hb,T,hT,hiT,fun j hj=>by simp[h3,hs j hj]⟩
end
theorem Mv.mono {K K':Id→Prop} (h:∀ i,K i→K' i) {a:ag} (m:Mv K a):Mv K' a:=by
 induction m with
 | v x=>exact .v x
 | agg cs _ ih=>exact .agg cs ih
 | tup cs _ ih=>exact .tup cs ih
 | list els _ ih=>exact .list els ih
 | arr id g off len hk=>exact .arr id g off len (h id hk)
 | ptr id g idx off hk=>exact .ptr id g idx off (h id hk)
theorem bJ.mv {K:Id→Prop} {a:ag} (h:bJ a):Mv K a:=by
 induction h with
 | v x=>exact .v x
 | agg cs _ ih=>exact .agg cs ih
 | tup cs _ ih=>exact .tup cs ih
 | list els _ ih=>exact .list els ih
theorem bJ.sh {n:Nat} {a:ag} (h:bJ a):shA n a=a:=by
 have fix:∀ {l:List ag},(∀ a ∈ l,shA n a=a)→l.map (shA n)=l:=fun {l} h=>by
  conv=>rhs;rw[← List.map_id l]
  exact List.map_congr_left h
 induction h with
 | v x=>exact En n x
 | agg cs _ ih=>rw[vX,fix ih]
 | tup cs _ ih=>rw[u5,fix ih]
 | list els _ ih=>
  rw[xt]
  congr 1
  conv=>rhs;rw[← List.map_id els]
  exact List.map_congr_left fun e he=>fix (ih e he)
theorem bJ.imm {a:ag} (h:bJ a):Imm a:=by
 induction h with
 | v x=>exact .v x
 | agg cs _ ih=>exact .agg cs ih
 | tup cs _ ih=>exact .tup cs ih
 | list els _ ih=>exact .list true els ih
theorem Own.mv {H:ak}:∀ {d:Nat} {a b:ag} {S:List Id},Own H d a b S→Mv (fun i=>i ∈ S) a
 | 0,_,_,_,⟨⟨rfl,hF⟩,_⟩=>bJ.mv hF
 | d+1,a,b,S,h=>by
  rcases h with ⟨⟨rfl,hF⟩,_⟩ | ⟨cs,ds,rfl,rfl,h⟩ | ⟨cs,ds,rfl,rfl,h⟩ | ⟨rfl,rfl,_⟩ | ⟨id,o,els,T,rfl,rfl,ho,h,hn,rfl⟩
  ·exact bJ.mv hF
  ·refine .agg _ fun a ha=>?_
   obtain⟨i,hi⟩:=List.getElem?_of_mem ha
   obtain⟨b,hb⟩:=aY (l:=ds) (i:=i) (by rw[← h.len];exact (List.getElem?_eq_some_iff.1 hi).1)
   obtain⟨T,hT,hs⟩:=h.get i a b hi hb
   exact (Own.mv hT).mono hs
  ·refine .tup _ fun a ha=>?_
   obtain⟨i,hi⟩:=List.getElem?_of_mem ha
   obtain⟨b,hb⟩:=aY (l:=ds) (i:=i) (by rw[← h.len];exact (List.getElem?_eq_some_iff.1 hi).1)
   obtain⟨T,hT,hs⟩:=h.get i a b hi hb
   exact (Own.mv hT).mono hs
  ·exact .v _
  ·exact .arr _ _ _ _ (by simp)
theorem Own.cells {H:ak}:∀ {d:Nat} {a b:ag} {S:List Id},Own H d a b S→∀ id o,H id=some o→id ∈ S→∀ e ∈ o.els,∀ x ∈ e,Mv (fun i=>i ∈ S) x
 | 0,_,_,_,⟨_,hS⟩,id,o,_,hi=>by rw[hS] at hi;cases hi
 | d+1,a,b,S,h,id,o,ho,hi=>by
  rcases h with ⟨_,rfl⟩ | ⟨cs,ds,rfl,rfl,h⟩ | ⟨cs,ds,rfl,rfl,h⟩ | ⟨_,_,rfl⟩ | ⟨id',o',els,T,rfl,rfl,ho',h,hn,rfl⟩
  ·cases hi
  ·obtain⟨a,_,b,_,T,hT,hiT,hs⟩:=h.mem hi
   exact fun e he x hx=>(Own.cells hT id o ho hiT e he x hx).mono hs
  ·obtain⟨a,_,b,_,T,hT,hiT,hs⟩:=h.mem hi
   exact fun e he x hx=>(Own.cells hT id o ho hiT e he x hx).mono hs
  ·cases hi
  ·rcases List.mem_cons.1 hi with rfl | hi
   ·rw[ho] at ho'
    cases ho'
    intro e he x hx
    obtain⟨i,hi⟩:=List.getElem?_of_mem he
    obtain⟨f,hf⟩:=aY (l:=els) (i:=i) (by rw[← h.len];exact (List.getElem?_eq_some_iff.1 hi).1)
    obtain⟨T',hT,hs⟩:=h.get i e f hi hf
    obtain⟨j,hj⟩:=List.getElem?_of_mem hx
    obtain⟨y,hy⟩:=aY (l:=f) (i:=j) (by rw[← hT.len];exact (List.getElem?_eq_some_iff.1 hj).1)
    obtain⟨T2,hT2,hs2⟩:=hT.get j x y hj hy
    exact (Own.mv hT2).mono fun i hi=>by simp[hs i (hs2 i hi)]
   ·obtain⟨e',_,a,_,f,_,b,_,T',hT,hiT,hs⟩:=h.mem hi
    exact fun e he x hx=>(Own.cells hT id o ho hiT e he x hx).mono fun i hi=>by simp[hs i hi]
theorem rW (n:Nat) (i j:Id) (h:dP n i=dP n j):i=j:=by
 obtain⟨a,b⟩:=i
 obtain⟨c,d⟩:=j
 simp[dP] at h
 ext
 ·simp;omega
 ·simp[h.2]
theorem Own.imm {H:ak}:∀ {d:Nat} {a b:ag} {S:List Id},Own H d a b S→Imm b
 | 0,_,_,_,⟨⟨rfl,hF⟩,_⟩=>hF.imm
 | d+1,a,b,S,h=>by
  rcases h with ⟨⟨rfl,hF⟩,_⟩ | ⟨cs,ds,rfl,rfl,h⟩ | ⟨cs,ds,rfl,rfl,h⟩ | ⟨rfl,rfl,_⟩ | ⟨id,o,els,T,rfl,rfl,ho,h,hn,rfl⟩
  ·exact hF.imm
  ·refine .agg _ fun b hb=>?_
   obtain⟨i,hi⟩:=List.getElem?_of_mem hb
   obtain⟨a,ha⟩:=aY (l:=cs) (i:=i) (by rw[h.len];exact (List.getElem?_eq_some_iff.1 hi).1)
   obtain⟨T,hT,_⟩:=h.get i a b ha hi
   exact Own.imm hT
  ·refine .tup _ fun b hb=>?_
   obtain⟨i,hi⟩:=List.getElem?_of_mem hb
   obtain⟨a,ha⟩:=aY (l:=cs) (i:=i) (by rw[h.len];exact (List.getElem?_eq_some_iff.1 hi).1)
   obtain⟨T,hT,_⟩:=h.get i a b ha hi
   exact Own.imm hT
  ·exact .list _ _ (by simp)
  ·refine .list _ _ fun f hf y hy=>?_
   obtain⟨i,hi⟩:=List.getElem?_of_mem hf
   obtain⟨e,he⟩:=aY (l:=o.els) (i:=i) (by rw[h.len];exact (List.getElem?_eq_some_iff.1 hi).1)
   obtain⟨T',hT,_⟩:=h.get i e f he hi
   obtain⟨j,hj⟩:=List.getElem?_of_mem hy
   obtain⟨x,hx⟩:=aY (l:=e) (i:=j) (by rw[hT.len];exact (List.getElem?_eq_some_iff.1 hj).1)
   obtain⟨T2,hT2,_⟩:=hT.get j x y hx hj
   exact Own.imm hT2
theorem aF.own {H:ak} {n d:Nat} {a b:ag} {S:List Id} (h:Own H d a b S):aF H n a (old b):=by
 intro c x hH hn g r c' hw hc
 subst hH
 have r2:Rep ⟨0,fun _=>0,bc,0,c.w⟩ b x:=Rep.ret (c':=⟨0,fun _=>0,bc,0,c.w⟩) g rfl (by rintro k ⟨id,o,ho,_⟩;cases ho) (Nat.zero_le _) h.ret r
 exact Rep.old (c:=⟨0,fun _=>0,bc,0,c.w⟩) hw hc r2 h.imm
end Go.Ab
/- The abstract machine, part Tb: contracts whose result the caller owns, and how a script shows one. -/
namespace Go.Ab
section
variable {P:Program} {f:FuncId} {N:Nat} {k:List Item} {Q:ag→ak→Nat→Prop} {Ty:Types} {l:List Oper} {ρ:Env} {H:ak} {n:Nat}
theorem aG.FD (hT:aU P Ty) {d:Option Tmp} {g:Operand} {args:Array Operand} {ats:Array TypeId} {ty:TypeId} {pos:String} {af:Array Edge} {post:ag→ak→Nat→Prop} {f':FuncId} {as1:List ag} {ops:List Oper}
  (h:bw P f' as1 H n post) (hent:Ent P f')
  (hN:ops.all (fun o=>dok N o.dst)=true) (hl:(⟨d,.call ⟨.value g,args,ats⟩,ty,pos,af,none⟩::l:List Oper).all (fun o=>dok N o.dst)=true) (hg:ρ.ev g = .fn (.func f') [] []) (has:args.toList.map ρ.ev=as1)
  (hk:∀ v H1 n1,post v H1 n1→ct P f N k Q Ty ops.toArray l (ρ.put d v) H1 n1) :
  aG P f N k Q ops.toArray (⟨d,.call ⟨.value g,args,ats⟩,ty,pos,af,none⟩::l) ρ H n:=
 aG.op hT hN hl rfl (aN.call hg hent (by simpa[has] using h)) hk
end
end Go.Ab
/- The abstract machine, part Tc: functions that turn a caller's own arrays; arrays that are turned from the left. -/
namespace Go.Ab
theorem aa.cut {P:Program} {f:FuncId} {N:Nat} {k:List Item} {ρ:Env} {H:ak} {n:Nat} {Q:ag→ak→Nat→Prop} (I:Env→ak→Nat→Prop) (h0:I ρ H n) (h:∀ ρ H n,I ρ H n→aa P f N k ρ H n Q):aa P f N k ρ H n Q:=h _ _ _ h0
theorem aS {fr:Bool} {els:List (List ag)} (h:∀ e ∈ els,∀ a ∈ e,flat a=true):old (.list fr els) = .list false els:=by rw[gf,dN h]
theorem bw.of {P:Program} {f:FuncId} {fn:Func} {body:Code} {args:List ag} {H:ak} {n N:Nat} {Q0:ag→ak→Nat→Prop} (hfn:P.funcs[f]?=some fn) (hb:fn.body=some body) (hn:fn.ntmps=N) (hN:args.length≤N)
  (h:∀ Q:ag→ak→Nat→Prop,(∀ v H1 n1,Q0 v H1 n1→Q v H1 n1)→aa P f N [.code body] (iI args) H n Q):bw P f args H n Q0:=by
 subst hn
 exact bw.o3 hfn hb hN (h Q0 fun _ _ _ h=>h)
section
variable {row:Nat→List ag} {els:List (List ag)} {k:Nat}
end
end Go.Ab
/- The abstract machine, part Td: functions whose results may share cells with their arguments; what they have made besides is dropped. -/
namespace Go.Ab
def Sub (a b:ag):Prop:=∀ (c:Ctx) (x:Value),Rep c a x→Rep c b x
theorem Sub.refl (a:ag):Sub a a:=fun _ _ h=>h
inductive xE:List ag→List ag→Prop
 | nil:xE [] []
 | cons {a b:ag} {as1 bs:List ag} (h:Sub a b) (t:xE as1 bs):xE (a::as1) (b::bs)
theorem xE.get {as1 bs:List ag} (h:xE as1 bs):as1.length=bs.length∧∀ (i:Nat) (a b:ag),as1[i]?=some a→bs[i]?=some b→Sub a b:=by
 induction h with
 | nil=>exact⟨rfl,by simp⟩
 | cons h _ ih=>
  refine⟨by simp[ih.1],fun i a b ha hb=>?_⟩
  cases i with
  | zero=>simp at ha hb;rw[← ha,← hb];exact h
  | succ i=>exact ih.2 i a b (by simpa using ha) (by simpa using hb)
theorem bw.sub {P:Program} {f:FuncId} {as1 bs:List ag} {H:ak} {n:Nat} {Q:ag→ak→Nat→Prop} (hs:xE as1 bs) (h:bw P f bs H n Q):bw P f as1 H n Q:=fun c xs hH hn g r=>by
 obtain⟨h1,h2⟩:=hs.get
 refine h c xs hH hn g ⟨by rw[← h1];exact r.1,fun i b x hb hx=>?_⟩
 have hi:=(List.getElem?_eq_some_iff.1 hb).1
 obtain⟨a,ha⟩:=aY (l:=as1) (i:=i) (by omega)
 exact h2 i a b ha hb c x (r.2 i a x ha hx)
inductive Bnd (n:Nat):ag→Prop
 | undef:Bnd n .undef
 | v (x:Value):Bnd n (.v x)
 | agg (cs:List ag) (h:∀ a ∈ cs,Bnd n a):Bnd n (.agg cs)
 | tup (cs:List ag) (h:∀ a ∈ cs,Bnd n a):Bnd n (.tup cs)
 | list (fr:Bool) (els:List (List ag)) (h:∀ e ∈ els,∀ a ∈ e,Bnd n a):Bnd n (.list fr els)
 | arr (id:Id) (g off len:Nat) (h:id.1<n):Bnd n (.arr id g off len)
 | ptr (id:Id) (g idx off:Nat) (h:id.1<n):Bnd n (.ptr id g idx off)
 | iptr (fr:Bool) (cs:List ag) (h:∀ a ∈ cs,Bnd n a):Bnd n (.iptr fr cs)
 | fn (f:Fn) (first captured:List ag) (h:∀ a ∈ first,Bnd n a) (h':∀ a ∈ captured,Bnd n a):Bnd n (.fn f first captured)
 | iface (t:TypeId) (a:ag) (h:Bnd n a):Bnd n (.iface t a)
 | clip (fr:Bool) (els:List (List Value)):Bnd n (.clip fr els)
theorem oy {as1:List ag} {xs:List Value} (hl:as1.length=xs.length) {a:ag} (ha:a ∈ as1):∃ (i:Nat) (x:Value),as1[i]?=some a∧xs[i]?=some x:=by
 obtain⟨i,hi⟩:=List.getElem?_of_mem ha
 have h1:=(List.getElem?_eq_some_iff.1 hi).1
 exact⟨i,xs[i]'(by omega),hi,List.getElem?_eq_getElem (by omega)⟩
theorem Rep.bnd {c:Ctx} {a:ag} {x:Value} (r:Rep c a x):Bnd c.n a:=by
 induction r with
 | undef=>exact .undef
 | v x=>exact .v x
 | agg cs vs hl _ ih=>exact .agg _ fun a ha=>by obtain⟨i,x,h1,h2⟩:=oy hl ha;exact ih i a x h1 h2
 | tup cs vs hl _ ih=>exact .tup _ fun a ha=>by obtain⟨i,x,h1,h2⟩:=oy hl ha;exact ih i a x h1 h2
 | lnil fr=>exact .list _ _ (by simp)
 | list fr els a cap sz cell hs hcap hm hsz hc _ ih=>
  refine .list _ _ fun e he y hy=>?_
  obtain⟨i,hi⟩:=List.getElem?_of_mem he
  obtain⟨j,hj⟩:=List.getElem?_of_mem hy
  exact ih i e j y hi hj
 | arr id gen off len x h1 hn hg h=>exact .arr _ _ _ _ hn
 | ptr id gen idx off x h1 hn hg h=>exact .ptr _ _ _ _ hn
 | iptr fr cs a cell hs hm hb hf hc _ ih=>
  refine .iptr _ _ fun y hy=>?_
  obtain⟨j,hj⟩:=List.getElem?_of_mem hy
  exact ih j y hj
 | fn f first captured vs us hl hl' _ _ ih ih'=>
  exact .fn _ _ _ (fun a ha=>by obtain⟨i,x,h1,h2⟩:=oy hl ha;exact ih i a x h1 h2) (fun a ha=>by obtain⟨i,x,h1,h2⟩:=oy hl' ha;exact ih' i a x h1 h2)
 | iface t a x _ ih=>exact .iface _ _ ih
 | clip fr els x hf _ ih=>exact .clip _ _
def Ctx.cut (c:Ctx) (n:Nat):Ctx:={ c with H:=fun i=>if i.1<n then c.H i else none,n:=n }
theorem Ctx.lS {c:Ctx} {n:Nat} {i:Id} {o:Ob} (h:(c.cut n).H i=some o):i.1<n∧c.H i=some o:=by
 simp only[Ctx.cut] at h
 split at h
 ·exact⟨by assumption,h⟩
 ·cases h
theorem Ctx.Aq {c:Ctx} {n k:Nat} (h:(c.cut n).mu k):c.mu k:=by
 obtain⟨i,o,h1,h2⟩:=h
 exact⟨i,o,(Ctx.lS h1).2,h2⟩
theorem Rep.cut {c:Ctx} {n:Nat} {a:ag} {x:Value} (r:Rep c a x):Bnd n a→Rep (c.cut n) a x:=by
 induction r with
 | undef x=>intro _;exact .undef x
 | v x=>intro _;exact .v x
 | agg cs vs hl _ ih=>intro h;cases h with | agg _ h=>exact .agg _ vs hl fun i a x ha hx=>ih i a x ha hx (h a (List.mem_of_getElem? ha))
 | tup cs vs hl _ ih=>intro h;cases h with | tup _ h=>exact .tup _ vs hl fun i a x ha hx=>ih i a x ha hx (h a (List.mem_of_getElem? ha))
 | lnil fr=>intro _;exact .lnil fr
 | list fr els a cap sz cell hs hcap hm hsz hc _ ih=>
  intro h
  cases h with
  | list _ _ h=>exact .list fr els a cap sz cell hs hcap (fun hne=>⟨fun hmu=>(hm hne).1 (Ctx.Aq hmu),(hm hne).2.1,(hm hne).2.2⟩) hsz hc fun i e j y he hy=>ih i e j y he hy (h e (List.mem_of_getElem? he) y (List.mem_of_getElem? hy))
 | arr id gen off len x h1 hn hg h=>
  intro hb
  cases hb with
  | arr _ _ _ _ hlt=>exact .arr id gen off len x h1 hlt (fun o ho=>hg o (Ctx.lS ho).2) (fun o ho hgen=>h o (Ctx.lS ho).2 hgen)
 | ptr id gen idx off x h1 hn hg h=>
  intro hb
  cases hb with
  | ptr _ _ _ _ hlt=>exact .ptr id gen idx off x h1 hlt (fun o ho=>hg o (Ctx.lS ho).2) (fun o ho hgen=>h o (Ctx.lS ho).2 hgen)
 | iptr fr cs a cell hs hm hb hf hc _ ih=>
  intro h
  cases h with
  | iptr _ _ h=>exact .iptr fr cs a cell hs (fun hmu=>hm (Ctx.Aq hmu)) hb hf hc fun j y hy=>ih j y hy (h y (List.mem_of_getElem? hy))
 | fn f first captured vs us hl hl' _ _ ih ih'=>
  intro h
  cases h with
  | fn _ _ _ h h'=>exact .fn f first captured vs us hl hl' (fun i a x ha hx=>ih i a x ha hx (h a (List.mem_of_getElem? ha))) (fun i a x ha hx=>ih' i a x ha hx (h' a (List.mem_of_getElem? ha)))
 | iface t a x _ ih=>intro h;cases h with | iface _ _ h=>exact .iface t a x (ih h)
 | clip fr els x hf _ ih=>intro h;exact .clip fr els x hf (ih (.list _ _ fun e he a ha=>by obtain⟨y,_,rfl⟩:=List.mem_map.1 he;obtain⟨z,_,rfl⟩:=List.mem_map.1 ha;exact .v _))
inductive ln (H:ak) (n:Nat):ag→ag→Prop
 | bnd {a:ag} (h:Bnd n a):ln H n a a
 | agg {cs ds:List ag} (hl:cs.length=ds.length) (h:∀ (i:Nat) (a b:ag),cs[i]?=some a→ds[i]?=some b→ln H n a b):ln H n (.agg cs) (.agg ds)
 | tup {cs ds:List ag} (hl:cs.length=ds.length) (h:∀ (i:Nat) (a b:ag),cs[i]?=some a→ds[i]?=some b→ln H n a b):ln H n (.tup cs) (.tup ds)
 | nil (fr:Bool):ln H n (.v (.slice none 0 0)) (.list fr [])
 | arr {id:Id} {g off len:Nat} {o:Ob} {fls:List (List ag)} (hlv:live H id g=some o) (hid:n≤id.1) (hl:((o.els.drop off).take len).length=fls.length)
   (hl':∀ (i:Nat) (e f:List ag),((o.els.drop off).take len)[i]?=some e→fls[i]?=some f→e.length=f.length)
   (h:∀ (i:Nat) (e f:List ag) (j:Nat) (a b:ag),((o.els.drop off).take len)[i]?=some e→fls[i]?=some f→e[j]?=some a→f[j]?=some b→ln H n a b):ln H n (.arr id g off len) (.list true fls)
theorem Rep.Jp {c:Ctx} {n:Nat} (g:Good c) {a b:ag} (r:ln c.H n a b):∀ {x:Value},Rep c a x→Rep (c.cut n) b x:=by
 induction r with
 | bnd h=>intro x hx;exact hx.cut h
 | agg hl _ ih=>
  intro x hx
  cases hx with
  | agg _ vs hl' hr=>
  refine .agg _ vs (by omega) fun i b x hb hx=>?_
  have hi:=(List.getElem?_eq_some_iff.1 hb).1
  obtain⟨a,ha⟩:=aY (l:=_) (i:=i) (by rw[hl];exact hi)
  exact ih i a b ha hb (hr i a x ha hx)
 | tup hl _ ih=>
  intro x hx
  cases hx with
  | tup _ vs hl' hr=>
  refine .tup _ vs (by omega) fun i b x hb hx=>?_
  have hi:=(List.getElem?_eq_some_iff.1 hb).1
  obtain⟨a,ha⟩:=aY (l:=_) (i:=i) (by rw[hl];exact hi)
  exact ih i a b ha hb (hr i a x ha hx)
 | nil fr=>intro x hx;rw[hx.bS];exact .lnil fr
 | @arr id gen off len o fls hlv hid hl hl' _ ih=>
  intro x hx
  obtain⟨l1,l2⟩:=dK hlv
  cases hx with
  | arr _ _ _ _ _ hone hn hg hp=>
  obtain⟨p1,⟨b,aoff,sp⟩,cap,rfl,hab,hsp,hlc,hoff,hcl⟩:=hp o l1 l2
  simp only at hab hsp hoff
  subst hab hsp
  obtain⟨hB,cl,el,hcell,hfit,hel⟩:=g.obj id o l1
  have hlen:((o.els.drop off).take len).length=len:=by simp;omega
  have hget:∀ (i:Nat) (e:List ag),((o.els.drop off).take len)[i]?=some e→i<len∧o.els[off+i]?=some e:=by
   intro i e he
   rw[List.getElem?_take] at he
   split at he
   ·rename_i hi
    rw[List.getElem?_drop] at he
    exact⟨hi,he⟩
   ·cases he
  have key:∀ (i:Nat) (f:List ag) (j:Nat) (y:ag),fls[i]?=some f→f[j]?=some y→∃ e z u,((o.els.drop off).take len)[i]?=some e∧e[j]?=some z∧cl[(off+i) * o.size+j]?=some u∧Rep c z u∧aoff=off * o.size:=by
   intro i f j y hf hy
   have hi:=(List.getElem?_eq_some_iff.1 hf).1
   obtain⟨e,he⟩:=aY (l:=(o.els.drop off).take len) (i:=i) (by omega)
   have hej:=hl' i e f he hf
   obtain⟨z,hz⟩:=aY (l:=e) (i:=j) (by rw[hej];exact (List.getElem?_eq_some_iff.1 hy).1)
   obtain⟨hi2,he2⟩:=hget i e he
   obtain⟨u,hu,hr⟩:=(hel _ _ he2).2 j z hz
   refine⟨e,z,u,he,hz,hu,hr,?_⟩
   rcases hoff with h | h
   ·exact h
   ·omega
  have:=Rep.list (c:=c.cut n) true fls ⟨c.β id,aoff,none⟩ cap o.size (fun i j=>cl.getD ((off+i) * o.size+j) Go.undef) (fun _=>rfl) (by omega) (fun _=>⟨?_,g.lt l1,fun _=>hB⟩) (fun i f hf=>?_) (fun i f j y hf hy=>?_) (fun i f j y hf hy=>?_)
  ·rw[← hl,hlen] at this;exact this
  ·rintro⟨i,o',h1,h2⟩
   obtain⟨h3,h4⟩:=Ctx.lS h1
   have:=g.inj i id o' o h4 l1 h2
   subst this
   omega
  ·have hi:=(List.getElem?_eq_some_iff.1 hf).1
   obtain⟨e,he⟩:=aY (l:=(o.els.drop off).take len) (i:=i) (by omega)
   rw[← hl' i e f he hf]
   exact (hel _ _ (hget i e he).2).1
  ·obtain⟨e,z,u,he,hz,hu,hr,hao⟩:=key i f j y hf hy
   rw[hao,← Nat.add_assoc,← Nat.add_mul]
   simp[Ctx.cut,World.cell?,hcell,hu,Array.getD_eq_getD_getElem?]
  ·obtain⟨e,z,u,he,hz,hu,hr,hao⟩:=key i f j y hf hy
   rw[Array.getD_eq_getD_getElem?,hu]
   exact ih i e f j z y he hf hz hy hr
def Frame (n:Nat) (H H1:ak):Prop:=∀ i:Id,i.1<n→H1 i=H i
theorem Frame.refl (n:Nat) (H:ak):Frame n H H:=fun _ _=>rfl
theorem Frame.set {n:Nat} {H H1:ak} {id:Id} {o:Ob} (hid:n≤id.1) (h:Frame n H H1):Frame n H (H1.set id o):=fun i hi=>by
 rw[ak.aQ _ _ (by rintro rfl;omega)]
 exact h i hi
theorem bw.drop {P:Program} {f:FuncId} {args:List ag} {H:ak} {n:Nat} {R:ag→Prop} (h:bw P f args H n (fun v H1 _=>∃ r,ln H1 n v r∧Frame n H H1∧R r)):bw P f args H n (fun v H1 n1=>R v∧H1=H∧n1=n):=by
 intro c xs hH hn g r
 refine (h c xs hH hn g r).mono ?_
 rintro e w' ⟨x,v,c1,he,hw,⟨r',hret,hfr,hR⟩,hrep,hg1,hk⟩
 subst hH hn
 refine⟨x,r',c1.cut c.n,he,hw,⟨hR,?_,rfl⟩,hrep.Jp hg1 hret,⟨fun id o ho=>(Ctx.lS ho).1,fun id id' o o' ho ho' hb=>hg1.inj id id' o o' (Ctx.lS ho).2 (Ctx.lS ho').2 hb,hg1.Bsize,fun id o ho=>?_⟩,?_⟩
 ·funext i
  simp only[Ctx.cut]
  split
  ·rename_i h;exact hfr i h
  ·rename_i h
   cases hc:c.H i with
   | none=>rfl
   | some o=>exact absurd (g.stamp i o hc) h
 ·obtain⟨h1,h2⟩:=Ctx.lS ho
  obtain⟨p1,cl,el,p2,p3,p4⟩:=hg1.obj id o h2
  refine⟨p1,cl,el,p2,p3,fun i e he=>⟨(p4 i e he).1,fun j a ha=>?_⟩⟩
  obtain⟨y,hy,hr⟩:=(p4 i e he).2 j a ha
  refine⟨y,hy,hr.cut ?_⟩
  rw[hfr id h1] at h2
  obtain⟨_,cl0,el0,_,_,q4⟩:=g.obj id o h2
  obtain⟨y0,_,hr0⟩:=(q4 i e he).2 j a ha
  exact hr0.bnd
 ·exact⟨Nat.le_refl _,hk.B,hk.size,hk.os,hk.tape,hk.output,fun k hlt hm=>⟨(hk.imm k hlt hm).1,fun h=>(hk.imm k hlt hm).2 (Ctx.Aq h)⟩,fun id o' ho hid=>hk.obj id o' (Ctx.lS ho).2 hid⟩
def jG (P:Program) (f:FuncId) (args:List ag) (R:ag→Prop):Prop:=∀ H n,bw P f args H n (fun v H1 n1=>R v∧H1=H∧n1=n)
def Gn (n:Nat) (H:ak):Prop:=∀ i o,H i=some o→i.1<n∧∀ e ∈ o.els,∀ a ∈ e,Bnd n a
theorem bw.bnd {P:Program} {f:FuncId} {args:List ag} {H:ak} {n:Nat} {Q:ag→ak→Nat→Prop} (h:Gn n H→bw P f args H n Q):bw P f args H n Q:=by
 intro c xs hH hn g r
 refine h (fun i o ho=>?_) c xs hH hn g r
 subst hH hn
 refine⟨g.stamp i o ho,fun e he a ha=>?_⟩
 obtain⟨j,hj⟩:=List.getElem?_of_mem he
 obtain⟨q,hq⟩:=List.getElem?_of_mem ha
 obtain⟨_,cl,el,_,_,h4⟩:=g.obj i o ho
 obtain⟨x,_,hr⟩:=(h4 j e hj).2 q a hq
 exact hr.bnd
theorem jG.of {P:Program} {f:FuncId} {fn:Func} {body:Code} {args:List ag} {N:Nat} {R:ag→Prop} (hfn:P.funcs[f]?=some fn) (hb:fn.body=some body) (hn:fn.ntmps=N) (hN:args.length≤N)
  (h:∀ H n Q,Gn n H→(∀ v H1 n1 r,ln H1 n v r→Frame n H H1→R r→Q v H1 n1)→aa P f N [.code body] (iI args) H n Q):jG P f args R:=fun H n=>
 bw.bnd fun hB=>bw.drop (bw.of hfn hb hn hN fun Q hQ=>h H n Q hB fun v H1 n1 r h1 h2 h3=>hQ v H1 n1 ⟨r,h1,h2,h3⟩)
theorem jG.mono {P:Program} {f:FuncId} {args:List ag} {R R':ag→Prop} (h:jG P f args R) (hr:∀ v,R v→R' v):jG P f args R':=fun H n=>bw.mono (h H n) fun _ _ _ ⟨h1,h2⟩=>⟨hr _ h1,h2⟩
section
variable {P:Program} {f:FuncId} {N:Nat} {k:List Item} {Q:ag→ak→Nat→Prop} {Ty:Types} {l:List Oper} {ρ:Env} {H:ak} {n:Nat}
theorem aG.Hw (hT:aU P Ty) {d:Option Tmp} {g:Operand} {args:Array Operand} {ats:Array TypeId} {ty:TypeId} {pos:String} {af:Array Edge} {R:ag→Prop} {f':FuncId} {as1 bs:List ag} {ops:List Oper}
  (h:jG P f' bs R) (hent:Ent P f') (hs:xE as1 bs)
  (hN:ops.all (fun o=>dok N o.dst)=true) (hl:(⟨d,.call ⟨.value g,args,ats⟩,ty,pos,af,none⟩::l:List Oper).all (fun o=>dok N o.dst)=true) (hg:ρ.ev g = .fn (.func f') [] []) (has:args.toList.map ρ.ev=as1)
  (hk:∀ v,R v→ct P f N k Q Ty ops.toArray l (ρ.put d v) H n) :
  aG P f N k Q ops.toArray (⟨d,.call ⟨.value g,args,ats⟩,ty,pos,af,none⟩::l) ρ H n:=
 aG.FD hT (bw.sub hs (h H n)) hent hN hl hg has fun v H1 n1 ⟨h1,h2,h3⟩=>by subst h2 h3;exact hk v h1
end
def dO (Ty:Types) (H:ak) (ρ:Env):ResultVar→Option ag
 | .tmp t=>some (ρ t)
 | .cell t ty=>match Ty ty,cR H (ρ t) with
  | some i,some cs=>lL i cs
  | _,_=>none
theorem aK.Jo {P:Program} {Ty:Types} (hT:aU P Ty) {N:Nat} {fn:Func} {ρ:Env} {H:ak} {n:Nat} {r1 r2:ResultVar} {v1 v2:ag} (h:fn.results=#[r1,r2]) (h1:dO Ty H ρ r1=some v1) (h2:dO Ty H ρ r2=some v2):aK P N fn ρ H n (.tup [v1,v2]):=by
 intro c a hH hn g r
 subst hH
 have cell:∀ {t:Tmp} {ty:TypeId} {v:ag},dO Ty c.H ρ (.cell t ty)=some v→∃ x p y,a.tmps[t]?.getD undef=x∧(asAddr x).run P c.w = .ok p c.w∧(loadVar ty p).run P c.w = .ok y c.w∧Rep c v y:=by
  intro t ty v hv
  simp only[dO] at hv
  split at hv
  ·rename_i i cs hi hvw
   obtain⟨b,off,hx,hview⟩:=jZ g (r.rep t) hvw
   obtain⟨y,hrun,hrep⟩:=lp (hT ty i hi) hview hv
   rw[Array.getD_eq_getD_getElem?] at hx
   exact⟨_,_,y,hx,by simp[asAddr],hrun,hrep⟩
  ·cases hv
 have hx:∃ x1 x2,(results fn a.tmps).run P c.w = .ok (.tuple [x1,x2].toArray) c.w∧Rep c v1 x1∧Rep c v2 x2:=by
  cases r1 with
  | tmp t=>
   cases h1
   cases r2 with
   | tmp u=>cases h2;exact⟨a.tmps.getD t undef,a.tmps.getD u undef,by simp[results,h],r.rep t,r.rep u⟩
   | cell u ty=>obtain⟨x,p,y,e,k,l,q⟩:=cell h2;exact⟨a.tmps.getD t undef,y,by simp[results,h,e,k,l],r.rep t,q⟩
  | cell t ty=>
   obtain⟨x,p,y,e,k,l,q⟩:=cell h1
   cases r2 with
   | tmp u=>cases h2;exact⟨y,a.tmps.getD u undef,by simp[results,h,e,k,l],q,r.rep u⟩
   | cell u ty'=>obtain⟨x',p',y',e',k',l',q'⟩:=cell h2;exact⟨y,y',by simp[results,h,e,k,l,e',k',l'],q,q'⟩
 obtain⟨x1,x2,hrun,q1,q2⟩:=hx
 refine⟨.tuple [x1,x2].toArray,hrun,.tup _ _ rfl fun i b x hb hx=>?_⟩
 ·match i with
  | 0=>simp at hb hx;rw[← hb,← hx];exact q1
  | 1=>simp at hb hx;rw[← hb,← hx];exact q2
  | i+2=>simp at hb
theorem td (s:Str) (a b:Nat):(ByteArray.mk s.toArray).extract a b=ByteArray.mk ((s.drop a).take (b - a)).toArray:=by
 apply ByteArray.ext
 apply Array.ext'
 simp
attribute [simp] td
end Go.Ab
/- The abstract machine, part Tf: calls of function values; calls that leave the heap as it is. -/
namespace Go.Ab
def cI (P:Program) (f:FuncId) (args:List ag) (H:ak) (n:Nat) (R:ag→Prop):Prop:=bw P f args H n (fun v H1 n1=>R v∧H1=H∧n1=n)
theorem cI.of {P:Program} {f:FuncId} {fn:Func} {body:Code} {args:List ag} {N:Nat} {R:ag→Prop} {H:ak} {n:Nat} (hfn:P.funcs[f]?=some fn) (hb:fn.body=some body) (hn:fn.ntmps=N) (hN:args.length≤N)
  (h:∀ Q,Gn n H→(∀ v H1 n1 r,ln H1 n v r→Frame n H H1→R r→Q v H1 n1)→aa P f N [.code body] (iI args) H n Q):cI P f args H n R:=
 bw.bnd fun hB=>bw.drop (bw.of hfn hb hn hN fun Q hQ=>h Q hB fun v H1 n1 r h1 h2 h3=>hQ v H1 n1 ⟨r,h1,h2,h3⟩)
def fA (P:Program) (H:ak) (n:Nat) (cl:ag) (args:List ag) (R:ag→Prop):Prop:=
 ∃ g first caps,cl = .fn (.func g) first caps∧Ent P g∧cI P g (first++args++caps) H n R
section
variable {P:Program} {f:FuncId} {N:Nat} {k:List Item} {Q:ag→ak→Nat→Prop} {Ty:Types} {l:List Oper} {ρ:Env} {H:ak} {n:Nat}
theorem aG.Ei (hT:aU P Ty) {d:Option Tmp} {g:Operand} {args:Array Operand} {ats:Array TypeId} {ty:TypeId} {pos:String} {af:Array Edge} {R:ag→Prop} {cl:ag} {as1:List ag} {ops:List Oper}
  (h:fA P H n cl as1 R) (hN:ops.all (fun o=>dok N o.dst)=true) (hl:(⟨d,.call ⟨.value g,args,ats⟩,ty,pos,af,none⟩::l:List Oper).all (fun o=>dok N o.dst)=true) (hg:ρ.ev g=cl) (has:args.toList.map ρ.ev=as1)
  (hk:∀ v,R v→ct P f N k Q Ty ops.toArray l (ρ.put d v) H n) :
  aG P f N k Q ops.toArray (⟨d,.call ⟨.value g,args,ats⟩,ty,pos,af,none⟩::l) ρ H n:=by
 obtain⟨f',first,caps,hcl,hent,hc⟩:=h
 refine aG.op hT hN hl rfl (aN.call (hg.trans hcl) hent (by rw[has];exact hc)) ?_
 rintro v H1 n1 ⟨h1,rfl,rfl⟩
 exact hk v h1
theorem aG.lW (hT:aU P Ty) {d:Option Tmp} {g:Operand} {args:Array Operand} {ats:Array TypeId} {ty:TypeId} {pos:String} {af:Array Edge} {R:ag→Prop} {f':FuncId} {as1:List ag} {ops:List Oper}
  (h:cI P f' as1 H n R) (hent:Ent P f')
  (hN:ops.all (fun o=>dok N o.dst)=true) (hl:(⟨d,.call ⟨.value g,args,ats⟩,ty,pos,af,none⟩::l:List Oper).all (fun o=>dok N o.dst)=true) (hg:ρ.ev g = .fn (.func f') [] []) (has:args.toList.map ρ.ev=as1)
  (hk:∀ v,R v→ct P f N k Q Ty ops.toArray l (ρ.put d v) H n) :
  aG P f N k Q ops.toArray (⟨d,.call ⟨.value g,args,ats⟩,ty,pos,af,none⟩::l) ρ H n:=
 aG.FD hT h hent hN hl hg has fun v H1 n1 ⟨h1,h2,h3⟩=>by subst h2 h3;exact hk v h1
theorem bn.lW (hT:aU P Ty) {κ:Op→Nat} (hκ:KOk κ) {d:Option Tmp} {g:Operand} {args:Array Operand} {ats:Array TypeId} {ty:TypeId} {pos:String} {af:Array Edge} {v:ag} {f':FuncId} {as1:List ag} {ops:Array Oper}
  (h:cI P f' as1 H n (fun r=>r=v)) (hent:Ent P f') (h0:κ (.call ⟨.value g,args,ats⟩) ≠ 0) (hg:ρ.ev g = .fn (.func f') [] []) (has:args.toList.map ρ.ev=as1)
  (hk:dF P f N k Q Ty κ ops l (ρ.put d v) H n):bn P f N k Q κ ops (⟨d,.call ⟨.value g,args,ats⟩,ty,pos,af,none⟩::l) ρ H n:=by
 refine bn.op hT hκ rfl h0 (fun _=>⟨rfl,rfl⟩) ?_ hk
 have h1:(loc (.call ⟨.value g,args,ats⟩) ρ).ev g=ρ.ev g:=fu (by simp[Op.operands,Call.operands])
 have h2:args.toList.map (loc (.call ⟨.value g,args,ats⟩) ρ).ev=args.toList.map ρ.ev:=List.map_congr_left fun x hx=>fu (by simp[Op.operands,Call.operands];exact .inr (by simpa using hx))
 exact aN.call (by rw[h1];exact hg) hent (by rw[h2,has,List.nil_append,List.append_nil];exact h)
end
end Go.Ab
/- The abstract machine, part Vc: what a walk by program leaves to show is pure: indices, sums and loops with invariants; and the facts that such a walk tells the simplifier. -/
namespace Go.Ab
set_option linter.unusedSectionVars false
set_option linter.unusedSimpArgs false
def I64 (n:Int):Prop := -9223372036854775808≤n∧n≤9223372036854775807
def at' {α:Type} [Inhabited α] (l:List α) (i:Int):α:=l.getD i.toNat default
def aw {σ:Type} (body:σ→(σ→Prop)→Prop) (s:σ):Prop:=
 ∃ (I:σ→Prop) (m:σ→Nat),I s∧∀ s,I s→body s (fun s'=>I s'∧m s'<m s)
def cW {σ:Type} (ways:(σ→Prop)→Prop) (rest:σ→Prop):Prop:=∃ J:σ→Prop,ways J∧∀ s,J s→rest s
section
variable {P:Program} {f:FuncId} {N:Nat} {k:List Item} {ρ:Env} {H:ak} {n:Nat} {Q:ag→ak→Nat→Prop}
theorem aa.aw {σ:Type} {body:σ→(σ→Prop)→Prop} {s:σ} {x:Code} (h:Ab.aw body s) (E:σ→Env→ak→Nat→Prop) (h0:E s ρ H n)
  (step:∀ s ρ H n (K:σ→Prop),body s K→E s ρ H n→(∀ s' ρ' H' n',K s'→E s' ρ' H' n'→aa P f N (.inLoop x::k) ρ' H' n' Q)→aa P f N (.code x::.inLoop x::k) ρ H n Q) :
  aa P f N (.code (.loop x)::k) ρ H n Q:=by
 obtain⟨I,m,hI,hs⟩:=h
 refine aa.EM (fun M ρ H n=>∃ s,I s∧m s=M∧E s ρ H n) (m s) ⟨s,hI,rfl,h0⟩ ?_
 rintro _ ρ H n ⟨s,hI,rfl,hE⟩ IH
 exact step s ρ H n _ (hs s hI) hE fun s' ρ' H' n' ⟨h1,h2⟩ hE'=>IH (m s') ρ' H' n' h2 ⟨s',h1,rfl,hE'⟩
theorem aa.aV {fn:Func} {t:Tmp} {v:ag} (hfn:P.funcs[f]?=some fn) (hr:fn.results=#[.tmp t]) (hv:ρ t=v) (hq:Q v H n):aa P f N (.code .ret::k) ρ H n Q:=
 aa.ret hfn (aK.one hr) (hv ▸ hq)
theorem aa.ta {fn:Func} {t u:Tmp} {v w:ag} (hfn:P.funcs[f]?=some fn) (hr:fn.results=#[.tmp t,.tmp u]) (hv:ρ t=v) (hw:ρ u=w) (hq:Q (.tup [v,w]) H n):aa P f N (.code .ret::k) ρ H n Q:=
 aa.ret hfn (aK.two hr) (hv ▸ hw ▸ hq)
theorem aa.DW {fn:Func} {t u s:Tmp} {v w z:ag} (hfn:P.funcs[f]?=some fn) (hr:fn.results=#[.tmp t,.tmp u,.tmp s]) (hv:ρ t=v) (hw:ρ u=w) (hz:ρ s=z) (hq:Q (.tup [v,w,z]) H n):aa P f N (.code .ret::k) ρ H n Q:=
 aa.ret hfn (aK.three hr) (hv ▸ hw ▸ hz ▸ hq)
end
theorem aI {a b v:Int} (h:I64 (a+b)) (hv:v=a+b):ai .add .i64 a b=some (int v):=by subst hv;simp only[ai];rw[wrap64 h.1 h.2]
theorem lP {a b v:Int} (h:I64 (a - b)) (hv:v=a - b):ai .sub .i64 a b=some (int v):=by subst hv;simp only[ai];rw[wrap64 h.1 h.2]
section
variable {k:IntKind} {a b:Int} {c:Bool}
theorem aT (hc:c=decide (a<b)):ai .lss k a b=some (bool c):=by subst hc;rfl
theorem FX (hc:c=decide (a≤b)):ai .leq k a b=some (bool c):=by subst hc;rfl
theorem iN (hc:c=decide (b<a)):ai .gtr k a b=some (bool c):=by subst hc;rfl
theorem jz (hc:c=decide (b≤a)):ai .geq k a b=some (bool c):=by subst hc;rfl
theorem cJ (hc:c=decide (a=b)):ai .eql k a b=some (bool c):=by subst hc;simp only[ai];congr 3
theorem dz (hc:c=decide (a ≠ b)):ai .neq k a b=some (bool c):=by
 subst hc
 simp only[ai,bne]
 by_cases h:a=b<;>simp[h]
end
theorem zL {a v:Int} (h:I64 (-a)) (hv:v = -a):unF .neg (int a)=some (int v):=by
 subst hv
 simp only[unF]
 rw[show (0:Int) - a = -a by omega,wrap64 h.1 h.2]
section
variable {a b:Str} {c:Bool}
theorem oA (l:Str):(ByteArray.mk l.toArray).toList=l:=by rw[ByteArray.toList_eq]
theorem DX (hc:c=decide (a=b)):et .eql ⟨a.toArray⟩ ⟨b.toArray⟩=some (bool c):=by
 subst hc;simp only[et,oA];by_cases h:a=b<;>simp[h]
theorem DR (hc:c=decide (a ≠ b)):et .neq ⟨a.toArray⟩ ⟨b.toArray⟩=some (bool c):=by
 subst hc;simp only[et,oA];by_cases h:a=b<;>simp[h]
theorem Dm {v:Str} (h:a.length+b.length<4611686018427387904) (hv:v=a++b):et .add ⟨a.toArray⟩ ⟨b.toArray⟩=some (str v):=by
 subst hv
 have h2:(ByteArray.mk a.toArray).size+(ByteArray.mk b.toArray).size<4611686018427387904:=by
  show a.toArray.size+b.toArray.size<_
  simpa using h
 simp only[et,if_pos h2]
 simp
end
section
variable {α:Type} [Inhabited α] {Ty:Types} {H:ak} {t:TypeId} {j:TI} {fr:Bool} {l:List α} {f:α→List ag} {k:IntKind} {i:Int} {x:α}
theorem pF (hb:0≤i∧i<l.length) (hx:x=at' l i):∃ h:i.toNat<l.length,l[i.toNat]=x:=by
 have h:i.toNat<l.length:=by omega
 exact⟨h,by rw[hx,at'];simp[h]⟩
theorem aE (hk:kd Ty t = .slice j) (hf:∀ x,(f x).length=j.size) (hb:0≤i∧i<l.length) (hx:x=at' l i):ah Ty H t (.list fr (l.map f)) (.v (.int k i))=some (.iptr fr (f x)):=by
 obtain⟨h,hg⟩:=pF hb hx
 have h2:(l.map f).getD i.toNat []=f x:=by
  simp[h,hg]
 simp only[ah,hk,h2,List.length_map]
 rw[if_pos ⟨hb.1,hb.2,hf x⟩]
theorem cF {id:Id} {g off len sz:Nat} {els:List (List ag)} (hk:kd Ty t = .slice j) (hH:H id=some ⟨sz,els⟩) (hg:els.length=g) (hs:sz=j.size) (hb:0≤i∧i<len) :
  ah Ty H t (.arr id g off len) (.v (.int k i))=some (.ptr id g (off+i.toNat) 0):=by
 simp only[ah,hk,live,hH]
 rw[if_pos hg]
 simp only
 rw[if_pos ⟨hb.1,hb.2,hs⟩]
theorem ax (hk:kd Ty t = .slice j) {v:Int} (hv:v=(l.length:Int)):aH Ty H t (.list fr (l.map f))=some (int v):=by
 simp only[aH,hk,List.length_map,hv]
end
theorem aF.agg {H:ak} {n:Nat} {cs ds:List ag} (h:bA H n cs ds):aF H n (.agg cs) (.agg ds):=by
 intro c x hH hn g r c' hw hc
 obtain⟨hl,hget⟩:=h.get
 cases r with
 | agg _ vs hl' hr=>
  refine .agg _ vs (by omega) fun i b x hb hx=>?_
  have hi:=(List.getElem?_eq_some_iff.1 hb).1
  obtain⟨a,ha⟩:=aY (l:=cs) (i:=i) (by omega)
  exact hget i a b ha hb c x hH hn g (hr i a x ha hx) c' hw hc
inductive yB (H:ak):List ag→List ag→Prop
 | nil:yB H [] []
 | cons {a b:ag} {as1 bs:List ag} (h:Ret H a b) (t:yB H as1 bs):yB H (a::as1) (b::bs)
theorem yB.get {H:ak} {as1 bs:List ag} (h:yB H as1 bs):as1.length=bs.length∧∀ (i:Nat) (a b:ag),as1[i]?=some a→bs[i]?=some b→Ret H a b:=by
 induction h with
 | nil=>exact⟨rfl,by simp⟩
 | cons h _ ih=>
  refine⟨by simp[ih.1],fun i a b ha hb=>?_⟩
  cases i with
  | zero=>simp at ha hb;rw[← ha,← hb];exact h
  | succ i=>exact ih.2 i a b (by simpa using ha) (by simpa using hb)
theorem Ret.wo {H:ak} {cs ds:List ag} (h:yB H cs ds):Ret H (.tup cs) (.tup ds):=.tup h.get.1 h.get.2
theorem Ret.y6 {H:ak} {cs ds:List ag} (h:yB H cs ds):Ret H (.agg cs) (.agg ds):=.agg h.get.1 h.get.2
section
variable {P:Program} {f:FuncId} {N:Nat} {k:List Item} {ρ:Env} {H:ak} {n:Nat} {Q:ag→ak→Nat→Prop} {Ty:Types} {fn:Func}
theorem aK.Ix (hT:aU P Ty) {r1:ResultVar} {v1:ag} (h:fn.results=#[r1]) (h1:dO Ty H ρ r1=some v1):aK P N fn ρ H n v1:=by
 cases r1 with
 | tmp t=>cases h1;exact aK.one h
 | cell t ty=>
  simp only[dO] at h1
  split at h1
  ·rename_i i cs hi hv
   exact aK.cell hT h hi hv h1
  ·cases h1
theorem aa.yk (hT:aU P Ty) {r1:ResultVar} {v:ag} (hfn:P.funcs[f]?=some fn) (hr:fn.results=#[r1]) (h1:dO Ty H ρ r1=some v) (hq:Q v H n):aa P f N (.code .ret::k) ρ H n Q:=aa.ret hfn (aK.Ix hT hr h1) hq
theorem aa.tf (hT:aU P Ty) {r1 r2:ResultVar} {v w:ag} (hfn:P.funcs[f]?=some fn) (hr:fn.results=#[r1,r2]) (h1:dO Ty H ρ r1=some v) (h2:dO Ty H ρ r2=some w) (hq:Q (.tup [v,w]) H n):aa P f N (.code .ret::k) ρ H n Q:=aa.ret hfn (aK.Jo hT hr h1 h2) hq
end
theorem AR {α:Type} {Ty:Types} {H:ak} {t:TypeId} {j:TI} {fr:Bool} {l v:List α} {f:α→List ag} {lo hi:Option ag} {a b:Int} (hlo:ch lo 0=some a) (hhi:ch hi l.length=some b) (hk:kd Ty t = .slice j) (hf:∀ x,(f x).length=j.size)
  (hb:0≤a∧a≤b∧b≤l.length) (hv:v=(l.take b.toNat).drop a.toNat):dB Ty H t (.list fr (l.map f)) lo hi=some (.list fr (v.map f)):=by
 subst hv
 simp only[dB,hk,hlo,List.length_map,hhi]
 rw[if_pos ⟨hb.1,hb.2.1,hb.2.2,by simp[hf]⟩]
 simp[List.map_drop,List.map_take]
theorem FR {Ty:Types} {H:ak} {t:TypeId} {s v:Str} {lo hi:Option ag} {a b:Int} (hlo:ch lo 0=some a) (hhi:ch hi s.length=some b) (hk:kd Ty t = .string)
  (hb:0≤a∧a≤b∧b≤s.length) (hv:v=(s.take b.toNat).drop a.toNat):dB Ty H t (str s) lo hi=some (str v):=by
 subst hv
 have hz:(ByteArray.mk s.toArray).size=s.length:=by show s.toArray.size=_;simp
 simp only[dB,hk,hlo,hz,hhi]
 rw[if_pos ⟨hb.1,hb.2.1,by omega⟩]
 simp[List.drop_take]
theorem D7 {a b c:Bool} (hc:c=(a == b)):dC .eql a b=some (bool c):=by subst hc;rfl
theorem vy {a b c:Bool} (hc:c = !(a == b)):dC .neq a b=some (bool c):=by subst hc;rfl
theorem eH (b:Bool):unF .not (bool b)=some (bool (!b)):=rfl
end Go.Ab
namespace Go.Ab
theorem fA.mono {P:Program} {H:ak} {n:Nat} {cl:ag} {args:List ag} {R R':ag→Prop} (h:fA P H n cl args R) (hr:∀ r,R r→R' r):fA P H n cl args R':=by
 obtain⟨g,first,caps,h1,h2,h3⟩:=h
 exact⟨g,first,caps,h1,h2,bw.mono h3 fun _ _ _ ⟨a,b,c⟩=>⟨hr _ a,b,c⟩⟩
end Go.Ab
/- The abstract machine, part Te: own arrays that are not turned any more become lists. -/
namespace Go.Ab
def fz (K:Id→Bool) (H:ak):ag→ag
 | .agg cs=>.agg (fzL K H cs)
 | .tup cs=>.tup (fzL K H cs)
 | .list fr els=>.list fr (fzLL K H els)
 | .arr id g off len=>if K id then (match H id with | some o=>if o.els.length=g then .list true ((o.els.drop off).take len) else .undef | none=>.undef) else .arr id g off len
 | .ptr id g idx off=>if K id then .undef else .ptr id g idx off
 | .iptr fr cs=>.iptr fr (fzL K H cs)
 | .fn f a b=>.fn f (fzL K H a) (fzL K H b)
 | .iface t x=>.iface t (fz K H x)
 | x=>x
 where
 fzL (K:Id→Bool) (H:ak):List ag→List ag
  | []=>[]
  | a::l=>fz K H a::fzL K H l
 fzLL (K:Id→Bool) (H:ak):List (List ag)→List (List ag)
  | []=>[]
  | e::l=>fzL K H e::fzLL K H l
section
variable {K:Id→Bool} {H:ak}
end
section
variable {c:Ctx} {K:Id→Bool}
end
end Go.Ab
