/- Merged texts (1 of 11) of the proof that ends in Fpy: A B C D E F G H J I. -/
import Derived.Calls
import Derived.Tactics
import Derived.Laws.AppendOwn
/- The abstract machine, part A: abstract values, what they stand for in a world, and what keeps that. -/
namespace Go.Ab
abbrev Id:=Nat × Nat
inductive AVal where
  | undef
  | v (x:Value)
  | agg (cs:List AVal)
  | tup (vs:List AVal)
  | list (fr:Bool) (els:List (List AVal))
  | arr (id:Id) (gen off len:Nat)
  | ptr (id:Id) (gen idx off:Nat)
  | iptr (fr:Bool) (cs:List AVal)
  | fn (f:Fn) (first captured:List AVal)
  | iface (t:TypeId) (x:AVal)
  | clip (fr:Bool) (els:List (List Value))
  deriving Inhabited
def full:Value→Bool
  | .slice _ l cap=>l == cap
  | _=>false
structure Ob where
  size:Nat
  els:List (List AVal)
abbrev Heap:=Id→Option Ob
def Heap.set (H:Heap) (i:Id) (o:Ob):Heap:=fun j=>if j=i then some o else H j
theorem Heap.get_set (H:Heap) (i j:Id) (o:Ob):H.set i o j=if j=i then some o else H j:=rfl
theorem Heap.get_set_self (H:Heap) (i:Id) (o:Ob):H.set i o i=some o:=by simp[Heap.set]
theorem Heap.get_set_ne (H:Heap) {i j:Id} (o:Ob) (h:j ≠ i):H.set i o j=H j:=by simp[Heap.set,h]
theorem Heap.set_set (H:Heap) (i:Id) (o p:Ob):(H.set i o).set i p=H.set i p:=by
  funext j;simp only[Heap.set];split<;>rfl
def one:Value→Bool
  | .agg _ | .tuple _=>false
  | _=>true
structure Ctx where
  B:Nat
  β:Id→Nat
  H:Heap
  n:Nat
  w:World
def Ctx.mu (c:Ctx) (k:Nat):Prop:=∃ id o,c.H id=some o∧c.β id=k
def SliceOk (c:Ctx) (o:Ob) (id:Id) (gen off len:Nat) (x:Value):Prop:=
  off+len≤gen∧∃ a cap,x = .slice (some a) len cap∧a.block=c.β id∧a.spot=none∧len≤cap∧(a.off=off * o.size∨cap=0) ∧
    ∀ cl el fz,c.w.heap[c.β id]?=some (.cells cl el fz)→(off+cap) * o.size≤cl.size
inductive Rep (c:Ctx):AVal→Value→Prop
  | undef (x:Value):Rep c .undef x
  | v (x:Value):Rep c (.v x) x
  | agg (cs:List AVal) (vs:List Value) (hl:cs.length=vs.length) (h:∀ (i:Nat) (a:AVal) (x:Value),cs[i]?=some a→vs[i]?=some x→Rep c a x):Rep c (.agg cs) (.agg vs.toArray)
  | tup (cs:List AVal) (vs:List Value) (hl:cs.length=vs.length) (h:∀ (i:Nat) (a:AVal) (x:Value),cs[i]?=some a→vs[i]?=some x→Rep c a x):Rep c (.tup cs) (.tuple vs.toArray)
  | lnil (fr:Bool):Rep c (.list fr []) (.slice none 0 0)
  | list (fr:Bool) (els:List (List AVal)) (a:Addr) (cap sz:Nat) (cell:Nat→Nat→Value) (hs:els ≠ []→a.spot=none) (hcap:els.length≤cap)
      (hm:els ≠ []→¬ c.mu a.block∧a.block<c.w.heap.size∧(fr=true→c.B≤a.block)) (hsz:∀ (i:Nat) (e:List AVal),els[i]?=some e→e.length=sz)
      (hc:∀ (i:Nat) (e:List AVal) (j:Nat) (x:AVal),els[i]?=some e→e[j]?=some x→c.w.cell? ⟨a.block,a.off+(i * sz+j),none⟩=some (cell i j))
      (h:∀ (i:Nat) (e:List AVal) (j:Nat) (x:AVal),els[i]?=some e→e[j]?=some x→Rep c x (cell i j)):Rep c (.list fr els) (.slice (some a) els.length cap)
  | arr (id:Id) (gen off len:Nat) (x:Value) (h1:one x=true) (hn:id.1<c.n) (hg:∀ o,c.H id=some o→gen≤o.els.length)
      (h:∀ o,c.H id=some o→o.els.length=gen→SliceOk c o id gen off len x):Rep c (.arr id gen off len) x
  | ptr (id:Id) (gen idx off:Nat) (x:Value) (h1:one x=true) (hn:id.1<c.n) (hg:∀ o,c.H id=some o→gen≤o.els.length)
      (h:∀ o,c.H id=some o→o.els.length=gen→idx<gen∧x = .pointer (some ⟨c.β id,idx * o.size+off,none⟩)):Rep c (.ptr id gen idx off) x
  | iptr (fr:Bool) (cs:List AVal) (a:Addr) (cell:Nat→Value) (hs:a.spot=none) (hm:¬ c.mu a.block) (hb:a.block<c.w.heap.size) (hf:fr=true→c.B≤a.block)
      (hc:∀ (j:Nat) (x:AVal),cs[j]?=some x→c.w.cell? ⟨a.block,a.off+j,none⟩=some (cell j))
      (h:∀ (j:Nat) (x:AVal),cs[j]?=some x→Rep c x (cell j)):Rep c (.iptr fr cs) (.pointer (some a))
  | fn (f:Fn) (first captured:List AVal) (vs us:List Value) (hl:first.length=vs.length) (hl':captured.length=us.length)
      (h:∀ (i:Nat) (a:AVal) (x:Value),first[i]?=some a→vs[i]?=some x→Rep c a x) (h':∀ (i:Nat) (a:AVal) (x:Value),captured[i]?=some a→us[i]?=some x→Rep c a x):Rep c (.fn f first captured) (.func f vs.toArray us.toArray)
  | iface (t:TypeId) (a:AVal) (x:Value) (h:Rep c a x):Rep c (.iface t a) (.iface t x)
  | clip (fr:Bool) (els:List (List Value)) (x:Value) (hf:full x=true) (h:Rep c (.list fr (els.map fun e=>e.map .v)) x):Rep c (.clip fr els) x
structure Keeps (c c':Ctx):Prop where
  n:c.n≤c'.n
  B:c'.B=c.B
  size:c.w.heap.size≤c'.w.heap.size
  os:c'.w.os=c.w.os
  tape:c'.w.tape=c.w.tape
  output:c'.w.output=c.w.output
  imm:∀ k,k<c.w.heap.size→¬ c.mu k→c'.w.heap[k]?=c.w.heap[k]?∧¬ c'.mu k
  obj:∀ id o',c'.H id=some o'→id.1<c.n→∃ o,c.H id=some o∧o.size=o'.size∧o.els.length≤o'.els.length ∧
    (o.els.length=o'.els.length→c'.β id=c.β id∧∀ cl' el' fz',c'.w.heap[c.β id]?=some (.cells cl' el' fz')→∃ cl el fz,c.w.heap[c.β id]?=some (.cells cl el fz)∧cl.size≤cl'.size)
theorem Keeps.refl (c:Ctx):Keeps c c:=
  ⟨Nat.le_refl _,rfl,Nat.le_refl _,rfl,rfl,rfl,fun _ _ h=>⟨rfl,h⟩,fun _ o' h _=>⟨o',h,rfl,Nat.le_refl _,fun _=>⟨rfl,fun cl el fz h=>⟨cl,el,fz,h,Nat.le_refl _⟩⟩⟩⟩
theorem Keeps.trans {a b c:Ctx} (h:Keeps a b) (k:Keeps b c):Keeps a c where
  n:=Nat.le_trans h.n k.n
  B:=k.B.trans h.B
  size:=Nat.le_trans h.size k.size
  os:=k.os.trans h.os
  tape:=k.tape.trans h.tape
  output:=k.output.trans h.output
  imm:=fun i hi hm=>by
    obtain⟨h1,h2⟩:=h.imm i hi hm
    obtain⟨k1,k2⟩:=k.imm i (Nat.lt_of_lt_of_le hi h.size) h2
    exact⟨k1.trans h1,k2⟩
  obj:=fun id o'' ho hn=>by
    obtain⟨o',ho',hs',hl',k'⟩:=k.obj id o'' ho (Nat.lt_of_lt_of_le hn h.n)
    obtain⟨o,ho1,hs1,hl1,k1⟩:=h.obj id o' ho' hn
    refine⟨o,ho1,hs1.trans hs',Nat.le_trans hl1 hl',fun he=>?_⟩
    have e1:o.els.length=o'.els.length:=by omega
    have e2:o'.els.length=o''.els.length:=by omega
    obtain⟨b1,c1⟩:=k1 e1
    obtain⟨b2,c2⟩:=k' e2
    refine⟨b2.trans b1,fun cl el fz hcl=>?_⟩
    rw[← b1] at hcl
    obtain⟨cl1,el1,fz1,h1,g1⟩:=c2 cl el fz hcl
    rw[b1] at h1
    obtain⟨cl2,el2,fz2,h2,g2⟩:=c1 cl1 el1 fz1 h1
    exact⟨cl2,el2,fz2,h2,Nat.le_trans g2 g1⟩
theorem cell_of_block {w w':World} {k:Nat} (h:w'.heap[k]?=w.heap[k]?) (j:Nat):w'.cell? ⟨k,j,none⟩=w.cell? ⟨k,j,none⟩:=by
  simp only[World.cell?,h]
theorem Rep.keeps {c c':Ctx} (k:Keeps c c') {a:AVal} {x:Value} (h:Rep c a x):Rep c' a x:=by
  induction h with
  | undef x=>exact .undef x
  | v x=>exact .v x
  | agg cs vs hl _ ih=>exact .agg cs vs hl ih
  | tup cs vs hl _ ih=>exact .tup cs vs hl ih
  | lnil fr=>exact .lnil fr
  | list fr els a cap sz cell hs hcap hm hsz hc _ ih=>
    refine .list fr els a cap sz cell hs hcap ?_ hsz ?_ ih
    · intro hne
      obtain⟨h1,h2,h3⟩:=hm hne
      exact⟨(k.imm _ h2 h1).2,Nat.lt_of_lt_of_le h2 k.size,fun hf=>by rw[k.B];exact h3 hf⟩
    · intro i e j x he hx
      have hne:els ≠ []:=by intro h0;simp[h0] at he
      obtain⟨h1,h2,_⟩:=hm hne
      rw[cell_of_block (k.imm _ h2 h1).1]
      exact hc i e j x he hx
  | arr id gen off len x ho1 hn hg h=>
    refine .arr id gen off len x ho1 (Nat.lt_of_lt_of_le hn k.n) ?_ ?_
    · intro o' ho'
      obtain⟨o,ho,_,hl,_⟩:=k.obj id o' ho' hn
      exact Nat.le_trans (hg o ho) hl
    · intro o' ho' hgen
      obtain⟨o,ho,hs,hl,hk⟩:=k.obj id o' ho' hn
      have hgo:=hg o ho
      have he:o.els.length=o'.els.length:=by omega
      obtain⟨hb,hc⟩:=hk he
      obtain⟨h1,a,cap,hx,hab,hsp,hlc,hoff,hcl⟩:=h o ho (by omega)
      refine⟨h1,a,cap,hx,by rw[hb];exact hab,hsp,hlc,by rw[← hs];exact hoff,?_⟩
      intro cl el fz hh
      rw[hb] at hh
      obtain⟨cl0,el0,fz0,h0,hle⟩:=hc cl el fz hh
      rw[← hs]
      exact Nat.le_trans (hcl cl0 el0 fz0 h0) hle
  | ptr id gen idx off x ho1 hn hg h=>
    refine .ptr id gen idx off x ho1 (Nat.lt_of_lt_of_le hn k.n) ?_ ?_
    · intro o' ho'
      obtain⟨o,ho,_,hl,_⟩:=k.obj id o' ho' hn
      exact Nat.le_trans (hg o ho) hl
    · intro o' ho' hgen
      obtain⟨o,ho,hs,hl,hk⟩:=k.obj id o' ho' hn
      have hgo:=hg o ho
      have he:o.els.length=o'.els.length:=by omega
      obtain⟨hb,_⟩:=hk he
      obtain⟨h1,h2⟩:=h o ho (by omega)
      exact⟨h1,by rw[hb,← hs];exact h2⟩
  | iptr fr cs a cell hs hm hb hf hc _ ih=>
    refine .iptr fr cs a cell hs (k.imm _ hb hm).2 (Nat.lt_of_lt_of_le hb k.size) (fun h=>by rw[k.B];exact hf h) ?_ ih
    intro j x hx
    rw[cell_of_block (k.imm _ hb hm).1]
    exact hc j x hx
  | fn f first captured vs us hl hl' _ _ ih ih'=>exact .fn f first captured vs us hl hl' ih ih'
  | iface t a x _ ih=>exact .iface t a x ih
  | clip fr els x hf _ ih=>exact .clip fr els x hf ih
structure Tabs where
  T:World→Nat→Prop
  keep:∀ {w w':World} {B B':Nat},T w B→B≤B'→(∀ k,k<B→w'.heap[k]?=w.heap[k]?)→T w' B'
def tabT [Inhabited Tabs] (w:World) (B:Nat):Prop:=(default:Tabs).T w B
set_option linter.unusedSectionVars false
variable [Inhabited Tabs]
structure Good (c:Ctx):Prop where
  stamp:∀ id o,c.H id=some o→id.1<c.n
  inj:∀ id id' o o',c.H id=some o→c.H id'=some o'→c.β id=c.β id'→id=id'
  Bsize:c.B≤c.w.heap.size
  obj:∀ id o,c.H id=some o→c.B≤c.β id∧∃ cl el,c.w.heap[c.β id]?=some (.cells cl el (0,0))∧o.els.length * o.size≤cl.size ∧
    ∀ (i:Nat) (e:List AVal),o.els[i]?=some e→e.length=o.size∧∀ (j:Nat) (a:AVal),e[j]?=some a→∃ x,cl[i * o.size+j]?=some x∧Rep c a x
  tab:tabT c.w c.B
theorem Good.tabUp {c:Ctx} (g:Good c):tabT c.w c.w.heap.size:=Tabs.keep _ g.tab g.Bsize fun _ _=>rfl
theorem Good.tabOn {c c':Ctx} (g:Good c) (k:Keeps c c'):tabT c'.w c'.B:=
  Tabs.keep _ g.tab (Nat.le_of_eq k.B.symm) fun j hj=>(k.imm j (Nat.lt_of_lt_of_le hj g.Bsize) fun ⟨id,o,ho,hb⟩=>by have:=(g.obj id o ho).1;omega).1
theorem Good.lt {c:Ctx} (g:Good c) {id:Id} {o:Ob} (h:c.H id=some o):c.β id<c.w.heap.size:=by
  obtain⟨_,cl,el,hh,_⟩:=g.obj id o h
  rcases Nat.lt_or_ge (c.β id) c.w.heap.size with h' | h'
  · exact h'
  · rw[Array.getElem?_eq_none h'] at hh;cases hh
theorem Good.cell {c:Ctx} (g:Good c) {id:Id} {o:Ob} (h:c.H id=some o) {i j:Nat} {e:List AVal} {a:AVal} (he:o.els[i]?=some e) (ha:e[j]?=some a) :
    ∃ x,c.w.cell? ⟨c.β id,i * o.size+j,none⟩=some x∧Rep c a x:=by
  obtain⟨_,cl,el,hh,_,hi⟩:=g.obj id o h
  obtain⟨x,hx,hr⟩:=(hi i e he).2 j a ha
  exact⟨x,by simp[World.cell?,hh,hx],hr⟩
end Go.Ab
/- The abstract machine, part B: how a world turns (a new block, a store, an append) and what that keeps. -/
namespace Go.Ab
set_option linter.unusedSectionVars false
variable [Inhabited Tabs]
def SameOut (w w':World):Prop:=w'.os=w.os∧w'.tape=w.tape∧w'.output=w.output
theorem SameOut.refl (w:World):SameOut w w:=⟨rfl,rfl,rfl⟩
theorem more_blocks {c:Ctx} (g:Good c) (w':World) (so:SameOut c.w w') (hsz:c.w.heap.size≤w'.heap.size) (hb:∀ k,k<c.w.heap.size→w'.heap[k]?=c.w.heap[k]?) :
    Keeps c { c with w:=w' }∧Good { c with w:=w' }:=by
  have hk:Keeps c { c with w:=w' }:=by
    refine⟨Nat.le_refl _,rfl,hsz,so.1,so.2.1,so.2.2,fun k hk hm=>⟨hb k hk,hm⟩,fun id o' ho _=>⟨o',ho,rfl,Nat.le_refl _,fun _=>⟨rfl,fun cl el fz hcl=>?_⟩⟩⟩
    simp only at hcl
    rw[hb _ (g.lt ho)] at hcl
    exact⟨cl,el,fz,hcl,Nat.le_refl _⟩
  refine⟨hk,⟨g.stamp,g.inj,Nat.le_trans g.Bsize hsz,fun id o ho=>?_,g.tabOn hk⟩⟩
  obtain⟨h1,cl,el,hh,hl,hi⟩:=g.obj id o ho
  refine⟨h1,cl,el,?_,hl,fun i e he=>⟨(hi i e he).1,fun j a ha=>?_⟩⟩
  · exact (hb _ (g.lt ho)).trans hh
  · obtain⟨x,hx,hr⟩:=(hi i e he).2 j a ha
    exact⟨x,hx,hr.keeps hk⟩
theorem draw_keeps {c:Ctx} (g:Good c):Keeps c { c with w:={ c.w with drawn:=c.w.drawn+1 } }∧Good { c with w:={ c.w with drawn:=c.w.drawn+1 } }:=
  more_blocks g _ ⟨rfl,rfl,rfl⟩ (Nat.le_refl _) fun _ _=>rfl
theorem push_keeps {c:Ctx} (g:Good c) (o:Obj):Keeps c { c with w:={ c.w with heap:=c.w.heap.push o } }∧Good { c with w:={ c.w with heap:=c.w.heap.push o } }:=
  more_blocks g _ ⟨rfl,rfl,rfl⟩ (by simp) fun k hk=>by
    show (c.w.heap.push o)[k]?=_
    rw[Array.getElem?_push,if_neg (by omega)]
def Holds (c:Ctx) (cl:Array Value) (o:Ob):Prop:=
  o.els.length * o.size≤cl.size∧∀ (i:Nat) (e:List AVal),o.els[i]?=some e→e.length=o.size∧∀ (j:Nat) (a:AVal),e[j]?=some a→∃ x,cl[i * o.size+j]?=some x∧Rep c a x
theorem Holds.keeps {c c':Ctx} (k:Keeps c c') {cl:Array Value} {o:Ob} (h:Holds c cl o):Holds c' cl o:=
  ⟨h.1,fun i e he=>⟨(h.2 i e he).1,fun j a ha=>let ⟨x,hx,hr⟩:=(h.2 i e he).2 j a ha;⟨x,hx,hr.keeps k⟩⟩⟩
theorem upd_new {c:Ctx} (g:Good c) (id:Id) (o':Ob) (w':World) (cl:Array Value) (el:TypeId) (n':Nat) (so:SameOut c.w w') (hsz:w'.heap.size=c.w.heap.size+1)
    (hb:∀ k,k<c.w.heap.size→w'.heap[k]?=c.w.heap[k]?) (hnew:w'.heap[c.w.heap.size]?=some (.cells cl el (0,0)))
    (hn:c.n≤n') (hid:id.1<n') (hold:id.1<c.n→∃ o,c.H id=some o∧o.size=o'.size∧o.els.length<o'.els.length)
    (hh:Holds c cl o') :
    let c':Ctx:={ B:=c.B,β:=fun j=>if j=id then c.w.heap.size else c.β j,H:=c.H.set id o',n:=n',w:=w' }
    Keeps c c'∧Good c':=by
  intro c'
  have hk:Keeps c c':=by
    refine⟨hn,rfl,by show c.w.heap.size≤w'.heap.size;omega,so.1,so.2.1,so.2.2,?_,?_⟩
    · intro k hk hm
      refine⟨hb k hk,?_⟩
      rintro⟨id',o1,h1,h2⟩
      simp only[c',Heap.set] at h1 h2
      split at h1
      · rename_i he
        rw[if_pos he] at h2
        omega
      · rename_i he
        rw[if_neg he] at h2
        exact hm ⟨id',o1,h1,h2⟩
    · intro id' o1 h1 hlt
      simp only[c',Heap.set] at h1
      split at h1
      · rename_i he
        subst he
        obtain⟨o,ho,hs,hl⟩:=hold hlt
        cases h1
        exact⟨o,ho,hs,Nat.le_of_lt hl,fun h=>by omega⟩
      · rename_i he
        refine⟨o1,h1,rfl,Nat.le_refl _,fun _=>⟨by simp[c',he],fun cl0 el0 fz0 h0=>?_⟩⟩
        simp only[c'] at h0
        rw[hb _ (g.lt h1)] at h0
        exact⟨cl0,el0,fz0,h0,Nat.le_refl _⟩
  refine⟨hk,⟨?_,?_,?_,?_,g.tabOn hk⟩⟩
  · intro id' o1 h1
    simp only[c',Heap.set] at h1
    split at h1
    · rename_i he;subst he;exact hid
    · exact Nat.lt_of_lt_of_le (g.stamp _ _ h1) hn
  · intro a b oa ob ha hb' hab
    simp only[c',Heap.set] at ha hb' hab
    by_cases h1:a=id<;>by_cases h2:b=id
    · rw[h1,h2]
    · simp only[h1,h2,if_true,if_false] at hab hb'
      have:=g.lt hb'
      omega
    · simp only[h1,h2,if_true,if_false] at hab ha
      have:=g.lt ha
      omega
    · simp only[h1,h2,if_false] at hab ha hb'
      exact g.inj _ _ _ _ ha hb' hab
  · have:=g.Bsize
    show c.B≤w'.heap.size
    omega
  · intro id' o1 h1
    simp only[c',Heap.set] at h1
    split at h1
    · rename_i he
      subst he
      cases h1
      have hh':=hh.keeps hk
      refine⟨by simp only[c',if_true];exact g.Bsize,cl,el,by simpa only [c',if_true] using hnew,hh'.1,hh'.2⟩
    · rename_i he
      obtain⟨b1,cl1,el1,hc1,hr1⟩:=g.obj id' o1 h1
      refine⟨by simpa only [c',he,if_false] using b1,cl1,el1,?_,(Holds.keeps hk (cl:=cl1) (o:=o1) hr1)⟩
      simp only[c',he,if_false]
      rw[hb _ (g.lt h1)]
      exact hc1
theorem upd_same {c:Ctx} (g:Good c) {id:Id} {o:Ob} (ho:c.H id=some o) (o':Ob) (w':World) (cl cl':Array Value) (el el':TypeId) (so:SameOut c.w w') (hsz:w'.heap.size=c.w.heap.size)
    (hcl:c.w.heap[c.β id]?=some (.cells cl el (0,0)))
    (hb:∀ k,k ≠ c.β id→w'.heap[k]?=c.w.heap[k]?) (hnew:w'.heap[c.β id]?=some (.cells cl' el' (0,0))) (hle:cl.size≤cl'.size)
    (hs:o.size=o'.size) (hl:o.els.length≤o'.els.length) (hh:Holds c cl' o') :
    let c':Ctx:={ c with H:=c.H.set id o',w:=w' }
    Keeps c c'∧Good c':=by
  intro c'
  have hk:Keeps c c':=by
    refine⟨Nat.le_refl _,rfl,by show c.w.heap.size≤w'.heap.size;omega,so.1,so.2.1,so.2.2,?_,?_⟩
    · intro k hk hm
      refine⟨hb k (fun h=>hm ⟨id,o,ho,h.symm⟩),?_⟩
      rintro⟨id',o1,h1,h2⟩
      simp only[c',Heap.set] at h1 h2
      split at h1
      · rename_i he
        subst he
        exact hm ⟨id',o,ho,h2⟩
      · exact hm ⟨id',o1,h1,h2⟩
    · intro id' o1 h1 hlt
      simp only[c',Heap.set] at h1
      split at h1
      · rename_i he
        subst he
        cases h1
        refine⟨o,ho,hs,hl,fun _=>⟨rfl,fun cl0 el0 fz0 h0=>?_⟩⟩
        simp only[c'] at h0
        rw[hnew] at h0
        simp only[Option.some.injEq,Obj.cells.injEq] at h0
        obtain⟨rfl,_,_⟩:=h0
        exact⟨cl,el,_,hcl,hle⟩
      · rename_i he
        refine⟨o1,h1,rfl,Nat.le_refl _,fun _=>⟨rfl,fun cl0 el0 fz0 h0=>?_⟩⟩
        simp only[c'] at h0
        rw[hb _ (fun h=>he (g.inj _ _ _ _ h1 ho h))] at h0
        exact⟨cl0,el0,fz0,h0,Nat.le_refl _⟩
  refine⟨hk,⟨?_,?_,?_,?_,g.tabOn hk⟩⟩
  · intro id' o1 h1
    simp only[c',Heap.set] at h1
    split at h1
    · rename_i he;subst he;exact g.stamp _ _ ho
    · exact g.stamp _ _ h1
  · intro a b oa ob ha hb' hab
    have key:∀ i oi,(c.H.set id o') i=some oi→∃ p,c.H i=some p:=by
      intro i oi hi
      simp only[Heap.set] at hi
      split at hi
      · rename_i he;subst he;exact⟨_,ho⟩
      · exact⟨_,hi⟩
    obtain⟨pa,ha⟩:=key _ _ ha
    obtain⟨pb,hb'⟩:=key _ _ hb'
    exact g.inj _ _ _ _ ha hb' hab
  · have:=g.Bsize
    show c.B≤w'.heap.size
    omega
  · intro id' o1 h1
    simp only[c',Heap.set] at h1
    split at h1
    · rename_i he
      subst he
      cases h1
      have hh':=hh.keeps hk
      exact⟨(g.obj _ _ ho).1,cl',el',hnew,hh'.1,hh'.2⟩
    · rename_i he
      obtain⟨b1,cl1,el1,hc1,hr1⟩:=g.obj id' o1 h1
      refine⟨b1,cl1,el1,?_,(Holds.keeps hk (cl:=cl1) (o:=o1) hr1)⟩
      show w'.heap[c.β id']?=_
      rw[hb _ (fun h=>he (g.inj _ _ _ _ h1 ho h))]
      exact hc1
end Go.Ab
/- The abstract machine, part C: the judgements (an operation, a region, what is left of a body, a call) and the rules of control. -/
namespace Go.Ab
set_option linter.unusedSectionVars false
variable [Inhabited Tabs]
abbrev Env:=Nat→AVal
def Env.put (ρ:Env) (d:Option Nat) (x:AVal):Env:=
  match d with
  | none=>ρ
  | some d=>fun t=>if t=d then x else ρ t
theorem Env.put_none (ρ:Env) (x:AVal):ρ.put none x=ρ:=rfl
theorem Env.put_get (ρ:Env) (d t:Nat) (x:AVal):ρ.put (some d) x t=if t=d then x else ρ t:=rfl
def constA:Value→AVal
  | .agg cs=>.agg (cs.toList.map .v)
  | x=>.v x
def Env.ev (ρ:Env):Operand→AVal
  | .tmp t=>ρ t
  | .const x=>constA x
  | .global g=>.v (.pointer (some ⟨g,0,none⟩))
  | .func f=>.fn (.func f) [] []
theorem Rep.vs (c:Ctx) (l:List Value):∀ (i:Nat) (a:AVal) (x:Value),(l.map AVal.v)[i]?=some a→l[i]?=some x→Rep c a x:=by
  intro i a x ha hx
  rw[List.getElem?_map,hx] at ha
  cases ha
  exact .v x
theorem Rep.const (c:Ctx) (x:Value):Rep c (constA x) x:=by
  cases x with
  | agg cs=>
    have:=Rep.agg (c:=c) (cs.toList.map .v) cs.toList (by simp) (Rep.vs c _)
    simpa[constA] using this
  | _=>exact .v _
theorem Rep.v_inv {c:Ctx} {x y:Value} (h:Rep c (.v x) y):y=x:=by cases h;rfl
structure RelE (N:Nat) (c:Ctx) (ρ:Env) (a:Act):Prop where
  defers:a.defers=[]
  size:a.tmps.size=N
  rep:∀ t,Rep c (ρ t) (a.tmps.getD t undef)
theorem RelE.ev {N:Nat} {c:Ctx} {ρ:Env} {a:Act} (h:RelE N c ρ a) (x:Operand):Rep c (ρ.ev x) (a.eval x):=by
  cases x with
  | tmp t=>exact h.rep t
  | const x=>exact Rep.const c x
  | global g=>exact .v _
  | func f=>exact Rep.fn (c:=c) (.func f) [] [] [] [] rfl rfl (by simp) (by simp)
theorem RelE.keeps {N:Nat} {c c':Ctx} {ρ:Env} {a:Act} (k:Keeps c c') (h:RelE N c ρ a):RelE N c' ρ a:=⟨h.defers,h.size,fun t=>(h.rep t).keeps k⟩
def dok (N:Nat):Option Nat→Bool
  | none=>true
  | some d=>decide (d<N)
theorem RelE.put {N:Nat} {c:Ctx} {ρ:Env} {a:Act} (h:RelE N c ρ a) {d:Option Nat} (hd:dok N d=true) {v:AVal} {x:Value} (hr:Rep c v x):RelE N c (ρ.put d v) (a.put d x):=by
  cases d with
  | none=>exact h
  | some d=>
    have hd':d<N:=by simpa[dok] using hd
    refine⟨h.defers,by simp[Act.put,h.size],fun t=>?_⟩
    simp only[Act.put,Env.put]
    by_cases ht:t=d
    · subst ht
      have hs:t<a.tmps.size:=by rw[h.size];exact hd'
      have hv:(a.tmps.setIfInBounds t x).getD t undef=x:=by simp[Array.getD,hs]
      rw[if_pos rfl,hv]
      exact hr
    · rw[if_neg ht]
      have:(a.tmps.setIfInBounds d x).getD t undef=a.tmps.getD t undef:=by
        simp only[Array.getD_eq_getD_getElem?]
        rw[Array.getElem?_setIfInBounds_ne (by omega)]
      rw[this]
      exact h.rep t
def OpSem (P:Program) (N:Nat) (o:Oper) (ρ:Env) (H:Heap) (n:Nat) (post:AVal→Heap→Nat→Prop):Prop:=
  ∀ (c:Ctx) (a:Act),c.H=H→c.n=n→Good c→RelE N c ρ a→∀ (next:Act→World→Prop) (Q:Exit→Act→World→Prop),
    (∀ v x c',post v c'.H c'.n→Rep c' v x→Good c'→Keeps c c'→next (a.put o.dst x) c'.w)→o.wp P a c.w next Q
theorem OpSem.mono {P:Program} {N:Nat} {o:Oper} {ρ:Env} {H:Heap} {n:Nat} {post post':AVal→Heap→Nat→Prop} (h:OpSem P N o ρ H n post) (hp:∀ v H' n',post v H' n'→post' v H' n'):OpSem P N o ρ H n post':=
  fun c a hH hn g r next Q k=>h c a hH hn g r next Q fun v x c' hpost=>k v x c' (hp _ _ _ hpost)
theorem OpSem.of_value {P:Program} {N:Nat} {o:Oper} {ρ:Env} {H:Heap} {n:Nat} {post:AVal→Heap→Nat→Prop}
    (h:∀ (c:Ctx) (a:Act),c.H=H→c.n=n→Good c→RelE N c ρ a→∃ v x c',(execOp a.eval o).run P c.w = .ok (.value x) c'.w∧post v c'.H c'.n∧Rep c' v x∧Good c'∧Keeps c c') :
    OpSem P N o ρ H n post:=by
  intro c a hH hn g r next Q k
  obtain⟨v,x,c',hrun,hpost,hrep,hg,hk⟩:=h c a hH hn g r
  unfold Oper.wp
  rw[hrun]
  exact k v x c' hpost hrep hg hk
theorem OpSem.of_skip {P:Program} {N:Nat} {o:Oper} {ρ:Env} {H:Heap} {n:Nat} {post:AVal→Heap→Nat→Prop}
    (h:∀ (c:Ctx) (a:Act),c.H=H→c.n=n→Good c→RelE N c ρ a→∃ c',(execOp a.eval o).run P c.w = .ok .skip c'.w∧post .undef c'.H c'.n∧Good c'∧Keeps c c') :
    OpSem P N o ρ H n post:=by
  intro c a hH hn g r next Q k
  obtain⟨c',hrun,hpost,hg,hk⟩:=h c a hH hn g r
  unfold Oper.wp
  rw[hrun]
  exact k .undef undef c' hpost (.undef _) hg hk
def RunO (P:Program) (N:Nat) (ops:Array Oper) (l:List Oper) (ρ:Env) (H:Heap) (n:Nat) (R:Env→Heap→Nat→Prop):Prop:=
  ∀ (c:Ctx) (a:Act),c.H=H→c.n=n→Good c→RelE N c ρ a→∀ (Q:Exit→Act→World→Prop),
    (∀ a' c' ρ',Keeps c c'→Good c'→RelE N c' ρ' a'→R ρ' c'.H c'.n→Q .normal a' c'.w)→wpList P ops Q l a c.w
theorem RunO.nil {P:Program} {N:Nat} {ops:Array Oper} {ρ:Env} {H:Heap} {n:Nat} {R:Env→Heap→Nat→Prop} (h:R ρ H n):RunO P N ops [] ρ H n R:=by
  intro c a hH hn g r Q k
  subst hH;subst hn
  exact k a c ρ (Keeps.refl c) g r h
theorem RunO.op {P:Program} {N:Nat} {ops:Array Oper} {o:Oper} {l:List Oper} {ρ:Env} {H:Heap} {n:Nat} {R:Env→Heap→Nat→Prop} (hg:o.guard=none) (hd:dok N o.dst=true)
    (h:OpSem P N o ρ H n fun v H' n'=>RunO P N ops l (ρ.put o.dst v) H' n' R):RunO P N ops (o::l) ρ H n R:=by
  intro c a hH hn g r Q k
  unfold wpList
  rw[if_pos (by simp[Region.wanted,hg])]
  refine .inl (h c a hH hn g r _ _ fun v x c' hpost hrep hgood hk=>?_)
  exact hpost c' (a.put o.dst x) rfl rfl hgood ((r.keeps hk).put hd hrep) Q fun a' c'' ρ' hk' hg' hr' hR=>k a' c'' ρ' (hk.trans hk') hg' hr' hR
theorem yielded_of {N:Nat} {c:Ctx} {ρ:Env} {a:Act} (r:RelE N c ρ a) {ops:Array Oper} {j t:Nat} {b:Bool} (hj:(ops[j]?).bind (·.dst)=some t) (ht:dok N (some t)=true) (hv:ρ t = .v (.bool b)):yielded ops a.tmps j=some b:=by
  have h:=r.rep t
  rw[hv] at h
  have hlt:t<a.tmps.size:=by rw[r.size];simpa[dok] using ht
  have hb:a.tmps.getD t undef = .bool b:=h.v_inv
  have:a.tmps[t]?=some (.bool b):=by
    rw[Array.getElem?_eq_getElem hlt]
    simp only[Array.getD,hlt,dif_pos] at hb
    exact congrArg some hb
  simp[yielded,hj,this]
abbrev skv:AVal:=.v Go.undef
theorem RunO.guarded {P:Program} {N:Nat} {ops:Array Oper} {o:Oper} {l:List Oper} {ρ:Env} {H:Heap} {n:Nat} {R:Env→Heap→Nat→Prop} {j t:Nat} {want b:Bool} (hg:o.guard=some (j,want)) (hd:dok N o.dst=true)
    (hj:(ops[j]?).bind (·.dst)=some t) (ht:dok N (some t)=true) (hv:ρ t = .v (.bool b))
    (hy:b=want→OpSem P N o ρ H n fun v H' n'=>RunO P N ops l (ρ.put o.dst v) H' n' R) (hno:b ≠ want→RunO P N ops l (ρ.put o.dst skv) H n R):RunO P N ops (o::l) ρ H n R:=by
  intro c a hH hn g r Q k
  have hyi:=yielded_of r hj ht hv
  unfold wpList
  by_cases hb:b=want
  · rw[if_pos (by simp[Region.wanted,hg,hyi,hb])]
    refine .inl (hy hb c a hH hn g r _ _ fun v x c' hpost hrep hgood hk=>?_)
    exact hpost c' (a.put o.dst x) rfl rfl hgood ((r.keeps hk).put hd hrep) Q fun a' c'' ρ' hk' hg' hr' hR=>k a' c'' ρ' (hk.trans hk') hg' hr' hR
  · rw[if_neg (by simp[Region.wanted,hg,hyi,hb])]
    exact hno hb c (a.put o.dst undef) hH hn g (r.put hd (.v _)) Q k
theorem yielded_none {N:Nat} {c:Ctx} {ρ:Env} {a:Act} (r:RelE N c ρ a) {ops:Array Oper} {j t:Nat} {xs:Array Value} (hj:(ops[j]?).bind (·.dst)=some t) (ht:dok N (some t)=true) (hv:ρ t = .v (.tuple xs)):yielded ops a.tmps j=none:=by
  have h:=r.rep t
  rw[hv] at h
  have hlt:t<a.tmps.size:=by rw[r.size];simpa[dok] using ht
  have hb:a.tmps.getD t undef = .tuple xs:=h.v_inv
  have:a.tmps[t]?=some (.tuple xs):=by
    rw[Array.getElem?_eq_getElem hlt]
    simp only[Array.getD,hlt,dif_pos] at hb
    exact congrArg some hb
  simp[yielded,hj,this]
theorem RunO.skipped {P:Program} {N:Nat} {ops:Array Oper} {o:Oper} {l:List Oper} {ρ:Env} {H:Heap} {n:Nat} {R:Env→Heap→Nat→Prop} {j t:Nat} {want:Bool} {xs:Array Value} (hg:o.guard=some (j,want)) (hd:dok N o.dst=true)
    (hj:(ops[j]?).bind (·.dst)=some t) (ht:dok N (some t)=true) (hv:ρ t = .v (.tuple xs)) (h:RunO P N ops l (ρ.put o.dst skv) H n R):RunO P N ops (o::l) ρ H n R:=by
  intro c a hH hn g r Q k
  have hyi:=yielded_none r hj ht hv
  unfold wpList
  rw[if_neg (by simp[Region.wanted,hg,hyi])]
  exact h c (a.put o.dst undef) hH hn g (r.put hd (.v _)) Q k
def Runs (P:Program) (f:FuncId) (N:Nat) (k:List Item) (ρ:Env) (H:Heap) (n:Nat) (Q:AVal→Heap→Nat→Prop):Prop:=
  ∀ (c:Ctx) (a:Act),c.H=H→c.n=n→Good c→RelE N c ρ a→∀ (b:Frame) (cs:List Frame),b.fn=f→b.kind = .normal →
    ∃ x v c' fr,Q v c'.H c'.n∧Rep c' v x∧Good c'∧Keeps c c'∧Steps P (lone (b.at a k) cs c.w) (lone fr cs c'.w)∧fr.fn=f∧fr.leaving P c'.w (.returned x)
section
variable {P:Program} {f:FuncId} {N:Nat} {k:List Item} {ρ:Env} {H:Heap} {n:Nat} {Q:AVal→Heap→Nat→Prop}
theorem Runs.step {k k':List Item} (hs:∀ (c:Ctx) (a:Act) (b:Frame) (cs:List Frame),RelE N c ρ a→step P (lone (b.at a k) cs c.w) = .next (lone (b.at a k') cs c.w)) (h:Runs P f N k' ρ H n Q):Runs P f N k ρ H n Q:=by
  intro c a hH hn g r b cs hf hk
  obtain⟨x,v,c',fr,q,hr,hg,hke,hst,rest⟩:=h c a hH hn g r b cs hf hk
  exact⟨x,v,c',fr,q,hr,hg,hke,.head (hs c a b cs r) hst,rest⟩
theorem Runs.skip (h:Runs P f N k ρ H n Q):Runs P f N (.code .skip::k) ρ H n Q:=.step (fun _ _ _ _ _=>step_skip) h
theorem Runs.inBlock {id:Nat} (h:Runs P f N k ρ H n Q):Runs P f N (.inBlock id::k) ρ H n Q:=.step (fun _ _ _ _ _=>step_inBlock) h
theorem Runs.seq {x y:Code} (h:Runs P f N (.code x::.code y::k) ρ H n Q):Runs P f N (.code (.seq x y)::k) ρ H n Q:=.step (fun _ _ _ _ _=>step_seq) h
theorem Runs.block {id:Nat} {x:Code} (h:Runs P f N (.code x::.inBlock id::k) ρ H n Q):Runs P f N (.code (.block id x)::k) ρ H n Q:=.step (fun _ _ _ _ _=>step_block) h
theorem Runs.loop {x:Code} (h:Runs P f N (.code x::.inLoop x::k) ρ H n Q):Runs P f N (.code (.loop x)::k) ρ H n Q:=.step (fun _ _ _ _ _=>step_loop) h
theorem Runs.inLoop {x:Code} (h:Runs P f N (.code x::.inLoop x::k) ρ H n Q):Runs P f N (.inLoop x::k) ρ H n Q:=.step (fun _ _ _ _ _=>step_inLoop) h
theorem Runs.exit {id:Nat} {k':List Item} (he:exitTo id k=some k') (h:Runs P f N k' ρ H n Q):Runs P f N (.code (.exit id)::k) ρ H n Q:=.step (fun _ _ _ _ _=>step_exit he) h
theorem Runs.cond {t:Operand} {x y:Code} {b:Bool} (hb:ρ.ev t = .v (.bool b)) (h:Runs P f N (.code (if b then x else y)::k) ρ H n Q):Runs P f N (.code (.cond t x y)::k) ρ H n Q:=
  .step (fun _ a _ _ r=>step_cond (by have:=r.ev t;rw[hb] at this;exact this.v_inv)) h
theorem Runs.region {id:Nat} {ops:Array Oper} (h:RunO P N ops ops.toList ρ H n fun ρ' H' n'=>Runs P f N k ρ' H' n' Q):Runs P f N (.code (.region id ops false)::k) ρ H n Q:=by
  intro c a hH hn g r b cs hf hk
  have hw:(Code.region id ops false).wp P (fun e a' w'=>e = .normal∧∃ c' ρ',c'.w=w'∧Keeps c c'∧Good c'∧RelE N c' ρ' a'∧Runs P f N k ρ' c'.H c'.n Q) a c.w:=
    wp_region_list (h c a hH hn g r _ fun a' c' ρ' hk' hg' hr' hR=>⟨rfl,c',ρ',rfl,hk',hg',hr',hR⟩)
  obtain⟨e,a',w',⟨rfl,c',ρ',rfl,hk',hg',hr',hR⟩,harr⟩:=hw b k cs
  obtain⟨x,v,c'',fr,q,hr,hg,hke,hst,rest⟩:=hR c' a' rfl rfl hg' hr' b cs hf hk
  exact⟨x,v,c'',fr,q,hr,hg,hk'.trans hke,Steps.trans harr hst,rest⟩
def RetOk (P:Program) (N:Nat) (fn:Func) (ρ:Env) (H:Heap) (n:Nat) (v:AVal):Prop:=
  ∀ (c:Ctx) (a:Act),c.H=H→c.n=n→Good c→RelE N c ρ a→∃ x,(results fn a.tmps).run P c.w = .ok x c.w∧Rep c v x
theorem Runs.ret {fn:Func} {v:AVal} (hfn:P.funcs[f]?=some fn) (hr:RetOk P N fn ρ H n v) (hq:Q v H n):Runs P f N (.code .ret::k) ρ H n Q:=by
  intro c a hH hn g r b cs hf hk
  obtain⟨x,hx,hrep⟩:=hr c a hH hn g r
  refine⟨x,v,c,{ b.at a (.code .ret::k) with mode:=.returning },by rw[hH,hn];exact hq,hrep,g,Keeps.refl c,.one step_ret,hf,rfl,r.defers,hk,fn,by simpa[Frame.at,hf] using hfn,hx⟩
end
def RepL (c:Ctx) (as1:List AVal) (xs:List Value):Prop:=as1.length=xs.length∧∀ (i:Nat) (a:AVal) (x:Value),as1[i]?=some a→xs[i]?=some x→Rep c a x
def CallsA (P:Program) (f:FuncId) (args:List AVal) (H:Heap) (n:Nat) (Q:AVal→Heap→Nat→Prop):Prop:=
  ∀ (c:Ctx) (xs:List Value),c.H=H→c.n=n→Good c→RepL c args xs →
    Calls P f xs.toArray c.w fun e w'=>∃ x v c',e = .returned x∧c'.w=w'∧Q v c'.H c'.n∧Rep c' v x∧Good c'∧Keeps c c'
theorem CallsA.mono {P:Program} {f:FuncId} {args:List AVal} {H:Heap} {n:Nat} {Q Q':AVal→Heap→Nat→Prop} (h:CallsA P f args H n Q) (hq:∀ v H n,Q v H n→Q' v H n):CallsA P f args H n Q':=
  fun c xs hH hn g r=>(h c xs hH hn g r).mono fun _ _ ⟨x,v,c',he,hw,q,rest⟩=>⟨x,v,c',he,hw,hq _ _ _ q,rest⟩
def argEnv (args:List AVal):Env:=fun t=>(args[t]?).getD .undef
theorem CallsA.of_runs {P:Program} {f:FuncId} {fn:Func} {body:Code} {args:List AVal} {H:Heap} {n:Nat} {Q:AVal→Heap→Nat→Prop} (hfn:P.funcs[f]?=some fn) (hb:fn.body=some body) (hN:args.length≤fn.ntmps)
    (h:Runs P f fn.ntmps [.code body] (argEnv args) H n Q):CallsA P f args H n Q:=by
  intro c xs hH hn g r cs
  let b:Frame:={ (default:Frame) with fn:=f,kind:=.normal }
  have henter:Frame.enter P f xs.toArray .normal=b.at { tmps:=xs.toArray++Array.replicate (fn.ntmps - xs.toArray.size) undef,defers:=[] } [.code body]:=by
    simp[Frame.enter,Frame.at,hfn,hb,b]
  have hre:RelE fn.ntmps c (argEnv args) { tmps:=xs.toArray++Array.replicate (fn.ntmps - xs.toArray.size) undef,defers:=[] }:=by
    have hl:=r.1
    refine⟨rfl,by simp;omega,fun t=>?_⟩
    simp only[argEnv]
    cases ha:args[t]? with
    | none=>exact .undef _
    | some v=>
      have hlt:t<args.length:=(List.getElem?_eq_some_iff.1 ha).1
      have hx:xs[t]?=some (xs[t]'(by omega)):=List.getElem?_eq_getElem (by omega)
      have:(xs.toArray++Array.replicate (fn.ntmps - xs.toArray.size) undef).getD t undef=xs[t]'(by omega):=by
        rw[Array.getD_eq_getD_getElem?,Array.getElem?_append_left (by simp;omega)]
        simp[hx]
      rw[this]
      exact r.2 t v _ ha hx
  obtain⟨x,v,c',fr,q,hr,hg,hk,hst,hfr,hlv⟩:=h c _ hH hn g hre b cs rfl rfl
  rw[henter]
  exact⟨.returned x,c'.w,fr,⟨x,v,c',rfl,rfl,q,hr,hg,hk⟩,hst,hfr,hlv⟩
def Ent (P : Program) (f : FuncId) : Prop := ∃ fn body, P.funcs[f]? = some fn ∧ (fn.name == "runtime.NumGoroutine") = false ∧ fn.body = some body
theorem Rep.argsOf {N:Nat} {c:Ctx} {ρ:Env} {a:Act} (r:RelE N c ρ a) (l:List Operand):RepL c (l.map ρ.ev) (l.map a.eval):=by
  refine⟨by simp,fun i v x hv hx=>?_⟩
  rw[List.getElem?_map] at hv hx
  cases h:l[i]? with
  | none=>simp[h] at hv
  | some y=>
    simp only[h,Option.map_some,Option.some.injEq] at hv hx
    rw[← hv,← hx]
    exact r.ev y
theorem RepL.append {c:Ctx} {as1 bs:List AVal} {xs ys:List Value} (h:RepL c as1 xs) (k:RepL c bs ys):RepL c (as1++bs) (xs++ys):=by
  refine⟨by simp[h.1,k.1],fun i v x hv hx=>?_⟩
  have hl:=h.1
  by_cases hi:i<as1.length
  · rw[List.getElem?_append_left hi] at hv
    rw[List.getElem?_append_left (by omega)] at hx
    exact h.2 i v x hv hx
  · rw[List.getElem?_append_right (by omega)] at hv
    rw[List.getElem?_append_right (by omega),← hl] at hx
    exact k.2 _ v x hv hx
theorem OpSem.call {P:Program} {N:Nat} {d:Option Tmp} {g:Operand} {args:Array Operand} {ats:Array TypeId} {ty:TypeId} {pos:String} {af:Array Edge} {gu:Option (Nat × Bool)} {ρ:Env} {H:Heap} {n:Nat} {post:AVal→Heap→Nat→Prop}
    {f:FuncId} {first captured:List AVal} (hg:ρ.ev g = .fn (.func f) first captured) (hent:Ent P f) (h:CallsA P f (first++args.toList.map ρ.ev++captured) H n post) :
    OpSem P N ⟨d,.call ⟨.value g,args,ats⟩,ty,pos,af,gu⟩ ρ H n post:=by
  intro c a hH hn gd r next Q k
  have hr:=r.ev g
  rw[hg] at hr
  generalize hx:a.eval g=x at hr
  cases hr with
  | fn _ _ _ vs us hl hl' h1 h2=>
    obtain⟨fn,body,hfn,hname,hbody⟩:=hent
    have hname : fn.name ≠ "runtime.NumGoroutine" := by simpa using hname
    have hrun:(execOp a.eval ⟨d,.call ⟨.value g,args,ats⟩,ty,pos,af,gu⟩).run P c.w = .ok (.enter f (vs++args.toList.map a.eval++us).toArray) c.w:=by
      have e1:args.map a.eval=(args.toList.map a.eval).toArray:=by
        apply Array.ext'
        simp
      simp[execOp,resolve,hx,Deferred.ofValue,invoke,callFunc,Bind.bind,Pure.pure,Sem.bind,Sem.run,program,hfn,hname,hbody,e1]
    unfold Oper.wp
    rw[hrun]
    show Calls P f _ _ _
    refine (h c (vs++args.toList.map a.eval++us) hH hn gd (RepL.append (RepL.append ⟨hl,h1⟩ (Rep.argsOf r _)) ⟨hl',h2⟩)).mono ?_
    rintro e w' ⟨x,v,c',rfl,rfl,q,hrep,hgood,hk⟩
    exact k v x c' q hrep hgood hk
end Go.Ab
/- The abstract machine, part D: memory seen through a pointer; reading it and writing it. -/
namespace Go.Ab
set_option linter.unusedSectionVars false
variable [Inhabited Tabs]
def View (c:Ctx) (b off:Nat) (cs:List AVal):Prop:=∀ (j:Nat) (x:AVal),cs[j]?=some x→∃ v,c.w.cell? ⟨b,off+j,none⟩=some v∧Rep c x v
theorem View.vals {c:Ctx} {b:Nat}:∀ {cs:List AVal} {off:Nat},View c b off cs→∃ vs:List Value,RepL c cs vs∧∀ (j:Nat) (v:Value),vs[j]?=some v→c.w.cell? ⟨b,off+j,none⟩=some v
  | [],off,_=>⟨[],⟨rfl,by simp⟩,by simp⟩
  | x::cs,off,h=>by
    obtain⟨v,hv,hr⟩:=h 0 x rfl
    have ht:View c b (off+1) cs:=fun j y hy=>by
      obtain⟨u,hu,hru⟩:=h (j+1) y (by simpa using hy)
      exact⟨u,by rw[show off+1+j=off+(j+1) by omega];exact hu,hru⟩
    obtain⟨vs,hl,hc⟩:=View.vals ht
    refine⟨v::vs,⟨by simp[hl.1],?_⟩,?_⟩
    · intro i a y ha hy
      cases i with
      | zero=>simp at ha hy;rw[← ha,← hy];exact hr
      | succ i=>exact hl.2 i a y (by simpa using ha) (by simpa using hy)
    · intro j y hy
      cases j with
      | zero=>simp at hy;rw[← hy];simpa using hv
      | succ j=>
        have:=hc j y (by simpa using hy)
        rwa [show off+1+j=off+(j+1) by omega] at this
theorem View.take {c:Ctx} {b off:Nat} {cs:List AVal} (h:View c b off cs) (k:Nat):View c b off (cs.take k):=fun j x hx=>by
  rw[List.getElem?_take] at hx
  split at hx
  · exact h j x hx
  · cases hx
def viewOf (H:Heap):AVal→Option (List AVal)
  | .ptr id gen idx off=>
    match H id with
    | some o=>if o.els.length=gen then (o.els[idx]?).map (·.drop off) else none
    | none=>none
  | .iptr _ cs=>some cs
  | _=>none
theorem viewOf_ok {c:Ctx} (g:Good c) {p:AVal} {x:Value} (r:Rep c p x) {cs:List AVal} (h:viewOf c.H p=some cs):∃ b off,x = .pointer (some ⟨b,off,none⟩)∧View c b off cs:=by
  cases r with
  | ptr id gen idx off x ho hn hg hp=>
    simp only[viewOf] at h
    split at h
    · rename_i o ho
      split at h
      · rename_i hl
        obtain⟨_,hx⟩:=hp o ho hl
        cases he:o.els[idx]? with
        | none=>simp[he] at h
        | some e=>
          simp only[he,Option.map_some,Option.some.injEq] at h
          subst h
          refine⟨c.β id,idx * o.size+off,hx,fun j y hy=>?_⟩
          rw[List.getElem?_drop] at hy
          obtain⟨v,hv,hr⟩:=g.cell ho he hy
          exact⟨v,by rw[Nat.add_assoc];exact hv,hr⟩
      · cases h
    · cases h
  | iptr fr cs a cell hs hm hb hf hc hr=>
    simp only[viewOf,Option.some.injEq] at h
    subst h
    obtain⟨b,off,sp⟩:=a
    simp only at hs
    subst hs
    exact⟨b,off,rfl,fun j y hy=>⟨cell j,hc j y hy,hr j y hy⟩⟩
  | _=>simp[viewOf] at h
theorem RepL.agg {c:Ctx} {cs:List AVal} {vs:List Value} (h:RepL c cs vs):Rep c (.agg cs) (.agg vs.toArray):=.agg cs vs h.1 h.2
structure TI where
  desc:TypeDesc
  size:Nat
  bytes:Nat
  zero:List Value
def TI.isAgg (i:TI):Bool:=match i.desc with | .struct _ | .array _ _=>true | _=>false
def TyOk (P:Program) (t:TypeId) (i:TI):Prop:=P.underlying t=some i.desc∧∃ info zv,P.info? t=some info∧info.size=i.size∧info.bytes=i.bytes∧info.zero=some zv∧zv.cells=i.zero.toArray
abbrev Types:=TypeId→Option TI
def TypesOk (P:Program) (Ty:Types):Prop:=∀ t i,Ty t=some i→TyOk P t i
section
variable {P:Program} {t:TypeId} {i:TI} (h:TyOk P t i) (w:World)
include h
theorem TyOk.run_size:(sizeOf t).run P w = .ok i.size w:=by
  obtain⟨_,info,zv,hi,hs,_⟩:=h
  simp[sizeOf,typeInfo,hi,hs]
theorem TyOk.run_desc:(underlying t).run P w = .ok i.desc w:=run_underlying h.1 w
theorem TyOk.run_isAgg:(isAgg t).run P w = .ok i.isAgg w:=by
  simp only[isAgg,Sem.run_bind,h.run_desc,Result.andThen_ok,TI.isAgg]
  split<;>split<;>simp_all
theorem TyOk.run_zero:∃ zv:Value,(zeroValue t).run P w = .ok zv w∧zv.cells=i.zero.toArray:=by
  obtain⟨_,info,zv,hi,_,_,hz,hc⟩:=h
  exact⟨zv,by simp[zeroValue,typeInfo,hi,hz],hc⟩
end
def loadA (i:TI) (cs:List AVal):Option AVal:=if i.isAgg then (if i.size≤cs.length then some (.agg (cs.take i.size)) else none) else cs[0]?
theorem run_loadVar {P:Program} {t:TypeId} {i:TI} (ht:TyOk P t i) {c:Ctx} {b off:Nat} {cs:List AVal} (hv:View c b off cs) {a:AVal} (h:loadA i cs=some a) :
    ∃ x,(loadVar t ⟨b,off,none⟩).run P c.w = .ok x c.w∧Rep c a x:=by
  unfold loadA at h
  split at h
  · rename_i hagg
    split at h
    · rename_i hsz
      simp only[Option.some.injEq] at h
      subst h
      obtain⟨vs,hl,hc⟩:=(hv.take i.size).vals
      have hlen:vs.length=i.size:=by rw[← hl.1,List.length_take];omega
      refine⟨.agg vs.toArray,?_,hl.agg⟩
      have hr:=run_loadCells_list (P:=P) c.w ⟨b,off,none⟩ vs (fun j v hj=>by rw[Addr.add_lit];exact hc j v hj)
      rw[hlen] at hr
      simp[loadVar,ht.run_isAgg,hagg,ht.run_size,hr]
    · cases h
  · rename_i hagg
    obtain⟨v,hcell,hr⟩:=hv 0 a h
    have hcell':c.w.cell? ⟨b,off,none⟩=some v:=by simpa using hcell
    exact⟨v,by simp[loadVar,ht.run_isAgg,hagg,hcell'],hr⟩
def cellsA:AVal→Option (List AVal)
  | .agg cs=>some cs
  | .v (.agg cs)=>some (cs.toList.map .v)
  | .v (.tuple _) | .tup _ | .undef=>none
  | x=>some [x]
def one1:AVal→Bool
  | .undef | .agg _ | .tup _=>false
  | .v x=>one x
  | _=>true
theorem full_one {x:Value} (h:full x=true):one x=true:=by
  cases x<;>first | rfl | (simp[full] at h)
theorem one_of {c:Ctx} {a:AVal} {x:Value} (r:Rep c a x) (h:one1 a=true):one x=true:=by
  cases r<;>first | (simp[one1] at h;done) | assumption | rfl | exact full_one (by assumption) | (simp[one1] at h;exact h)
theorem one_oneCell {x:Value} (h:one x=true):x.oneCell'=true:=by cases x<;>simp_all [one,Value.oneCell']
theorem one_cells {x:Value} (h:one x=true):x.cells=#[x]:=by cases x<;>simp_all [one,Value.cells]
theorem cellsA_ok {c:Ctx} {a:AVal} {x:Value} (r:Rep c a x) {cs:List AVal} (h:cellsA a=some cs):∃ vs:List Value,x.cells=vs.toArray∧RepL c cs vs:=by
  cases r with
  | agg cs' vs hl hr=>simp only[cellsA,Option.some.injEq] at h;subst h;exact⟨vs,rfl,hl,hr⟩
  | v x=>
    cases x with
    | agg l=>simp only[cellsA,Option.some.injEq] at h;subst h;exact⟨l.toList,by simp[Value.cells],by simp,Rep.vs c _⟩
    | tuple l=>simp[cellsA] at h
    | _=>
      simp only[cellsA,Option.some.injEq] at h
      subst h
      refine⟨[_],rfl,rfl,fun i a y ha hy=>?_⟩
      cases i with
      | zero=>simp at ha hy;rw[← ha,← hy];exact .v _
      | succ i=>simp at ha
  | undef=>simp[cellsA] at h
  | tup=>simp[cellsA] at h
  | _=>
    simp only[cellsA,Option.some.injEq] at h
    subst h
    refine⟨[_],one_cells (by first | assumption | rfl | exact full_one (by assumption)),rfl,fun i a y ha hy=>?_⟩
    cases i with
    | zero=>simp at ha hy;rw[← ha,← hy];constructor<;>assumption
    | succ i=>simp at ha
theorem RepL.one {c:Ctx} {cs:List AVal} {vs:List Value} (h:RepL c cs vs) (h1:cs.all one1=true):∀ v ∈ vs,v.oneCell'=true:=by
  intro v hv
  obtain⟨i,hi,hiv⟩:=List.getElem_of_mem hv
  have hl:=h.1
  have ha:cs[i]?=some (cs[i]'(by omega)):=List.getElem?_eq_getElem (by omega)
  refine one_oneCell (one_of (h.2 i _ v ha (by rw[← hiv];exact List.getElem?_eq_getElem hi)) ?_)
  exact List.all_eq_true.1 h1 _ (List.getElem_mem _)
def splice (e:List AVal) (off:Nat) (new:List AVal):List AVal:=e.take off++new++e.drop (off+new.length)
def Ob.write (o:Ob) (idx off:Nat) (new:List AVal):Ob:={ o with els:=o.els.set idx (splice (o.els.getD idx []) off new) }
theorem splice_length {e new:List AVal} {off:Nat} (h:off+new.length≤e.length):(splice e off new).length=e.length:=by
  simp[splice];omega
def over (cl:Array Value) (k:Nat) (vs:List Value):Array Value:=(cl.toList.take k++vs++cl.toList.drop (k+vs.length)).toArray
theorem over_size {cl:Array Value} {k:Nat} {vs:List Value} (h:k+vs.length≤cl.size):(over cl k vs).size=cl.size:=by
  simp[over];omega
theorem over_get {cl:Array Value} {k:Nat} {vs:List Value} (h:k+vs.length≤cl.size) (j:Nat):(over cl k vs)[j]?=if k≤j∧j<k+vs.length then vs[j - k]? else cl[j]?:=by
  simp only[over,List.getElem?_toArray]
  have hk:(cl.toList.take k).length=k:=by simp;omega
  by_cases h1:j<k
  · rw[List.append_assoc,List.getElem?_append_left (by omega),if_neg (by omega)]
    simp[h1]
  · by_cases h2:j<k+vs.length
    · rw[if_pos ⟨by omega,h2⟩,List.append_assoc,List.getElem?_append_right (by omega),List.getElem?_append_left (by omega),hk]
    · rw[if_neg (by omega),List.getElem?_append_right (by simp;omega)]
      simp only[List.length_append,hk,List.getElem?_drop,Array.getElem?_toList]
      congr 1
      omega
theorem store_ob {c:Ctx} (g:Good c) {id:Id} {o:Ob} (ho:c.H id=some o) {idx off:Nat} {new:List AVal} {vs:List Value} (hi:idx<o.els.length) (hoff:off+new.length≤o.size) (hr:RepL c new vs) (h1:new.all one1=true) (P:Program) :
    ∃ w',(storeCells ⟨c.β id,idx * o.size+off,none⟩ vs).run P c.w = .ok () w'∧Keeps c { c with H:=c.H.set id (o.write idx off new),w:=w' }∧Good { c with H:=c.H.set id (o.write idx off new),w:=w' }:=by
  obtain⟨hB,cl,el,hh,hsz,hel⟩:=g.obj id o ho
  have hlen:=hr.1
  have hmul:idx * o.size+o.size≤o.els.length * o.size:=by
    have:=Nat.mul_le_mul_right o.size (show idx+1≤o.els.length by omega)
    rwa [Nat.add_mul,Nat.one_mul] at this
  have hfit:idx * o.size+off+vs.length≤cl.size:=by omega
  have hrun:=run_storeCells_at P (c.β id) (idx * o.size+off) el vs 0 cl c.w hh (by simpa using hfit) (hr.one h1)
  simp only[Nat.add_zero] at hrun
  have he:o.els[idx]?=some o.els[idx]:=List.getElem?_eq_getElem hi
  have hgetD:o.els.getD idx []=o.els[idx]:=by simp[List.getD,he]
  have helen:=(hel idx _ he).1
  refine⟨_,hrun,upd_same g ho (o.write idx off new) _ cl (over cl (idx * o.size+off) vs) el el ⟨rfl,rfl,rfl⟩ (by simp[World.setRow]) hh (fun k hk=>setRow_other c.w _ k _ hk) (setRow_heap c.w _ cl _ el _ hh) (by rw[over_size hfit];exact Nat.le_refl _) rfl (by simp[Ob.write]) ⟨?_,?_⟩⟩
  · rw[over_size hfit];simpa[Ob.write] using hsz
  · intro i e hie
    simp only[Ob.write,List.getElem?_set,hgetD] at hie
    show e.length=o.size∧_
    by_cases hix:idx=i
    · subst hix
      rw[if_pos rfl,if_pos hi] at hie
      simp only[Option.some.injEq] at hie
      subst hie
      refine⟨by rw[splice_length (by omega),helen],fun j a ha=>?_⟩
      have hj:j<o.size:=by
        have:=(List.getElem?_eq_some_iff.1 ha).1
        rwa [splice_length (by omega),helen] at this
      show ∃ x,(over cl (idx * o.size+off) vs)[idx * o.size+j]?=some x∧_
      rw[over_get hfit]
      simp only[splice] at ha
      by_cases c1:j<off
      · rw[List.append_assoc,List.getElem?_append_left (by simp;omega),List.getElem?_take,if_pos c1] at ha
        rw[if_neg (by omega)]
        exact (hel idx _ he).2 j a ha
      · by_cases c2:j<off+new.length
        · rw[List.append_assoc,List.getElem?_append_right (by simp;omega),List.getElem?_append_left (by simp;omega)] at ha
          rw[if_pos (by omega)]
          have hm:min off o.els[idx].length=off:=by omega
          simp only[List.length_take,hm] at ha
          have hv:vs[j - off]?=some (vs[j - off]'(by omega)):=List.getElem?_eq_getElem (by omega)
          exact⟨_,by rw[show idx * o.size+j - (idx * o.size+off)=j - off by omega];exact hv,hr.2 _ _ _ ha hv⟩
        · rw[List.getElem?_append_right (by simp;omega)] at ha
          have hm:min off o.els[idx].length=off:=by omega
          simp only[List.length_append,List.length_take,hm,List.getElem?_drop] at ha
          rw[show off+new.length+(j - (off+new.length))=j by omega] at ha
          rw[if_neg (by omega)]
          exact (hel idx _ he).2 j a ha
    · rw[if_neg hix] at hie
      refine⟨(hel i e hie).1,fun j a ha=>?_⟩
      have hj:j<o.size:=by
        have:=(List.getElem?_eq_some_iff.1 ha).1
        rwa [(hel i e hie).1] at this
      show ∃ x,(over cl (idx * o.size+off) vs)[i * o.size+j]?=some x∧_
      rw[over_get hfit,if_neg]
      · exact (hel i e hie).2 j a ha
      · rcases Nat.lt_or_gt_of_ne hix with hlt | hlt
        · have:=Nat.mul_le_mul_right o.size (show idx+1≤i by omega)
          rw[Nat.add_mul,Nat.one_mul] at this
          omega
        · have:=Nat.mul_le_mul_right o.size (show i+1≤idx by omega)
          rw[Nat.add_mul,Nat.one_mul] at this
          omega
theorem new_ob {c:Ctx} (g:Good c) (d:Nat) (o:Ob) (cl:Array Value) (el:TypeId) (hh:Holds c cl o) :
    let c':Ctx:={ B:=c.B,β:=fun j=>if j=(c.n,d) then c.w.heap.size else c.β j,H:=c.H.set (c.n,d) o,n:=c.n+1,w:={ c.w with heap:=c.w.heap.push (.cells cl el (0,0)) } }
    Keeps c c'∧Good c':=
  upd_new g (c.n,d) o { c.w with heap:=c.w.heap.push (.cells cl el (0,0)) } cl el (c.n+1) ⟨rfl,rfl,rfl⟩ (by simp)
    (fun k hk=>by show (c.w.heap.push _)[k]?=_;rw[Array.getElem?_push,if_neg (by omega)]) (by simp) (by omega) (by simp) (fun h=>absurd h (Nat.lt_irrefl _)) hh
end Go.Ab
/- The abstract machine, part E: what each operation comes to, as a function, and that the model's operation comes to it. -/
namespace Go.Ab
set_option linter.unusedSectionVars false
variable [Inhabited Tabs]
inductive KD where
  | bool
  | int (k:IntKind)
  | string
  | slice (e:TI)
  | arr (len:Nat) (e:TI)
  | struct (fs:List (Nat × TI))
  | other
def fieldsA (Ty:Types):List Field→Option (List (Nat × TI))
  | []=>some []
  | f::fs=>match Ty f.type,fieldsA Ty fs with
    | some i,some l=>some ((f.offset,i)::l)
    | _,_=>none
def kd (Ty:Types) (t:TypeId):KD:=
  match Ty t with
  | none=>.other
  | some i=>match i.desc with
    | .bool=>.bool
    | .int k=>.int k
    | .string=>.string
    | .slice e=>match Ty e with
      | some j=>.slice j
      | none=>.other
    | .array n e=>match Ty e with
      | some j=>.arr n j
      | none=>.other
    | .struct fs=>match fieldsA Ty fs.toList with
      | some l=>.struct l
      | none=>.other
    | _=>.other
section
variable {Ty:Types} {t:TypeId}
theorem kd_bool (h:kd Ty t = .bool):∃ i,Ty t=some i∧i.desc = .bool:=by
  unfold kd at h
  repeat' split at h
  all_goals first | (cases h;done) | exact⟨_,by assumption,by assumption⟩
theorem kd_int {k:IntKind} (h:kd Ty t = .int k):∃ i,Ty t=some i∧i.desc = .int k:=by
  unfold kd at h
  repeat' split at h
  all_goals first | (cases h;done) | (cases h;exact⟨_,by assumption,by assumption⟩)
theorem kd_string (h:kd Ty t = .string):∃ i,Ty t=some i∧i.desc = .string:=by
  unfold kd at h
  repeat' split at h
  all_goals first | (cases h;done) | exact⟨_,by assumption,by assumption⟩
theorem kd_slice {j:TI} (h:kd Ty t = .slice j):∃ i e,Ty t=some i∧i.desc = .slice e∧Ty e=some j:=by
  unfold kd at h
  repeat' split at h
  all_goals first | (cases h;done) | (cases h;exact⟨_,_,by assumption,by assumption,by assumption⟩)
theorem kd_arr {n:Nat} {j:TI} (h:kd Ty t = .arr n j):∃ i e,Ty t=some i∧i.desc = .array n e∧Ty e=some j:=by
  unfold kd at h
  repeat' split at h
  all_goals first | (cases h;done) | (cases h;exact⟨_,_,by assumption,by assumption,by assumption⟩)
theorem kd_struct {l:List (Nat × TI)} (h:kd Ty t = .struct l):∃ i fs,Ty t=some i∧i.desc = .struct fs∧fieldsA Ty fs.toList=some l:=by
  unfold kd at h
  repeat' split at h
  all_goals first | (cases h;done) | (cases h;exact⟨_,_,by assumption,by assumption,by assumption⟩)
theorem fieldsA_get:∀ {fs:List Field} {l:List (Nat × TI)},fieldsA Ty fs=some l→∀ {f off:Nat} {j:TI},l[f]?=some (off,j)→∃ fl,fs[f]?=some fl∧fl.offset=off∧Ty fl.type=some j
  | [],l,h,f,off,j,hf=>by simp only[fieldsA,Option.some.injEq] at h;subst h;simp at hf
  | x::fs,l,h,f,off,j,hf=>by
    simp only[fieldsA] at h
    split at h
    · rename_i i l' hi hl
      cases h
      cases f with
      | zero=>simp at hf;exact⟨x,rfl,hf.1,by rw[← hf.2];exact hi⟩
      | succ f=>exact fieldsA_get hl (f:=f) (by simpa using hf)
    · cases h
theorem fieldsA_places:∀ {fs:List Field} {l:List (Nat × TI)},fieldsA Ty fs=some l→∀ {P:Program},TypesOk P Ty→fs.mapM (fun f=>(P.info? f.type).map fun i=>(f.offset,i.size))=some (l.map fun p=>(p.1,p.2.size))
  | [],l,h,P,hT=>by simp only[fieldsA,Option.some.injEq] at h;subst h;rfl
  | x::fs,l,h,P,hT=>by
    simp only[fieldsA] at h
    split at h
    · rename_i i l' hi hl
      cases h
      obtain⟨_,info,zv,hinfo,hsz,_⟩:=hT _ _ hi
      simp[List.mapM_cons,hinfo,hsz,fieldsA_places hl hT]
    · cases h
end
def ptrAdd:AVal→Nat→AVal
  | .ptr id g i off,k=>.ptr id g i (off+k)
  | .iptr fr cs,k=>.iptr fr (cs.drop k)
  | x,_=>x
def partA (i:TI) (cs:List AVal) (off:Nat):Option AVal:=
  if i.isAgg then (if off+i.size≤cs.length then some (.agg ((cs.drop off).take i.size)) else none) else cs[off]?
def live (H:Heap) (id:Id) (g:Nat):Option Ob:=
  match H id with
  | some o=>if o.els.length=g then some o else none
  | none=>none
def fillA (place:Nat→Option (Nat × Nat)) (cells:List AVal):List (Nat × AVal)→Option (List AVal)
  | []=>some cells
  | (i,x)::rest=>
    match place i,cellsA x with
    | some (off,size),some new=>if new.length=size∧off+new.length≤cells.length then fillA place (splice cells off new) rest else none
    | _,_=>none
def buildF (Ty:Types) (t:TypeId) (parts:List (Nat × AVal)):Option AVal:=
  match Ty t,kd Ty t with
  | some i,.struct fs=>(fillA ((fs.map fun p=>(p.1,p.2.size))[·]?) (i.zero.map .v) parts).map .agg
  | some i,.arr _ j=>(fillA (fun k=>some (k * j.size,j.size)) (i.zero.map .v) parts).map .agg
  | _,_=>none
def chunks (size len:Nat) (cs:List AVal):List (List AVal):=(List.range len).map fun i=>(cs.drop (i * size)).take size
def intBin (op:BinOp) (k:IntKind) (a b:Int):Option AVal:=
  match op with
  | .add=>some (.v (.int k (k.wrap (a+b))))
  | .sub=>some (.v (.int k (k.wrap (a - b))))
  | .mul=>some (.v (.int k (k.wrap (a * b))))
  | .quo=>if b=0 then none else some (.v (.int k (k.wrap (a.tdiv b))))
  | .rem=>if b=0 then none else some (.v (.int k (a.tmod b)))
  | .eql=>some (.v (.bool (a == b)))
  | .neq=>some (.v (.bool (a != b)))
  | .lss=>some (.v (.bool (a<b)))
  | .leq=>some (.v (.bool (a≤b)))
  | .gtr=>some (.v (.bool (a > b)))
  | .geq=>some (.v (.bool (a ≥ b)))
  | .and=>some (.v (.int k (k.wrap (BitVec.ofInt k.bits a &&& BitVec.ofInt k.bits b).toNat)))
  | .shr=>if b<0 then none else some (.v (.int k (a.fdiv (2 ^ min b.toNat k.bits))))
  | _=>none
def strBin (op:BinOp) (a b:ByteArray):Option AVal:=
  match op with
  | .add=>if a.size+b.size<4611686018427387904 then some (.v (.string (a++b))) else none
  | .eql=>some (.v (.bool (a.toList == b.toList)))
  | .neq=>some (.v (.bool !(a.toList == b.toList)))
  | .lss=>some (.v (.bool (Op.bytesLess a.toList b.toList)))
  | .leq=>some (.v (.bool (Op.bytesLess a.toList b.toList || a.toList == b.toList)))
  | .gtr=>some (.v (.bool !(Op.bytesLess a.toList b.toList || a.toList == b.toList)))
  | .geq=>some (.v (.bool !(Op.bytesLess a.toList b.toList)))
  | _=>none
def boolBin (op:BinOp) (a b:Bool):Option AVal:=
  match op with
  | .eql=>some (.v (.bool (a == b)))
  | .neq=>some (.v (.bool (!(a == b))))
  | _=>none
def binF (Ty:Types) (op:BinOp) (t:TypeId) (x y:AVal):Option AVal:=
  match x,y with
  | .v (.int k a),.v (.int k' b)=>if k=k' then intBin op k a b else none
  | .v (.string a),.v (.string b)=>strBin op a b
  | .v (.bool a),.v (.bool b)=>match kd Ty t with
    | .bool=>boolBin op a b
    | _=>none
  | _,_=>none
def unF (op:UnOp) (x:AVal):Option AVal:=
  match op,x with
  | .neg,.v (.int k a)=>some (.v (.int k (k.wrap (0 - a))))
  | .not,.v (.bool b)=>some (.v (.bool (!b)))
  | _,_=>none
def convF (Ty:Types) (s d:TypeId) (x:AVal):Option AVal:=
  match Ty s,kd Ty d,x with
  | some _,.int k,.v (.int _ a)=>some (.v (.int k (k.wrap a)))
  | some _,.string,.v (.string b)=>some (.v (.string b))
  | _,_,_=>none
def lenF (Ty:Types) (H:Heap) (t:TypeId) (x:AVal):Option AVal:=
  match kd Ty t,x with
  | .string,.v (.string s)=>some (.v (.int .i64 s.size))
  | .slice _,.list _ els=>some (.v (.int .i64 els.length))
  | .slice _,.v (.slice _ m _)=>some (.v (.int .i64 m))
  | .slice _,.arr id g _ len=>match live H id g with
    | some _=>some (.v (.int .i64 len))
    | none=>none
  | .arr m _,_=>some (.v (.int .i64 m))
  | _,_=>none
def indexAddrF (Ty:Types) (H:Heap) (t:TypeId) (x ix:AVal):Option AVal:=
  match ix with
  | .v (.int _ m)=>match kd Ty t,x with
    | .slice j,.list fr els=>if 0≤m∧m<els.length∧(els.getD m.toNat []).length=j.size then some (.iptr fr (els.getD m.toNat [])) else none
    | .slice j,.arr id g off len=>match live H id g with
      | some o=>if 0≤m∧m<len∧o.size=j.size then some (.ptr id g (off+m.toNat) 0) else none
      | none=>none
    | .arr len j,p=>match viewOf H p with
      | some _=>if 0≤m∧m<len then some (ptrAdd p (m.toNat * j.size)) else none
      | none=>none
    | _,_=>none
  | _=>none
def indexF (Ty:Types) (t:TypeId) (x ix:AVal):Option AVal:=
  match ix with
  | .v (.int _ m)=>match kd Ty t,x with
    | .arr len j,.agg cs=>if 0≤m∧m<len then partA j cs (m.toNat * j.size) else none
    | .string,.v (.string s)=>if 0≤m∧m<s.size then some (.v (.int .u8 (s.data.getD m.toNat 0).toNat)) else none
    | _,_=>none
  | _=>none
def boundOf (x:Option AVal) (dflt:Nat):Option Int:=
  match x with
  | none=>some dflt
  | some (.v (.int _ m))=>some m
  | _=>none
def sliceF (Ty:Types) (H:Heap) (t:TypeId) (x:AVal) (lo hi:Option AVal):Option AVal:=
  match kd Ty t,x with
  | .string,.v (.string s)=>match boundOf lo 0,boundOf hi s.size with
    | some l,some h=>if 0≤l∧l≤h∧h≤s.size then some (.v (.string (s.extract l.toNat h.toNat))) else none
    | _,_=>none
  | .slice j,.list fr els=>match boundOf lo 0,boundOf hi els.length with
    | some l,some h=>if 0≤l∧l≤h∧h≤els.length∧els.all (·.length == j.size) then some (.list fr ((els.take h.toNat).drop l.toNat)) else none
    | _,_=>none
  | .slice j,.arr id g off len=>match live H id g,boundOf lo 0,boundOf hi len with
    | some o,some l,some h=>if 0≤l∧l≤h∧h≤len∧o.size=j.size then some (.arr id g (off+l.toNat) (h.toNat - l.toNat)) else none
    | _,_,_=>none
  | .slice _,.v (.slice none 0 0)=>match boundOf lo 0,boundOf hi 0 with
    | some l,some h=>if l=0∧h=0 then some (.v (.slice none 0 0)) else none
    | _,_=>none
  | _,_=>none
def storeF (i:Option TI) (p:AVal) (cs:Option (List AVal)) (H:Heap):Option Heap:=
  match i,p,cs with
  | some i,.ptr id g idx off,some new=>match live H id g with
    | some o=>if new.length=i.size∧idx<g∧off+new.length≤o.size∧new.all one1=true then some (H.set id (o.write idx off new)) else none
    | none=>none
  | _,_,_=>none
def srcOf (H:Heap):AVal→Option (List (List AVal))
  | .list _ els=>some els
  | .arr id g off len=>match live H id g with
    | some o=>some ((o.els.drop off).take len)
    | none=>none
  | .v (.slice none 0 0)=>some []
  | _=>none
def appendF (Ty:Types) (d:Option Nat) (t:TypeId) (s x:AVal) (H:Heap) (n:Nat):Option (AVal × Heap × Nat):=
  match kd Ty t,srcOf H x,d with
  | .slice j,some els,some d=>
    if j.zero.length=j.size∧j.bytes≤131072∧els.all (fun e=>e.length == j.size)=true∧els.all (fun e=>e.all one1)=true then
      match s with
      | .arr id g off len=>match live H id g with
        | some o=>if off=0∧len=g∧o.size=j.size∧g+els.length≤1073741824 then some (.arr id (g+els.length) 0 (g+els.length),H.set id ⟨j.size,o.els++els⟩,n) else none
        | none=>none
      | .v (.slice none 0 0)=>if els.length=0 then some (.v (.slice none 0 0),H,n) else if els.length≤1073741824 then some (.arr (n,d) els.length 0 els.length,H.set (n,d) ⟨j.size,els⟩,n+1) else none
      | _=>none
    else none
  | _,_,_=>none
def makeF (Ty:Types) (d:Option Nat) (t:TypeId) (l c:AVal) (H:Heap) (n:Nat):Option (AVal × Heap × Nat):=
  match kd Ty t,l,c,d with
  | .slice j,.v (.int _ m),.v (.int _ m'),some d=>
    if m=m'∧0≤m∧m≤1073741824∧j.bytes≤131072∧j.zero.length=j.size∧j.size ≠ 0 then
      some (.arr (n,d) m.toNat 0 m.toNat,H.set (n,d) ⟨j.size,List.replicate m.toNat (j.zero.map .v)⟩,n+1) else none
  | _,_,_,_=>none
def stepF (Ty:Types) (d:Option Nat) (op:Op) (ρ:Env) (H:Heap) (n:Nat):Option (AVal × Heap × Nat):=
  match op with
  | .move x | .assign x=>some (ρ.ev x,H,n)
  | .pick c a b=>match ρ.ev c with
    | .v (.bool t)=>some (if t then ρ.ev a else ρ.ev b,H,n)
    | _=>none
  | .alloc t=>match d,Ty t with
    | some d,some i=>some (.ptr (n,d) 1 0 0,H.set (n,d) ⟨i.zero.length,[i.zero.map .v]⟩,n+1)
    | _,_=>none
  | .box _ x=>match d,cellsA (ρ.ev x) with
    | some d,some cs=>some (.ptr (n,d) 1 0 0,H.set (n,d) ⟨cs.length,[cs]⟩,n+1)
    | _,_=>none
  | .load t a=>match Ty t,viewOf H (ρ.ev a) with
    | some i,some cs=>match loadA i cs with
      | some x=>some (x,H,n)
      | none=>none
    | _,_=>none
  | .store t a x=>match storeF (Ty t) (ρ.ev a) (cellsA (ρ.ev x)) H with
    | some H'=>some (.undef,H',n)
    | none=>none
  | .fieldAddr t a f=>match kd Ty t,viewOf H (ρ.ev a) with
    | .struct fs,some _=>match fs[f]? with
      | some (off,j)=>if j.size=0 then none else some (ptrAdd (ρ.ev a) off,H,n)
      | none=>none
    | _,_=>none
  | .field t x f=>match kd Ty t,ρ.ev x with
    | .struct fs,.agg cs=>match fs[f]? with
      | some (off,j)=>(partA j cs off).map fun y=>(y,H,n)
      | none=>none
    | _,_=>none
  | .indexAddr t x ix=>(indexAddrF Ty H t (ρ.ev x) (ρ.ev ix)).map fun y=>(y,H,n)
  | .index t x ix=>(indexF Ty t (ρ.ev x) (ρ.ev ix)).map fun y=>(y,H,n)
  | .build t ps=>(buildF Ty t (ps.toList.map fun p=>(p.1,ρ.ev p.2))).map fun y=>(y,H,n)
  | .buildSlice t len ps=>match kd Ty t,d with
    | .slice j,some d=>
      if len=0 then (if ps.toList.isEmpty then some (.arr (n,d) 0 0 0,H.set (n,d) ⟨j.size,[]⟩,n+1) else none)
      else if len * j.size≤16777216∧j.size ≠ 0∧j.zero.length=j.size then
        (fillA (fun k=>some (k * j.size,j.size)) ((List.replicate len (j.zero.map AVal.v)).flatten) (ps.toList.map fun p=>(p.1,ρ.ev p.2))).map fun cs=>(.list true (chunks j.size len cs),H,n)
      else none
    | _,_=>none
  | .binOp op t x y _=>(binF Ty op t (ρ.ev x) (ρ.ev y)).map fun z=>(z,H,n)
  | .unOp op _ x=>(unF op (ρ.ev x)).map fun z=>(z,H,n)
  | .convert s t x=>(convF Ty s t (ρ.ev x)).map fun z=>(z,H,n)
  | .makeFunc f first cap=>some (.fn f (first.toList.map ρ.ev) (cap.toList.map ρ.ev),H,n)
  | .slice t x lo hi none=>(sliceF Ty H t (ρ.ev x) (lo.map ρ.ev) (hi.map ρ.ev)).map fun z=>(z,H,n)
  | .extract t ix=>match ρ.ev t with
    | .tup vs=>(vs[ix]?).map fun z=>(z,H,n)
    | _=>none
  | .nilCheck x=>match viewOf H (ρ.ev x) with
    | some _=>some (ρ.ev x,H,n)
    | none=>none
  | .makeSlice t l c=>makeF Ty d t (ρ.ev l) (ρ.ev c) H n
  | .call ⟨.builtin .append,args,ats⟩=>match args.toList,ats.toList with
    | [s,x],[t,t']=>if t=t' then appendF Ty d t (ρ.ev s) (ρ.ev x) H n else none
    | _,_=>none
  | .call ⟨.builtin .len,args,ats⟩=>match args.toList,ats.toList with
    | [x],[t]=>(lenF Ty H t (ρ.ev x)).map fun z=>(z,H,n)
    | _,_=>none
  | _=>none
end Go.Ab
/- The abstract machine, part F: the model's operations come to what part E says. -/
namespace Go.Ab
set_option linter.unusedSectionVars false
variable [Inhabited Tabs]
theorem OpSem.pure {P:Program} {N:Nat} {o:Oper} {ρ:Env} {H:Heap} {n:Nat} {v:AVal}
    (h:∀ (c:Ctx) (a:Act),c.H=H→Good c→RelE N c ρ a→∃ x,(execOp a.eval o).run P c.w = .ok (.value x) c.w∧Rep c v x) :
    OpSem P N o ρ H n fun v1 H1 n1=>v1=v∧H1=H∧n1=n:=
  OpSem.of_value fun c a hH hn g r=>let ⟨x,hx,hr⟩:=h c a hH g r;⟨v,x,c,hx,⟨rfl,hH,hn⟩,hr,g,Keeps.refl c⟩
theorem Rep.ptrAdd {c:Ctx} (g:Good c) {p:AVal} {x:Value} (r:Rep c p x) {cs:List AVal} (h:viewOf c.H p=some cs) (k:Nat):∃ b off,x = .pointer (some ⟨b,off,none⟩)∧Rep c (ptrAdd p k) (.pointer (some ⟨b,off+k,none⟩)):=by
  obtain⟨b,off,hx,_⟩:=viewOf_ok g r h
  refine⟨b,off,hx,?_⟩
  subst hx
  cases r with
  | ptr id gen idx o2 x ho hn hg hp=>
    refine .ptr id gen idx (o2+k) _ rfl hn hg fun o hid hl=>?_
    obtain⟨h1,h2⟩:=hp o hid hl
    refine⟨h1,?_⟩
    simp only[Value.pointer.injEq,Option.some.injEq,Addr.mk.injEq] at h2 ⊢
    exact⟨h2.1,by have:=h2.2.1;omega,trivial⟩
  | iptr fr cs' a cell hs hm hb hf hc hr=>
    refine .iptr fr (cs'.drop k) ⟨b,off+k,none⟩ (fun j=>cell (k+j)) rfl hm hb hf (fun j x hx=>?_) (fun j x hx=>?_)
    · rw[List.getElem?_drop] at hx
      have:=hc _ _ hx
      simpa[Nat.add_assoc] using this
    · rw[List.getElem?_drop] at hx
      exact hr _ _ hx
  | undef=>simp[viewOf] at h
  | v=>simp[viewOf] at h
  | arr=>simp[viewOf] at h
  | clip=>simp[viewOf] at h
section
variable {P:Program} {N:Nat} {Ty:Types} (hT:TypesOk P Ty) {ρ:Env} {H:Heap} {n:Nat}
variable {d:Option Tmp} {ty:TypeId} {pos:String} {af:Array Edge} {gu:Option (Nat × Bool)}
theorem step_move {x:Operand}:OpSem P N ⟨d,.move x,ty,pos,af,gu⟩ ρ H n fun v1 H1 n1=>v1=ρ.ev x∧H1=H∧n1=n:=
  OpSem.pure fun c a _ _ r=>⟨a.eval x,by simp[execOp],r.ev x⟩
theorem step_assign {x:Operand}:OpSem P N ⟨d,.assign x,ty,pos,af,gu⟩ ρ H n fun v1 H1 n1=>v1=ρ.ev x∧H1=H∧n1=n:=
  OpSem.pure fun c a _ _ r=>⟨a.eval x,by simp[execOp],r.ev x⟩
theorem step_pick {c x y:Operand} {t:Bool} (hc:ρ.ev c = .v (.bool t)):OpSem P N ⟨d,.pick c x y,ty,pos,af,gu⟩ ρ H n fun v1 H1 n1=>v1=(if t then ρ.ev x else ρ.ev y)∧H1=H∧n1=n:=
  OpSem.pure fun c' a _ _ r=>by
    have h:=r.ev c
    rw[hc] at h
    have hb:=h.v_inv
    cases t with
    | true=>exact⟨a.eval x,by simp[execOp,hb,asBool],r.ev x⟩
    | false=>exact⟨a.eval y,by simp[execOp,hb,asBool],r.ev y⟩
include hT in
theorem step_alloc {t:TypeId} {i:TI} {k:Nat} (hi:Ty t=some i) :
    OpSem P N ⟨some k,.alloc t,ty,pos,af,gu⟩ ρ H n fun v1 H1 n1=>v1 = .ptr (n,k) 1 0 0∧H1=H.set (n,k) ⟨i.zero.length,[i.zero.map .v]⟩∧n1=n+1:=by
  refine OpSem.of_value fun c a hH hn g r=>?_
  obtain⟨zv,hz,hzc⟩:=(hT t i hi).run_zero c.w
  have hh:Holds c i.zero.toArray ⟨i.zero.length,[i.zero.map .v]⟩:=by
    refine⟨by simp,fun j e he=>?_⟩
    cases j with
    | zero=>
      simp only[List.getElem?_cons_zero,Option.some.injEq] at he
      subst he
      refine⟨by simp,fun j x hx=>?_⟩
      rw[List.getElem?_map] at hx
      cases hj:i.zero[j]? with
      | none=>simp[hj] at hx
      | some y=>
        simp only[hj,Option.map_some,Option.some.injEq] at hx
        subst hx
        exact⟨y,by simpa using hj,.v y⟩
    | succ j=>simp at he
  have hk:=new_ob g k ⟨i.zero.length,[i.zero.map .v]⟩ i.zero.toArray t hh
  refine⟨.ptr (n,k) 1 0 0,.pointer (some ⟨c.w.heap.size,0,none⟩),_,?_,⟨rfl,?_,?_⟩,?_,hk.2,hk.1⟩
  · simp[execOp,Instr.alloc,hz,newVar,newRow,hzc]
  · rw[← hH,← hn]
  · simp[hn]
  · refine .ptr _ _ _ _ _ rfl (by simp[hn]) ?_ ?_
    · intro o ho
      simp[Heap.set,hn] at ho
      subst ho
      simp
    · intro o ho _
      simp[Heap.set,hn] at ho
      subst ho
      simp[hn]
theorem step_box {t:TypeId} {x:Operand} {cs:List AVal} {k:Nat} (hc:cellsA (ρ.ev x)=some cs) :
    OpSem P N ⟨some k,.box t x,ty,pos,af,gu⟩ ρ H n fun v1 H1 n1=>v1 = .ptr (n,k) 1 0 0∧H1=H.set (n,k) ⟨cs.length,[cs]⟩∧n1=n+1:=by
  refine OpSem.of_value fun c a hH hn g r=>?_
  obtain⟨vs,hvs,hl⟩:=cellsA_ok (r.ev x) hc
  have hh:Holds c vs.toArray ⟨cs.length,[cs]⟩:=by
    have:=hl.1
    refine⟨by simp[this],fun j e he=>?_⟩
    cases j with
    | zero=>
      simp only[List.getElem?_cons_zero,Option.some.injEq] at he
      subst he
      refine⟨rfl,fun j y hy=>?_⟩
      have hj:=(List.getElem?_eq_some_iff.1 hy).1
      have hv:vs[j]?=some (vs[j]'(by omega)):=List.getElem?_eq_getElem (by omega)
      exact⟨_,by simp[hv],hl.2 _ _ _ hy hv⟩
    | succ j=>simp at he
  have hk:=new_ob g k ⟨cs.length,[cs]⟩ vs.toArray t hh
  refine⟨.ptr (n,k) 1 0 0,.pointer (some ⟨c.w.heap.size,0,none⟩),_,?_,⟨rfl,?_,?_⟩,?_,hk.2,hk.1⟩
  · simp[execOp,Instr.box,newVar,newRow,hvs]
  · rw[← hH,← hn]
  · simp[hn]
  · refine .ptr _ _ _ _ _ rfl (by simp[hn]) ?_ ?_
    · intro o ho
      simp[Heap.set,hn] at ho
      subst ho
      simp
    · intro o ho _
      simp[Heap.set,hn] at ho
      subst ho
      simp[hn]
include hT in
theorem step_load {t:TypeId} {i:TI} {x:Operand} {cs:List AVal} {v:AVal} (hi:Ty t=some i) (hv:viewOf H (ρ.ev x)=some cs) (hl:loadA i cs=some v) :
    OpSem P N ⟨d,.load t x,ty,pos,af,gu⟩ ρ H n fun v1 H1 n1=>v1=v∧H1=H∧n1=n:=
  OpSem.pure fun c a hH g r=>by
    subst hH
    obtain⟨b,off,hx,hview⟩:=viewOf_ok g (r.ev x) hv
    obtain⟨y,hrun,hrep⟩:=run_loadVar (hT t i hi) hview hl
    exact⟨y,by simp[execOp,Instr.loadAt,Instr.sureAddr,hx,hrun],hrep⟩
include hT in
theorem step_store {t:TypeId} {x y:Operand} {H':Heap} (h:storeF (Ty t) (ρ.ev x) (cellsA (ρ.ev y)) H=some H') :
    OpSem P N ⟨d,.store t x y,ty,pos,af,gu⟩ ρ H n fun v1 H1 n1=>v1 = .undef∧H1=H'∧n1=n:=by
  refine OpSem.of_skip fun c a hH hn g r=>?_
  subst hH
  cases hi:Ty t with
  | none=>simp[storeF,hi] at h
  | some i=>
    cases hc:cellsA (ρ.ev y) with
    | none=>simp only[storeF,hi,hc] at h;split at h<;>simp_all
    | some new=>
      have rx:=r.ev x
      generalize hpx:ρ.ev x=px at rx h
      generalize hvx:a.eval x=vx at rx
      cases rx with
      | ptr id gen idx off _ ho hn' hg hp=>
        simp only[storeF,hi,hc,live] at h
        cases hid:c.H id with
        | none=>simp[hid] at h
        | some o=>
          simp only[hid] at h
          by_cases hl:o.els.length=gen
          · rw[if_pos hl] at h
            simp only at h
            split at h
            · rename_i hcond
              obtain⟨h1,h2,h3,h4⟩:=hcond
              simp only[Option.some.injEq] at h
              obtain⟨_,hptr⟩:=hp o hid hl
              obtain⟨vs,hvs,hrl⟩:=cellsA_ok (r.ev y) hc
              obtain⟨w',hrun,hk,hgood⟩:=store_ob g hid (by rw[hl];exact h2) h3 hrl h4 P
              refine⟨{ c with H:=c.H.set id (o.write idx off new),w:=w' },?_,⟨rfl,h,hn⟩,hgood,hk⟩
              have hsz:=(hT t i hi).run_size c.w
              have hvl:vs.length=i.size:=by rw[← hrl.1];exact h1
              simp[execOp,Instr.storeAt,Instr.sureAddr,hvx,hptr,storeVar,hvs,hvl,hsz,hrun]
            · cases h
          · rw[if_neg hl] at h
            simp at h
      | _=>simp[storeF,hi,hc] at h
include hT in
theorem step_fieldAddr {t:TypeId} {x:Operand} {f off:Nat} {j:TI} {fs:List (Nat × TI)} {cs:List AVal} (hk:kd Ty t = .struct fs) (hf:fs[f]?=some (off,j)) (hs:j.size ≠ 0)
    (hv:viewOf H (ρ.ev x)=some cs):OpSem P N ⟨d,.fieldAddr t x f,ty,pos,af,gu⟩ ρ H n fun v1 H1 n1=>v1=ptrAdd (ρ.ev x) off∧H1=H∧n1=n:=
  OpSem.pure fun c a hH g r=>by
    subst hH
    obtain⟨i,gs,hi,hd,hfs⟩:=kd_struct hk
    obtain⟨fl,hfl,rfl,hj⟩:=fieldsA_get hfs hf
    obtain⟨b,off,hx,hrep⟩:=Rep.ptrAdd g (r.ev x) hv fl.offset
    refine⟨_,?_,hrep⟩
    have hde:=(hT t i hi).run_desc c.w
    have hsz:=(hT fl.type j hj).run_size c.w
    have hg:gs[f]?=some fl:=by simpa using hfl
    simp[execOp,Instr.fieldAt,hde,hd,hg,Instr.sureAddr,hx,fieldPlace,hsz,hs,Addr.add_lit]
theorem run_part {i:TI} {t:TypeId} (ht:TyOk P t i) {c:Ctx} {cs:List AVal} {vs:List Value} (hl:RepL c cs vs) {off:Nat} {v:AVal} (h:partA i cs off=some v) :
    ∃ x,(part t vs.toArray off).run P c.w = .ok x c.w∧Rep c v x:=by
  have hlen:=hl.1
  unfold partA at h
  split at h
  · rename_i hagg
    split at h
    · rename_i hsz
      simp only[Option.some.injEq] at h
      subst h
      refine⟨.agg ((vs.drop off).take i.size).toArray,?_,?_⟩
      · simp only[part,Sem.run_bind,ht.run_isAgg,Result.andThen_ok,hagg,if_true,ht.run_size,Sem.run_pure]
        congr 2
        apply Array.ext'
        simp[List.extract_eq_take_drop]
      · refine .agg _ _ (by simp;omega) fun k a x ha hx=>?_
        rw[List.getElem?_take] at ha hx
        split at ha
        · rename_i hk
          rw[if_pos hk] at hx
          rw[List.getElem?_drop] at ha hx
          exact hl.2 _ _ _ ha hx
        · cases ha
    · cases h
  · rename_i hagg
    have ho:=(List.getElem?_eq_some_iff.1 h).1
    have hv:vs[off]?=some (vs[off]'(by omega)):=List.getElem?_eq_getElem (by omega)
    refine⟨_,?_,hl.2 _ _ _ h hv⟩
    have ho':off<vs.length:=by omega
    simp[part,ht.run_isAgg,hagg,ho']
include hT in
theorem step_field {t:TypeId} {x:Operand} {f off:Nat} {j:TI} {fs:List (Nat × TI)} {cs:List AVal} {v:AVal} (hk:kd Ty t = .struct fs) (hf:fs[f]?=some (off,j))
    (hx:ρ.ev x = .agg cs) (hp:partA j cs off=some v):OpSem P N ⟨d,.field t x f,ty,pos,af,gu⟩ ρ H n fun v1 H1 n1=>v1=v∧H1=H∧n1=n:=
  OpSem.pure fun c a hH g r=>by
    obtain⟨i,gs,hi,hd,hfs⟩:=kd_struct hk
    obtain⟨fl,hfl,rfl,hj⟩:=fieldsA_get hfs hf
    have rx:=r.ev x
    rw[hx] at rx
    generalize hvx:a.eval x=vx at rx
    cases rx with
    | agg _ vs hl hr=>
      obtain⟨y,hrun,hrep⟩:=run_part (hT _ _ hj) (⟨hl,hr⟩:RepL c cs vs) hp
      refine⟨y,?_,hrep⟩
      have hde:=(hT t i hi).run_desc c.w
      have hg:gs[f]?=some fl:=by simpa using hfl
      simp[execOp,Instr.field,hde,hd,hg,hvx,asAgg,hrun]
theorem step_makeFunc {f:Fn} {first cap:Array Operand}:OpSem P N ⟨d,.makeFunc f first cap,ty,pos,af,gu⟩ ρ H n fun v1 H1 n1=>v1 = .fn f (first.toList.map ρ.ev) (cap.toList.map ρ.ev)∧H1=H∧n1=n:=
  OpSem.pure fun c a _ _ r=>by
    have h1:=Rep.argsOf r first.toList
    have h2:=Rep.argsOf r cap.toList
    refine⟨.func f (first.map a.eval) (cap.map a.eval),by simp[execOp,Instr.makeFunc],?_⟩
    have e1:first.map a.eval=(first.toList.map a.eval).toArray:=by apply Array.ext';simp
    have e2:cap.map a.eval=(cap.toList.map a.eval).toArray:=by apply Array.ext';simp
    rw[e1,e2]
    exact .fn f _ _ _ _ h1.1 h2.1 h1.2 h2.2
theorem step_extract {t:Operand} {ix:Nat} {vs:List AVal} {v:AVal} (ht:ρ.ev t = .tup vs) (hv:vs[ix]?=some v):OpSem P N ⟨d,.extract t ix,ty,pos,af,gu⟩ ρ H n fun v1 H1 n1=>v1=v∧H1=H∧n1=n:=
  OpSem.pure fun c a _ _ r=>by
    have rx:=r.ev t
    rw[ht] at rx
    generalize hvx:a.eval t=vx at rx
    cases rx with
    | tup _ us hl hr=>
      have hi:=(List.getElem?_eq_some_iff.1 hv).1
      have hu:us[ix]?=some (us[ix]'(by omega)):=List.getElem?_eq_getElem (by omega)
      refine⟨_,?_,hr _ _ _ hv hu⟩
      have:ix<us.length:=by omega
      simp[execOp,Instr.extract,hvx,this]
theorem step_nilCheck {x:Operand} {cs:List AVal} (h:viewOf H (ρ.ev x)=some cs):OpSem P N ⟨d,.nilCheck x,ty,pos,af,gu⟩ ρ H n fun v1 H1 n1=>v1=ρ.ev x∧H1=H∧n1=n:=
  OpSem.pure fun c a hH g r=>by
    subst hH
    obtain⟨b,off,hx,_⟩:=viewOf_ok g (r.ev x) h
    exact⟨a.eval x,by simp[execOp,hx],r.ev x⟩
theorem intBin_ok {op:BinOp} {k:IntKind} {x y:Int} {v:AVal} (h:intBin op k x y=some v) (w:World) (t:TypeId):∃ u,v = .v u∧(binOp op t (.int k x) (.int k y)).run P w = .ok u w:=by
  cases op<;>simp only[intBin] at h<;>first
    | (cases h;done)
    | (simp only[Option.some.injEq] at h;subst h;exact⟨_,rfl,by simp[binOp,Op.intArith,Op.intCmp,Op.intBits]⟩)
    | (split at h
       · cases h
       · rename_i h0
         simp only[Option.some.injEq] at h
         subst h
         exact⟨_,rfl,by simp[binOp,Op.intDiv,Op.shift,h0]⟩)
theorem strBin_ok {op:BinOp} {x y:ByteArray} {v:AVal} (h:strBin op x y=some v) (w:World) (t:TypeId):∃ u,v = .v u∧(binOp op t (.string x) (.string y)).run P w = .ok u w:=by
  cases op<;>simp only[strBin] at h<;>first
    | (cases h;done)
    | (simp only[Option.some.injEq] at h;subst h;exact⟨_,rfl,by simp[binOp,Op.stringOp]⟩)
    | (split at h
       · rename_i h0
         simp only[Option.some.injEq] at h
         subst h
         refine⟨_,rfl,?_⟩
         simp[binOp,Op.stringOp,IntKind.max,IntKind.signed,IntKind.bits]
         omega
       · cases h)
theorem run_equal_bool {t:TypeId} {w:World} (h:(underlying t).run P w = .ok .bool w) (a b:Bool):(Op.equal t (.bool a) (.bool b)).run P w = .ok (a == b) w:=by
  have h1:∀ k,(Op.equalIn (k+1) t (.bool a) (.bool b)).run P w = .ok (a == b) w:=fun k=>by simp[Op.equalIn,h]
  exact h1 9999
include hT in
theorem binF_ok {op:BinOp} {t:TypeId} {x y v:AVal} (h:binF Ty op t x y=some v):∃ a b u,x = .v a∧y = .v b∧v = .v u∧∀ w,(binOp op t a b).run P w = .ok u w∧∀ X Y,(eqGuard op t X Y a b).run P w = .ok () w:=by
  unfold binF at h
  split at h
  · rename_i k a k' b
    split at h
    · rename_i hk
      subst hk
      obtain⟨u,hv,_⟩:=intBin_ok (P:=P) h default t
      refine⟨_,_,u,rfl,rfl,hv,fun w=>⟨?_,fun X Y=>?_⟩⟩
      · obtain⟨u',hv',hr⟩:=intBin_ok (P:=P) h w t
        rw[hv] at hv'
        cases hv'
        exact hr
      · cases op<;>rfl
    · cases h
  · rename_i a b
    obtain⟨u,hv,_⟩:=strBin_ok (P:=P) h default t
    refine⟨_,_,u,rfl,rfl,hv,fun w=>⟨?_,fun X Y=>?_⟩⟩
    · obtain⟨u',hv',hr⟩:=strBin_ok (P:=P) h w t
      rw[hv] at hv'
      cases hv'
      exact hr
    · cases op<;>rfl
  · rename_i a b
    split at h
    · rename_i hk
      obtain⟨i,hi,hd⟩:=kd_bool hk
      have hde:=fun w=>(hT t i hi).run_desc w
      rw[hd] at hde
      cases op<;>simp only[boolBin] at h<;>first
        | (cases h;done)
        | (simp only[Option.some.injEq] at h
           subst h
           refine⟨_,_,_,rfl,rfl,rfl,fun w=>⟨?_,fun X Y=>rfl⟩⟩
           show ((Op.equal t (.bool a) (.bool b)) >>= fun r=>_).run P w=_
           simp only[Sem.run_bind,run_equal_bool (hde w),Result.andThen_ok,Sem.run_pure])
    · cases h
  · cases h
include hT in
theorem step_binOp {op:BinOp} {t t':TypeId} {x y:Operand} {v:AVal} (h:binF Ty op t (ρ.ev x) (ρ.ev y)=some v):OpSem P N ⟨d,.binOp op t x y t',ty,pos,af,gu⟩ ρ H n fun v1 H1 n1=>v1=v∧H1=H∧n1=n:=
  OpSem.pure fun c a _ _ r=>by
    obtain⟨p,q,u,hx,hy,hv,hrun⟩:=binF_ok hT h
    have rx:=r.ev x
    have ry:=r.ev y
    rw[hx] at rx
    rw[hy] at ry
    have ex:=rx.v_inv
    have ey:=ry.v_inv
    obtain⟨h1,h2⟩:=hrun c.w
    exact⟨u,by simp[execOp,ex,ey,h1,h2],by rw[hv];exact .v u⟩
theorem step_unOp {op:UnOp} {t:TypeId} {x:Operand} {v:AVal} (h:unF op (ρ.ev x)=some v):OpSem P N ⟨d,.unOp op t x,ty,pos,af,gu⟩ ρ H n fun v1 H1 n1=>v1=v∧H1=H∧n1=n:=
  OpSem.pure fun c a _ _ r=>by
    have rx:=r.ev x
    unfold unF at h
    split at h
    · rename_i k m hx
      rw[hx] at rx
      simp only[Option.some.injEq] at h
      subst h
      exact⟨_,by simp[execOp,rx.v_inv,Op.unary,Op.intArith],.v _⟩
    · rename_i b hx
      rw[hx] at rx
      simp only[Option.some.injEq] at h
      subst h
      exact⟨_,by simp[execOp,rx.v_inv,Op.unary],.v _⟩
    · cases h
include hT in
theorem step_convert {s t:TypeId} {x:Operand} {v:AVal} (h:convF Ty s t (ρ.ev x)=some v):OpSem P N ⟨d,.convert s t x,ty,pos,af,gu⟩ ρ H n fun v1 H1 n1=>v1=v∧H1=H∧n1=n:=
  OpSem.pure fun c a _ _ r=>by
    have rx:=r.ev x
    unfold convF at h
    split at h
    · rename_i i k _ m hi hk hx
      rw[hx] at rx
      obtain⟨j,hj,hd⟩:=kd_int hk
      have d1:=(hT s i hi).run_desc c.w
      have d2:=(hT t j hj).run_desc c.w
      rw[hd] at d2
      cases h
      exact⟨_,by simp[execOp,rx.v_inv,convert,d1,d2,Conv.intToInt],.v _⟩
    · rename_i i b hi hk hx
      rw[hx] at rx
      obtain⟨j,hj,hd⟩:=kd_string hk
      have d1:=(hT s i hi).run_desc c.w
      have d2:=(hT t j hj).run_desc c.w
      rw[hd] at d2
      cases h
      exact⟨_,by simp[execOp,rx.v_inv,convert,d1,d2],.v _⟩
    · cases h
end
end Go.Ab
/- The abstract machine, part G: lengths, indexes, slices, literals; the step function is sound. -/
namespace Go.Ab
set_option linter.unusedSectionVars false
variable [Inhabited Tabs]
theorem live_some {H:Heap} {id:Id} {g:Nat} {o:Ob} (h:live H id g=some o):H id=some o∧o.els.length=g:=by
  unfold live at h
  split at h
  · rename_i o' ho
    split at h
    · rename_i hl
      cases h
      exact⟨ho,hl⟩
    · cases h
  · cases h
theorem run_bound {P:Program} {w:World} {k:IntKind} {m:Int} {y:Nat} {code:BoundsCode} (h0:0≤m) (h1:m≤y):(Instr.sliceBound (.int k m) y code).run P w = .ok m.toNat w:=by
  simp[Instr.sliceBound,asIntOf,h0,h1]
section
variable {P:Program} {N:Nat} {Ty:Types} (hT:TypesOk P Ty) {ρ:Env} {H:Heap} {n:Nat}
variable {d:Option Tmp} {ty:TypeId} {pos:String} {af:Array Edge} {gu:Option (Nat × Bool)}
include hT in
theorem step_len {t:TypeId} {x:Operand} {v:AVal} (h:lenF Ty H t (ρ.ev x)=some v) :
    OpSem P N ⟨d,.call ⟨.builtin .len,#[x],#[t]⟩,ty,pos,af,gu⟩ ρ H n fun v1 H1 n1=>v1=v∧H1=H∧n1=n:=
  OpSem.pure fun c a hH g r=>by
    subst hH
    have rx:=r.ev x
    unfold lenF at h
    have key:∀ (u:Value),(Builtin.len_ #[t] ty #[a.eval x]).run P c.w = .ok u c.w→(execOp a.eval ⟨d,.call ⟨.builtin .len,#[x],#[t]⟩,ty,pos,af,gu⟩).run P c.w = .ok (.value u) c.w:=by
      intro u hu
      simp only[execOp,resolve,invoke,builtin,Sem.run_bind,Sem.run_pure,Result.andThen_ok,List.map_toArray,List.map_cons,List.map_nil,hu]
    split at h
    · rename_i hk hx
      obtain⟨i,hi,hd⟩:=kd_string hk
      have hde:=(hT t i hi).run_desc c.w
      rw[hx] at rx
      cases h
      exact⟨_,key _ (by simp[Builtin.len_,hde,hd,rx.v_inv,goInt]),.v _⟩
    · rename_i hk hx
      obtain⟨i,e,hi,hd,hj⟩:=kd_slice hk
      have hde:=(hT t i hi).run_desc c.w
      rw[hx] at rx
      cases h
      generalize hvx:a.eval x=vx at rx key
      cases rx with
      | lnil fr=>exact⟨_,key _ (by simp[Builtin.len_,hde,hd,goInt]),.v _⟩
      | list fr els a cap sz cell=>exact⟨_,key _ (by simp[Builtin.len_,hde,hd,goInt]),.v _⟩
    · rename_i hk hx
      obtain⟨i,e,hi,hd,hj⟩:=kd_slice hk
      have hde:=(hT t i hi).run_desc c.w
      rw[hx] at rx
      cases h
      exact⟨_,key _ (by simp[Builtin.len_,hde,hd,rx.v_inv,goInt]),.v _⟩
    · rename_i id gg off len hk hx
      obtain⟨i,e,hi,hd,hj⟩:=kd_slice hk
      have hde:=(hT t i hi).run_desc c.w
      rw[hx] at rx
      split at h
      · rename_i o hl
        cases h
        obtain⟨h1,h2⟩:=live_some hl
        generalize hvx:a.eval x=vx at rx key
        cases rx with
        | arr id gen off len x ho hn hg hp=>
          obtain⟨_,ad,cap,hxx,_⟩:=hp o h1 h2
          subst hxx
          exact⟨_,key _ (by simp[Builtin.len_,hde,hd,goInt]),.v _⟩
      · cases h
    · rename_i hk
      obtain⟨i,e,hi,hd,hj⟩:=kd_arr hk
      have hde:=(hT t i hi).run_desc c.w
      cases h
      exact⟨_,key _ (by simp[Builtin.len_,hde,hd,goInt]),.v _⟩
    · cases h
include hT in
theorem step_indexAddr {t:TypeId} {x ix:Operand} {v:AVal} (h:indexAddrF Ty H t (ρ.ev x) (ρ.ev ix)=some v) :
    OpSem P N ⟨d,.indexAddr t x ix,ty,pos,af,gu⟩ ρ H n fun v1 H1 n1=>v1=v∧H1=H∧n1=n:=
  OpSem.pure fun c a hH g r=>by
    subst hH
    have rx:=r.ev x
    have rix:=r.ev ix
    unfold indexAddrF at h
    split at h
    · rename_i k m hm
      rw[hm] at rix
      have hix:=rix.v_inv
      split at h
      · rename_i j fr els hk hx
        obtain⟨i,e,hi,hd,hj⟩:=kd_slice hk
        have hde:=(hT t i hi).run_desc c.w
        have hsz:=(hT e j hj).run_size c.w
        rw[hx] at rx
        split at h
        · rename_i hc
          obtain⟨h0,h1,h2⟩:=hc
          cases h
          generalize hvx:a.eval x=vx at rx
          have hlt:m.toNat<els.length:=by omega
          have he:els[m.toNat]?=some els[m.toNat]:=List.getElem?_eq_getElem hlt
          have hgetD:els.getD m.toNat []=els[m.toNat]:=by simp[List.getD,he]
          cases rx with
          | lnil fr=>simp at h1;omega
          | list fr els ad cap sz cell hs hcap hmm hsz' hcc hr=>
            obtain⟨b,off,sp⟩:=ad
            have hne:els ≠ []:=by intro h;simp[h] at hlt
            have hs:=hs hne
            simp only at hs
            subst hs
            obtain⟨m1,m2,m3⟩:=hmm hne
            have hszj:sz=j.size:=by rw[← h2,hgetD];exact (hsz' _ _ he).symm
            refine⟨.pointer (some ⟨b,off+m.toNat * sz,none⟩),?_,?_⟩
            · simp[execOp,Instr.indexAt,hix,asIntOf,hde,hd,hvx,h0,h1,hsz,hszj,Addr.add_lit]
            · rw[hgetD]
              exact .iptr fr _ _ (fun q=>cell m.toNat q) rfl m1 m2 m3 (fun q y hq=>by simpa[Nat.add_assoc] using hcc _ _ q y he hq) (fun q y hq=>hr _ _ q y he hq)
        · cases h
      · rename_i j id gg off len hk hx
        obtain⟨i,e,hi,hd,hj⟩:=kd_slice hk
        have hde:=(hT t i hi).run_desc c.w
        have hsz:=(hT e j hj).run_size c.w
        rw[hx] at rx
        split at h
        · rename_i o hl
          obtain⟨l1,l2⟩:=live_some hl
          split at h
          · rename_i hc
            obtain⟨h0,h1,h2⟩:=hc
            cases h
            generalize hvx:a.eval x=vx at rx
            cases rx with
            | arr id gen off len x ho hn hg hp=>
              obtain⟨p1,⟨b,aoff,sp⟩,cap,hxx,hab,hsp,hlc,hoff,hcl⟩:=hp o l1 l2
              simp only at hab hsp hoff
              subst hxx hab hsp
              have hao:aoff=off * o.size:=by
                rcases hoff with h | h
                · exact h
                · omega
              refine⟨.pointer (some ⟨c.β id,aoff+m.toNat * j.size,none⟩),?_,?_⟩
              · simp[execOp,Instr.indexAt,hix,asIntOf,hde,hd,hvx,h0,h1,hsz,Addr.add_lit]
              · refine .ptr id _ _ _ _ rfl hn hg fun o' ho' hl'=>⟨by omega,?_⟩
                rw[l1] at ho'
                cases ho'
                rw[hao,← h2,Nat.add_mul,Nat.add_zero]
          · cases h
        · cases h
      · rename_i len j hk
        obtain⟨i,e,hi,hd,hj⟩:=kd_arr hk
        have hde:=(hT t i hi).run_desc c.w
        have hsz:=(hT e j hj).run_size c.w
        split at h
        · rename_i cs hv
          split at h
          · rename_i hc
            obtain⟨h0,h1⟩:=hc
            cases h
            obtain⟨b,off,hx,hrep⟩:=Rep.ptrAdd g rx hv (m.toNat * j.size)
            refine⟨_,?_,hrep⟩
            simp[execOp,Instr.indexAt,hix,asIntOf,hde,hd,hx,h0,h1,hsz,Addr.add_lit,Instr.sureAddr]
          · cases h
        · cases h
      · cases h
    · cases h
include hT in
theorem step_index {t:TypeId} {x ix:Operand} {v:AVal} (h:indexF Ty t (ρ.ev x) (ρ.ev ix)=some v) :
    OpSem P N ⟨d,.index t x ix,ty,pos,af,gu⟩ ρ H n fun v1 H1 n1=>v1=v∧H1=H∧n1=n:=
  OpSem.pure fun c a hH g r=>by
    have rx:=r.ev x
    have rix:=r.ev ix
    unfold indexF at h
    split at h
    · rename_i k m hm
      rw[hm] at rix
      have hix:=rix.v_inv
      split at h
      · rename_i len j cs hk hx
        obtain⟨i,e,hi,hd,hj⟩:=kd_arr hk
        have hde:=(hT t i hi).run_desc c.w
        have hsz:=(hT e j hj).run_size c.w
        rw[hx] at rx
        split at h
        · rename_i hc
          obtain⟨h0,h1⟩:=hc
          generalize hvx:a.eval x=vx at rx
          cases rx with
          | agg _ vs hl hr=>
            obtain⟨y,hrun,hrep⟩:=run_part (hT _ _ hj) (⟨hl,hr⟩:RepL c cs vs) h
            exact⟨y,by simp[execOp,Instr.index,hix,asIntOf,hde,hd,hvx,h0,h1,hsz,hrun],hrep⟩
        · cases h
      · rename_i s hk hx
        obtain⟨i,hi,hd⟩:=kd_string hk
        have hde:=(hT t i hi).run_desc c.w
        rw[hx] at rx
        split at h
        · rename_i hc
          obtain⟨h0,h1⟩:=hc
          cases h
          have hlt:m.toNat<s.size:=by omega
          have hs:s[m.toNat]?=some (s.data.getD m.toNat 0):=by
            have h1:s[m.toNat]?=some s[m.toNat]:=getElem?_pos s m.toNat hlt
            rw[h1]
            have h2:m.toNat<s.data.size:=hlt
            simp only[Array.getD,h2,dif_pos]
            rfl
          exact⟨_,by simp[execOp,Instr.index,hix,asIntOf,hde,hd,rx.v_inv,h0,hs],.v _⟩
        · cases h
      · cases h
    · cases h
theorem bound_eval {N:Nat} {c:Ctx} {ρ:Env} {a:Act} (r:RelE N c ρ a) {lo:Option Operand} {dflt:Nat} {l:Int} (h:boundOf (lo.map ρ.ev) dflt=some l) :
    (lo=none∧l=dflt)∨∃ y k,lo=some y∧a.eval y = .int k l:=by
  cases lo with
  | none=>left;simp[boundOf] at h;exact⟨rfl,h.symm⟩
  | some y=>
    right
    simp only[Option.map_some,boundOf] at h
    have ry:=r.ev y
    split at h
    · rename_i heq;simp at heq
    · rename_i k m heq
      simp only[Option.some.injEq] at heq h
      rw[heq] at ry
      exact⟨y,k,rfl,by rw[ry.v_inv,h]⟩
    · cases h
theorem run_bounds {N:Nat} {c:Ctx} {ρ:Env} {a:Act} (r:RelE N c ρ a) {lo hi:Option Operand} {len cap:Nat} {l h:Int} {isSlice:Bool} (hl:boundOf (lo.map ρ.ev) 0=some l) (hh:boundOf (hi.map ρ.ev) len=some h)
    (h0:0≤l) (h1:l≤h) (h2:h≤len) (h3:len≤cap):(Instr.sliceBounds isSlice len cap (lo.map a.eval) (hi.map a.eval) none).run P c.w = .ok (l.toNat,h.toNat,cap) c.w:=by
  have e1:∀ (L:Nat) (code:BoundsCode),(L:Int)=h→(match (lo.map a.eval) with | some v=>Instr.sliceBound v L code | none=>pure 0:Sem Nat).run P c.w = .ok l.toNat c.w:=by
    intro L code hL
    rcases bound_eval r hl with ⟨rfl,rfl⟩ | ⟨y,k,rfl,hy⟩
    · simp
    · simp only[Option.map_some,hy]
      exact run_bound h0 (by omega)
  rcases bound_eval r hh with ⟨rfl,rfl⟩ | ⟨y,k,rfl,hy⟩
  · simp only[Instr.sliceBounds,Option.map_none,Sem.run_bind,Sem.run_pure,Result.andThen_ok]
    rw[show ((len:Int).toNat)=len from by omega]
    have:=e1 len .sliceB rfl
    simp only[Option.isSome_none,Bool.false_eq_true,if_false]
    split<;>split at this<;>simp_all
  · have hb:∀ code,(Instr.sliceBound (.int k h) cap code).run P c.w = .ok h.toNat c.w:=fun code=>run_bound (by omega) (by omega)
    simp only[Instr.sliceBounds,Option.map_some,hy,Sem.run_bind,Sem.run_pure,Result.andThen_ok,hb]
    have:=e1 h.toNat .sliceB (by omega)
    simp only[Option.isSome_none,Bool.false_eq_true,if_false]
    split<;>split at this<;>simp_all
theorem list_sub {c:Ctx} {fr:Bool} {els:List (List AVal)} {a:Addr} {cap sz:Nat} {cell:Nat→Nat→Value} (hs:els ≠ []→a.spot=none) (hcap:els.length≤cap)
    (hm:els ≠ []→¬ c.mu a.block∧a.block<c.w.heap.size∧(fr=true→c.B≤a.block)) (hsz:∀ (i:Nat) (e:List AVal),els[i]?=some e→e.length=sz)
    (hc:∀ (i:Nat) (e:List AVal) (j:Nat) (x:AVal),els[i]?=some e→e[j]?=some x→c.w.cell? ⟨a.block,a.off+(i * sz+j),none⟩=some (cell i j))
    (hr:∀ (i:Nat) (e:List AVal) (j:Nat) (x:AVal),els[i]?=some e→e[j]?=some x→Rep c x (cell i j)) (l h:Nat) (hlh:l≤h) (hh:h≤els.length) :
    Rep c (.list fr ((els.take h).drop l)) (.slice (some (if cap=l then a else a.add (l * sz))) (h - l) (cap - l)):=by
  have hlen:((els.take h).drop l).length=h - l:=by simp;omega
  have hget:∀ (i:Nat) (e:List AVal),((els.take h).drop l)[i]?=some e→els[l+i]?=some e:=by
    intro i e he
    rw[List.getElem?_drop,List.getElem?_take] at he
    split at he
    · exact he
    · cases he
  by_cases hempty:(els.take h).drop l=[]
  · rw[hempty]
    have h0:h - l=0:=by rw[← hlen,hempty];rfl
    rw[h0]
    exact .list fr [] _ (cap - l) 0 (fun _ _=>undef) (fun h=>absurd rfl h) (Nat.zero_le _) (fun h=>absurd rfl h) (fun _ _ h=>by simp at h) (fun _ _ _ _ h=>by simp at h) (fun _ _ _ _ h=>by simp at h)
  have hne:els ≠ []:=by intro h0;subst h0;simp at hempty
  have hs:=hs hne
  have hadd:a.add (l * sz)=⟨a.block,a.off+l * sz,none⟩:=by
    obtain⟨b,off,sp⟩:=a
    simp only at hs
    subst hs
    exact Addr.add_lit b off (l * sz)
  by_cases hcl:cap=l
  · have hnil:(els.take h).drop l=[]:=List.eq_nil_of_length_eq_zero (by omega)
    rw[if_pos hcl,hnil,show h - l=0 by omega]
    exact .list fr [] a (cap - l) 0 (fun _ _=>undef) (fun _=>hs) (Nat.zero_le _) (fun h=>absurd rfl h) (fun _ _ h=>by simp at h) (fun _ _ _ _ h=>by simp at h) (fun _ _ _ _ h=>by simp at h)
  · rw[if_neg hcl,hadd]
    have:=Rep.list (c:=c) fr ((els.take h).drop l) ⟨a.block,a.off+l * sz,none⟩ (cap - l) sz (fun i j=>cell (l+i) j) (fun _=>rfl) (by omega)
      (fun hne=>hm (by intro h0;simp[h0] at hne)) (fun i e he=>hsz _ e (hget i e he))
      (fun i e j x he hx=>by
        have:=hc _ e j x (hget i e he) hx
        simp only at *
        rw[show a.off+l * sz+(i * sz+j)=a.off+((l+i) * sz+j) by rw[Nat.add_mul];omega]
        exact this)
      (fun i e j x he hx=>hr _ e j x (hget i e he) hx)
    rw[hlen] at this
    exact this
include hT in
theorem step_slice {t:TypeId} {x:Operand} {lo hi:Option Operand} {v:AVal} (h:sliceF Ty H t (ρ.ev x) (lo.map ρ.ev) (hi.map ρ.ev)=some v) :
    OpSem P N ⟨d,.slice t x lo hi none,ty,pos,af,gu⟩ ρ H n fun v1 H1 n1=>v1=v∧H1=H∧n1=n:=
  OpSem.pure fun c a hH g r=>by
    subst hH
    have rx:=r.ev x
    unfold sliceF at h
    split at h
    · rename_i s hk hx
      obtain⟨i,hi',hd⟩:=kd_string hk
      have hde:=(hT t i hi').run_desc c.w
      rw[hx] at rx
      split at h
      · rename_i l hh hl hhh
        split at h
        · rename_i hc
          obtain⟨c0,c1,c2⟩:=hc
          cases h
          have hb:=run_bounds (P:=P) r (len:=s.size) (cap:=s.size) (isSlice:=false) hl hhh c0 c1 c2 (Nat.le_refl _)
          exact⟨_,by simp[execOp,Instr.sliceAt,Instr.slice,hde,hd,rx.v_inv,hb],.v _⟩
        · cases h
      · cases h
    · rename_i j fr els hk hx
      obtain⟨i,e,hi',hd,hj⟩:=kd_slice hk
      have hde:=(hT t i hi').run_desc c.w
      have hsz:=(hT e j hj).run_size c.w
      rw[hx] at rx
      split at h
      · rename_i l hh hl hhh
        split at h
        · rename_i hc
          obtain⟨c0,c1,c2,c3⟩:=hc
          cases h
          generalize hvx:a.eval x=vx at rx
          cases rx with
          | lnil fr=>
            have hb:=run_bounds (P:=P) r (len:=0) (cap:=0) (isSlice:=true) hl hhh c0 c1 c2 (Nat.le_refl _)
            simp only[List.length_nil] at c2
            have hh0:hh=0:=by omega
            have hl0:l=0:=by omega
            subst hh0 hl0
            exact⟨.slice none 0 0,by simp[execOp,Instr.sliceAt,Instr.slice,hde,hd,hvx,hb,hsz],by simpa using Rep.lnil fr⟩
          | list fr els ad cap sz cell hs hcap hmm hsz' hcc hr=>
            have hb:=run_bounds (P:=P) r (len:=els.length) (cap:=cap) (isSlice:=true) hl hhh c0 c1 c2 hcap
            have hrep:Rep c (.list fr ((els.take hh.toNat).drop l.toNat)) (.slice (some (if cap=l.toNat then ad else ad.add (l.toNat * j.size))) (hh.toNat - l.toNat) (cap - l.toNat)):=by
              refine list_sub hs hcap hmm (fun i e he=>?_) ?_ hr l.toNat hh.toNat (by omega) (by omega)
              · have:=List.all_eq_true.1 c3 e (List.mem_of_getElem? he)
                simpa using this
              · intro i e q y he hq
                have h1:sz=j.size:=by
                  have:=List.all_eq_true.1 c3 e (List.mem_of_getElem? he)
                  rw[← hsz' i e he]
                  simpa using this
                rw[← h1]
                exact hcc i e q y he hq
            refine⟨_,?_,hrep⟩
            by_cases hcl:cap=l.toNat
            · rw[hcl] at hb
              simp[execOp,Instr.sliceAt,Instr.slice,hde,hd,hvx,hb,hsz,hcl]
            · simp[execOp,Instr.sliceAt,Instr.slice,hde,hd,hvx,hb,hsz,hcl]
        · cases h
      · cases h
    · rename_i j id gg off len hk hx
      obtain⟨i,e,hi',hd,hj⟩:=kd_slice hk
      have hde:=(hT t i hi').run_desc c.w
      have hsz:=(hT e j hj).run_size c.w
      rw[hx] at rx
      split at h
      · rename_i o l hh hlv hl hhh
        obtain⟨l1,l2⟩:=live_some hlv
        split at h
        · rename_i hc
          obtain⟨c0,c1,c2,c3⟩:=hc
          cases h
          generalize hvx:a.eval x=vx at rx
          cases rx with
          | arr id gen off len x ho hn hg hp=>
            obtain⟨p1,⟨b,aoff,sp⟩,cap,hxx,hab,hsp,hlc,hoff,hcl⟩:=hp o l1 l2
            simp only at hab hsp hoff
            subst hxx hab hsp
            have hb:=run_bounds (P:=P) r (len:=len) (cap:=cap) (isSlice:=true) hl hhh c0 c1 c2 hlc
            refine⟨.slice (some (if cap=l.toNat then ⟨c.β id,aoff,none⟩ else ⟨c.β id,aoff+l.toNat * j.size,none⟩)) (hh.toNat - l.toNat) (cap - l.toNat),?_,?_⟩
            · by_cases hcl:cap=l.toNat
              · rw[hcl] at hb
                simp[execOp,Instr.sliceAt,Instr.slice,hde,hd,hvx,hb,hsz,hcl]
              · simp[execOp,Instr.sliceAt,Instr.slice,hde,hd,hvx,hb,hsz,hcl,Addr.add_lit]
            · refine .arr id _ _ _ _ rfl hn hg fun o' ho' hl'=>?_
              rw[l1] at ho'
              cases ho'
              refine⟨by omega,_,_,rfl,by split<;>rfl,by split<;>rfl,by omega,?_,fun cl el fz hcell=>?_⟩
              · by_cases hcl:cap=l.toNat
                · right;omega
                · left
                  rw[if_neg hcl]
                  rcases hoff with h | h
                  · simp only;rw[h,Nat.add_mul,c3]
                  · omega
              · have:=hcl cl el fz hcell
                have hle:off+l.toNat+(cap - l.toNat)=off+cap:=by omega
                rw[hle]
                exact this
        · cases h
      · cases h
    · rename_i j hk hx
      obtain⟨i,e,hi',hd,hj⟩:=kd_slice hk
      have hde:=(hT t i hi').run_desc c.w
      have hsz:=(hT e _ hj).run_size c.w
      rw[hx] at rx
      split at h
      · rename_i l hh hl hhh
        split at h
        · rename_i hc
          obtain⟨rfl,rfl⟩:=hc
          cases h
          have hb:=run_bounds (P:=P) r (len:=0) (cap:=0) (isSlice:=true) hl hhh (Int.le_refl _) (Int.le_refl _) (Int.le_refl _) (Nat.le_refl _)
          exact⟨_,by simp[execOp,Instr.sliceAt,Instr.slice,hde,hd,rx.v_inv,hb,hsz],.v _⟩
        · cases h
      · cases h
    · cases h
end
end Go.Ab
/- The abstract machine, part H: literals of structs, arrays and slices; the step function as a whole; a region evaluated. -/
namespace Go.Ab
set_option linter.unusedSectionVars false
variable [Inhabited Tabs]
theorem foldl_set (off:Nat):∀ (vs:List Value) (k:Nat) (cells:Array Value),off+k+vs.length≤cells.size→(vs.zipIdx k).foldl (fun cs (p:Value × Nat)=>cs.setIfInBounds (off+p.2) p.1) cells=over cells (off+k) vs
  | [],k,cells,h=>by
    simp only[List.zipIdx_nil,List.foldl_nil,over,List.append_nil,List.length_nil,Nat.add_zero,List.take_append_drop]
  | v::vs,k,cells,h=>by
    simp only[List.length_cons] at h
    rw[List.zipIdx_cons,List.foldl_cons,foldl_set off vs (k+1) _ (by simp;omega)]
    apply Array.ext_getElem?
    intro j
    rw[over_get (by simp;omega),over_get (by simp;omega)]
    simp only[List.length_cons]
    by_cases h1:j=off+k
    · subst h1
      rw[if_neg (by omega),if_pos (by omega)]
      simp only[Nat.sub_self,List.getElem?_cons_zero]
      rw[Array.getElem?_setIfInBounds_self]
      simp
      omega
    · by_cases h2:off+k<j∧j<off+k+(vs.length+1)
      · rw[if_pos (by omega),if_pos (by omega)]
        rw[show j - (off+k)=(j - (off+(k+1)))+1 by omega,List.getElem?_cons_succ]
      · rw[if_neg (by omega),if_neg (by omega),Array.getElem?_setIfInBounds_ne (by omega)]
theorem fill_set {vs:List Value} {off:Nat} {cells:Array Value} (h:off+vs.length≤cells.size):vs.toArray.zipIdx.foldl (fun cs (p:Value × Nat)=>cs.setIfInBounds (off+p.2) p.1) cells=over cells off vs:=by
  have:=foldl_set off vs 0 cells (by simpa using h)
  rw[← Array.foldl_toList]
  simpa using this
theorem RepL.splice {c:Ctx} {cs new:List AVal} {vs nvs:List Value} (h:RepL c cs vs) (k:RepL c new nvs) {off:Nat} (ho:off+new.length≤cs.length):RepL c (splice cs off new) (vs.take off++nvs++vs.drop (off+nvs.length)):=by
  have h1:=h.1
  have k1:=k.1
  refine⟨by simp[Ab.splice];omega,fun i a x ha hx=>?_⟩
  simp only[Ab.splice] at ha
  by_cases c1:i<off
  · rw[List.append_assoc,List.getElem?_append_left (by simp;omega),List.getElem?_take,if_pos c1] at ha hx
    exact h.2 i a x ha hx
  · by_cases c2:i<off+new.length
    · rw[List.append_assoc,List.getElem?_append_right (by simp;omega),List.getElem?_append_left (by simp;omega)] at ha hx
      simp only[List.length_take,Nat.min_eq_left (show off≤cs.length by omega)] at ha
      simp only[List.length_take,Nat.min_eq_left (show off≤vs.length by omega)] at hx
      exact k.2 _ a x ha hx
    · rw[List.getElem?_append_right (by simp;omega)] at ha hx
      simp only[List.length_append,List.length_take,Nat.min_eq_left (show off≤cs.length by omega),List.getElem?_drop] at ha
      simp only[List.length_append,List.length_take,Nat.min_eq_left (show off≤vs.length by omega),List.getElem?_drop] at hx
      rw[show off+new.length+(i - (off+new.length))=i by omega] at ha
      rw[show off+nvs.length+(i - (off+nvs.length))=i by omega] at hx
      exact h.2 i a x ha hx
theorem fill_ok {N:Nat} {c:Ctx} {ρ:Env} {a:Act} (r:RelE N c ρ a) {place:Nat→Option (Nat × Nat)}:∀ (parts:List (Nat × Operand)) (cs:List AVal) (vs:List Value) (cs':List AVal),RepL c cs vs→fillA place cs (parts.map fun p=>(p.1,ρ.ev p.2))=some cs' →
    ∃ vs',Instr.fill place vs.toArray (parts.map fun p=>(p.1,a.eval p.2))=some vs'.toArray∧RepL c cs' vs'
  | [],cs,vs,cs',h,hf=>by
    simp only[List.map_nil,fillA,Option.some.injEq] at hf
    subst hf
    exact⟨vs,rfl,h⟩
  | (i,x)::parts,cs,vs,cs',h,hf=>by
    simp only[List.map_cons,fillA] at hf
    split at hf
    · rename_i off size new hp hc
      split at hf
      · rename_i hcond
        obtain⟨h1,h2⟩:=hcond
        obtain⟨nvs,hn,hnl⟩:=cellsA_ok (r.ev x) hc
        have hl:=h.1
        have hk:=hnl.1
        obtain⟨vs',hr,hl'⟩:=fill_ok r parts _ _ cs' (h.splice hnl h2) hf
        refine⟨vs',?_,hl'⟩
        simp only[List.map_cons,Instr.fill,hp,hn]
        rw[if_neg (by simp;omega),fill_set (by simp;omega)]
        exact hr
      · cases hf
    · cases hf
theorem RepL.ofV (c:Ctx) (l:List Value):RepL c (l.map .v) l:=⟨by simp,Rep.vs c l⟩
theorem chunks_get {size len:Nat} {cs:List AVal} {i:Nat} {e:List AVal} (h:(chunks size len cs)[i]?=some e) (hl:cs.length=len * size):i<len∧e.length=size∧∀ (j:Nat) (x:AVal),e[j]?=some x→j<size∧cs[i * size+j]?=some x:=by
  unfold chunks at h
  rw[List.getElem?_map] at h
  by_cases hi:i<len
  · rw[List.getElem?_range hi] at h
    simp only[Option.map_some,Option.some.injEq] at h
    subst h
    have hmul:i * size+size≤len * size:=by
      have:=Nat.mul_le_mul_right size (show i+1≤len by omega)
      rwa [Nat.add_mul,Nat.one_mul] at this
    refine⟨hi,by simp;omega,fun j x hx=>?_⟩
    rw[List.getElem?_take] at hx
    split at hx
    · rename_i hj
      rw[List.getElem?_drop] at hx
      exact⟨hj,hx⟩
    · cases hx
  · rw[List.getElem?_eq_none (by simp;omega)] at h
    cases h
section
variable {P:Program} {N:Nat} {Ty:Types} (hT:TypesOk P Ty) {ρ:Env} {H:Heap} {n:Nat}
variable {d:Option Tmp} {ty:TypeId} {pos:String} {af:Array Edge} {gu:Option (Nat × Bool)}
include hT in
theorem step_build {t:TypeId} {ps:Array (Nat × Operand)} {v:AVal} (h:buildF Ty t (ps.toList.map fun p=>(p.1,ρ.ev p.2))=some v) :
    OpSem P N ⟨d,.build t ps,ty,pos,af,gu⟩ ρ H n fun v1 H1 n1=>v1=v∧H1=H∧n1=n:=
  OpSem.pure fun c a hH g r=>by
    unfold buildF at h
    have hparts:(ps.map fun (p:Nat × Operand)=>(p.1,a.eval p.2)).toList=ps.toList.map fun p=>(p.1,a.eval p.2):=by simp
    have key:∀ cells,P.built t (ps.map fun (p:Nat × Operand)=>(p.1,a.eval p.2)).toList=some cells→(execOp a.eval ⟨d,.build t ps,ty,pos,af,gu⟩).run P c.w = .ok (.value (.agg cells)) c.w:=by
      intro cells hb
      have:=run_build (P:=P) c.w t _ cells hb
      simp[execOp,this]
    split at h
    · rename_i i fs hi hk
      obtain⟨hd,info,zv,hinfo,hsz,hby,hz,hzc⟩:=hT _ _ hi
      obtain⟨i',gs,hi',hde,hfs⟩:=kd_struct hk
      rw[hi] at hi'
      cases hi'
      cases hf:fillA (fun x=>(fs.map fun p=>(p.1,p.2.size))[x]?) (i.zero.map .v) (ps.toList.map fun p=>(p.1,ρ.ev p.2)) with
      | none=>simp only[hf] at h;cases h
      | some cs=>
        simp only[hf,Option.map_some,Option.some.injEq] at h
        subst h
        obtain⟨vs',hr,hl⟩:=fill_ok r ps.toList _ _ cs (RepL.ofV c i.zero) hf
        refine⟨_,key vs'.toArray ?_,hl.agg⟩
        have hpa:=fieldsA_places hfs hT
        simp only[Program.built,hinfo,hd,hde,hz,hpa,hzc,hparts]
        simpa using hr
    · rename_i i m j hi hk
      obtain⟨hd,info,zv,hinfo,hsz,hby,hz,hzc⟩:=hT _ _ hi
      obtain⟨i',e,hi',hde,hj⟩:=kd_arr hk
      rw[hi] at hi'
      cases hi'
      obtain⟨_,info',zv',hinfo',hsz',_⟩:=hT _ _ hj
      cases hf:fillA (fun k=>some (k * j.size,j.size)) (i.zero.map .v) (ps.toList.map fun p=>(p.1,ρ.ev p.2)) with
      | none=>simp[hf] at h
      | some cs=>
        simp only[hf,Option.map_some,Option.some.injEq] at h
        subst h
        obtain⟨vs',hr,hl⟩:=fill_ok r ps.toList _ _ cs (RepL.ofV c i.zero) hf
        refine⟨_,key vs'.toArray ?_,hl.agg⟩
        simp only[Program.built,hinfo,hd,hde,hz,hinfo',hsz',hzc,hparts]
        exact hr
    · cases h
theorem zero_rows {z:List Value} (len:Nat) (hz:z.length ≠ 0):((Array.range (len * z.length)).map fun i=>z.toArray[i % z.toArray.size]!)=((List.replicate len z).flatten).toArray:=by
  apply Array.ext_getElem?
  intro i
  have hlen:((List.replicate len z).flatten).length=len * z.length:=by simp
  by_cases hi:i<len * z.length
  · have hm:i % z.length<z.length:=Nat.mod_lt _ (by omega)
    have hR:((List.replicate len z).flatten)[i]?=z[i % z.length]?:=by
      clear hlen
      induction len generalizing i with
      | zero=>omega
      | succ len ih=>
        rw[List.replicate_succ,List.flatten_cons]
        by_cases h1:i<z.length
        · rw[List.getElem?_append_left h1,Nat.mod_eq_of_lt h1]
        · rw[List.getElem?_append_right (by omega)]
          rw[Nat.add_mul,Nat.one_mul] at hi
          rw[ih (i:=i - z.length) (by omega) (Nat.mod_lt _ (by omega))]
          congr 1
          rw[← Nat.mod_eq_sub_mod (by omega)]
    have hR':((List.replicate len z).flatten).toArray[i]?=z[i % z.length]?:=by rw[List.getElem?_toArray];exact hR
    rw[hR',List.getElem?_eq_getElem hm,Array.getElem?_map]
    simp[hi,hm]
  · rw[Array.getElem?_eq_none (by simp;omega),Array.getElem?_eq_none (by simp;omega)]
theorem range0:Array.range 0=#[]:=Array.eq_empty_of_size_eq_zero (by simp)
include hT in
theorem step_buildSlice_nil {t:TypeId} {j:TI} {k:Nat} (hk:kd Ty t = .slice j) :
    OpSem P N ⟨some k,.buildSlice t 0 #[],ty,pos,af,gu⟩ ρ H n fun v1 H1 n1=>v1 = .arr (n,k) 0 0 0∧H1=H.set (n,k) ⟨j.size,[]⟩∧n1=n+1:=by
  refine OpSem.of_value fun c a hH hn g r=>?_
  obtain⟨i,e,hi,hd,hj⟩:=kd_slice hk
  have hde:=(hT t i hi).run_desc c.w
  have hsz:=(hT e j hj).run_size c.w
  have hh:Holds c #[] ⟨j.size,[]⟩:=⟨by simp,fun q e he=>by simp at he⟩
  have hk:=new_ob g k ⟨j.size,[]⟩ #[] e hh
  refine⟨.arr (n,k) 0 0 0,.slice (some ⟨c.w.heap.size,0,none⟩) 0 0,_,?_,⟨rfl,?_,?_⟩,?_,hk.2,hk.1⟩
  · simp[execOp,Instr.buildSlice,hde,hd,hsz,Instr.fill,newRow,range0]
  · rw[← hH,← hn]
  · simp[hn]
  · refine .arr _ _ _ _ _ rfl (by simp[hn]) ?_ ?_
    · intro o ho
      exact Nat.zero_le _
    · intro o ho _
      simp[Heap.set,hn] at ho
      subst ho
      refine⟨Nat.le_refl _,_,_,rfl,by simp[hn],rfl,Nat.le_refl _,.inr rfl,fun cl el fz hcl=>?_⟩
      simp
include hT in
theorem step_buildSlice {t:TypeId} {j:TI} {ps:Array (Nat × Operand)} {len:Nat} {cs:List AVal} (hkd:kd Ty t = .slice j) (h0:len ≠ 0) (h1:len * j.size≤16777216) (h2:j.size ≠ 0) (h3:j.zero.length=j.size)
    (hf:fillA (fun k=>some (k * j.size,j.size)) ((List.replicate len (j.zero.map AVal.v)).flatten) (ps.toList.map fun p=>(p.1,ρ.ev p.2))=some cs) :
    OpSem P N ⟨d,.buildSlice t len ps,ty,pos,af,gu⟩ ρ H n fun v1 H1 n1=>v1 = .list true (chunks j.size len cs)∧H1=H∧n1=n:=by
  refine OpSem.of_value fun c a hH hn g r=>?_
  obtain⟨i,e,hi,hd,hj⟩:=kd_slice hkd
  have hde:=(hT t i hi).run_desc c.w
  have hsz:=(hT e j hj).run_size c.w
  obtain⟨zv,hz,hzc⟩:=(hT e j hj).run_zero c.w
  have hrep0:RepL c ((List.replicate len (j.zero.map AVal.v)).flatten) ((List.replicate len j.zero).flatten):=by
    have:(List.replicate len (j.zero.map AVal.v)).flatten=((List.replicate len j.zero).flatten).map .v:=by
      rw[List.map_flatten,List.map_replicate]
    rw[this]
    exact RepL.ofV c _
  obtain⟨vs',hr,hl⟩:=fill_ok r ps.toList _ _ cs hrep0 hf
  have hk:=push_keeps g (.cells vs'.toArray e)
  have hrun:(execOp a.eval ⟨d,.buildSlice t len ps,ty,pos,af,gu⟩).run P c.w = .ok (.value (.slice (some ⟨c.w.heap.size,0,none⟩) len len)) { c.w with heap:=c.w.heap.push (.cells vs'.toArray e) }:=by
    have hlz:len * j.size ≠ 0:=Nat.mul_ne_zero h0 h2
    have hzr:=zero_rows (z:=j.zero) len (by omega)
    rw[h3] at hzr
    have hps:(ps.map fun (p:Nat × Operand)=>(p.1,a.eval p.2)).toList=ps.toList.map fun p=>(p.1,a.eval p.2):=by simp
    have hbig:¬ (16777216<len * j.size):=by omega
    simp only[execOp,Instr.buildSlice,Sem.run_bind,hde,hd,Result.andThen_ok,hsz]
    simp only[Nat.reducePow,gt_iff_lt,hbig,if_false,hlz,Sem.run_pure,Sem.run_bind,hz,Result.andThen_ok,hzc,hzr,hps,hr]
    simp[newRow]
  have hlen:cs.length=len * j.size:=by
    have:=fillA_length hf
    rw[this]
    simp[h3]
  refine⟨.list true (chunks j.size len cs),_,{ c with w:={ c.w with heap:=c.w.heap.push (.cells vs'.toArray e) } },hrun,⟨rfl,hH,hn⟩,?_,hk.2,hk.1⟩
  have hcl:(chunks j.size len cs).length=len:=by simp[chunks]
  have hnm:¬ (Ctx.mu { c with w:={ c.w with heap:=c.w.heap.push (.cells vs'.toArray e) } } c.w.heap.size):=by
    rintro⟨id,o,ho,hb⟩
    have:=g.lt ho
    simp only at hb
    omega
  have:=Rep.list (c:={ c with w:={ c.w with heap:=c.w.heap.push (.cells vs'.toArray e) } }) true (chunks j.size len cs) ⟨c.w.heap.size,0,none⟩ len j.size (fun p q=>vs'.getD (p * j.size+q) undef) (fun _=>rfl) (by omega)
    (fun _=>⟨hnm,by simp,fun _=>g.Bsize⟩) (fun p e he=>(chunks_get he hlen).2.1)
    (fun p e q x he hx=>by
      obtain⟨hp,_,hq⟩:=chunks_get he hlen
      obtain⟨hq1,hq2⟩:=hq q x hx
      have hlt:=(List.getElem?_eq_some_iff.1 hq2).1
      have hl1:=hl.1
      have:p * j.size+q<vs'.length:=by omega
      simp[World.cell?,List.getD,this])
    (fun p e q x he hx=>by
      obtain⟨hp,_,hq⟩:=chunks_get he hlen
      obtain⟨hq1,hq2⟩:=hq q x hx
      have hlt:=(List.getElem?_eq_some_iff.1 hq2).1
      have hl1:=hl.1
      have hv:vs'[p * j.size+q]?=some (vs'[p * j.size+q]'(by omega)):=List.getElem?_eq_getElem (by omega)
      rw[List.getD,hv]
      exact (hl.2 _ _ _ hq2 hv).keeps hk.1)
  rw[hcl] at this
  exact this
  where
  fillA_length {place:Nat→Option (Nat × Nat)}:∀ {parts:List (Nat × AVal)} {cs cs':List AVal},fillA place cs parts=some cs'→cs'.length=cs.length
    | [],cs,cs',h=>by simp only[fillA,Option.some.injEq] at h;rw[h]
    | (i,x)::parts,cs,cs',h=>by
      simp only[fillA] at h
      split at h
      · split at h
        · rename_i hc
          rw[fillA_length h,splice_length hc.2]
        · cases h
      · cases h
end
end Go.Ab
/- The abstract machine, part J: append; make. -/
namespace Go.Ab
set_option linter.unusedSectionVars false
variable [Inhabited Tabs]
def Src (c:Ctx) (x:Value) (els:List (List AVal)) (sz:Nat):Prop:=
  (x = .slice none 0 0∧els=[]) ∨
  ∃ (a:Addr) (cap:Nat) (news:List Value),x = .slice (some a) els.length cap∧news.length=els.length * sz∧(∀ (q:Nat) (u:Value),news[q]?=some u→c.w.cell? (a.add q)=some u) ∧
    ∀ (i:Nat) (e:List AVal),els[i]?=some e→e.length=sz∧∀ (q:Nat) (y:AVal),e[q]?=some y→∃ u,news[i * sz+q]?=some u∧Rep c y u
theorem add_none {a:Addr} (h:a.spot=none) (q:Nat):a.add q=⟨a.block,a.off+q,none⟩:=by
  obtain⟨b,o,s⟩:=a
  simp only at h
  subst h
  exact Addr.add_lit b o q
theorem divmod {n sz q:Nat} (h:q<n * sz):q / sz<n∧q % sz<sz∧q / sz * sz+q % sz=q:=by
  have hp:0<sz:=by
    rcases Nat.eq_zero_or_pos sz with h0 | h0
    · subst h0;simp at h
    · exact h0
  refine⟨Nat.div_lt_of_lt_mul (by rwa [Nat.mul_comm] at h),Nat.mod_lt _ hp,?_⟩
  have:=Nat.div_add_mod q sz
  rwa [Nat.mul_comm] at this
theorem row_lt {i n j sz:Nat} (hi:i<n) (hj:j<sz):i * sz+j<n * sz:=by
  have:=Nat.mul_le_mul_right sz (show i+1≤n by omega)
  rw[Nat.add_mul,Nat.one_mul] at this
  omega
theorem divmod_row {i j sz:Nat} (hj:j<sz):(i * sz+j) / sz=i∧(i * sz+j) % sz=j:=by
  constructor
  · rw[Nat.mul_comm,Nat.mul_add_div (by omega),Nat.div_eq_of_lt hj,Nat.add_zero]
  · rw[Nat.mul_comm,Nat.mul_add_mod,Nat.mod_eq_of_lt hj]
theorem Src.of {c:Ctx} {a:Addr} {cap sz:Nat} {els:List (List AVal)} (cell:Nat→Nat→Value) (ha:els ≠ []→a.spot=none) (hlen:∀ (i:Nat) (e:List AVal),els[i]?=some e→e.length=sz)
    (hc:∀ (i:Nat) (e:List AVal) (j:Nat) (x:AVal),els[i]?=some e→e[j]?=some x→c.w.cell? ⟨a.block,a.off+(i * sz+j),none⟩=some (cell i j)∧Rep c x (cell i j)):Src c (.slice (some a) els.length cap) els sz:=by
  refine Or.inr ⟨a,cap,(List.range (els.length * sz)).map fun q=>cell (q / sz) (q % sz),rfl,by simp,fun q u hq=>?_,fun i e he=>⟨hlen i e he,fun q y hy=>?_⟩⟩
  · rw[List.getElem?_map] at hq
    have hql:q<els.length * sz:=by
      rcases Nat.lt_or_ge q (els.length * sz) with h | h
      · exact h
      · rw[List.getElem?_eq_none (by simpa using h)] at hq;cases hq
    rw[List.getElem?_range hql] at hq
    simp only[Option.map_some,Option.some.injEq] at hq
    obtain⟨d1,d2,d3⟩:=divmod hql
    have he:els[q / sz]?=some els[q / sz]:=List.getElem?_eq_getElem d1
    have hel:=hlen _ _ he
    have hy:els[q / sz][q % sz]?=some (els[q / sz][q % sz]'(by omega)):=List.getElem?_eq_getElem (by omega)
    have:=(hc _ _ _ _ he hy).1
    rw[d3] at this
    rw[add_none (ha (by intro h0;subst h0;simp at d1)),this,hq]
  · have hi:=(List.getElem?_eq_some_iff.1 he).1
    have hj:q<sz:=by rw[← hlen i e he];exact (List.getElem?_eq_some_iff.1 hy).1
    have hql:=row_lt hi hj
    obtain⟨d1,d2⟩:=divmod_row (i:=i) hj
    refine⟨cell i q,?_,(hc i e q y he hy).2⟩
    rw[List.getElem?_map,List.getElem?_range hql]
    simp[d1,d2]
theorem srcOf_ok {c:Ctx} (g:Good c) {x:AVal} {v:Value} (r:Rep c x v) {els:List (List AVal)} {sz:Nat} (h:srcOf c.H x=some els) (hsz:els.all (·.length == sz)=true):Src c v els sz:=by
  have hlen:∀ (i:Nat) (e:List AVal),els[i]?=some e→e.length=sz:=fun i e he=>by
    have:=List.all_eq_true.1 hsz e (List.mem_of_getElem? he)
    simpa using this
  unfold srcOf at h
  split at h
  · rename_i fr els'
    cases h
    cases r with
    | lnil fr=>exact Or.inl ⟨rfl,rfl⟩
    | list fr els' a cap sz' cell hs hcap hm hsz' hc hr=>
      refine Src.of cell hs hlen fun i e j y he hy=>⟨?_,hr i e j y he hy⟩
      have:sz'=sz:=by rw[← hsz' _ _ he];exact hlen _ _ he
      subst this
      exact hc i e j y he hy
  · rename_i id gen off len
    split at h
    · rename_i o hl
      cases h
      obtain⟨l1,l2⟩:=live_some hl
      cases r with
      | arr id gen off len v ho hn hg hp=>
        obtain⟨p1,a,cap,hx,hab,hsp,hlc,hoff,hcl⟩:=hp o l1 l2
        subst hx
        obtain⟨hB,cl,el,hcell,hfit,hel⟩:=g.obj id o l1
        have hlen':((o.els.drop off).take len).length=len:=by simp;omega
        have:=Src.of (c:=c) (a:=a) (cap:=cap) (sz:=sz) (els:=(o.els.drop off).take len) (fun i j=>cl.getD ((off+i) * o.size+j) undef) (fun _=>hsp) hlen ?_
        · rw[hlen'] at this;exact this
        · intro i e j y he hy
          rw[List.getElem?_take] at he
          split at he
          · rename_i hi
            rw[List.getElem?_drop] at he
            obtain⟨h1,h2⟩:=hel _ _ he
            obtain⟨u,hu,hr⟩:=h2 j y hy
            have hszo:o.size=sz:=by
              rw[← h1]
              refine hlen i e ?_
              rw[List.getElem?_take,if_pos hi,List.getElem?_drop]
              exact he
            have hao:a.off=off * o.size:=by
              rcases hoff with h | h
              · exact h
              · omega
            have hgd:cl.getD ((off+i) * o.size+j) undef=u:=by
              rw[Array.getD_eq_getD_getElem?,hu]
              rfl
            rw[hgd]
            refine⟨?_,hr⟩
            rw[hab,hao,← hszo,← Nat.add_assoc,← Nat.add_mul]
            simp[World.cell?,hcell,hu]
          · cases he
    · cases h
  · cases h
    exact Or.inl ⟨r.v_inv,rfl⟩
  · cases h
theorem holds_append {c:Ctx} {o:Ob} {els:List (List AVal)} {cl rest:List Value} {news:List Value} {olds:List Value} (hl:news.length=els.length * o.size) (hn:∀ (i:Nat) (e:List AVal),els[i]?=some e→e.length=o.size∧∀ (q:Nat) (y:AVal),e[q]?=some y→∃ u,news[i * o.size+q]?=some u∧Rep c y u)
    (holds:olds.length=o.els.length * o.size) (ho:∀ (i:Nat) (e:List AVal),o.els[i]?=some e→e.length=o.size∧∀ (q:Nat) (y:AVal),e[q]?=some y→∃ u,olds[i * o.size+q]?=some u∧Rep c y u) (hcl:cl=olds++news++rest) :
    Holds c cl.toArray ⟨o.size,o.els++els⟩:=by
  subst hcl
  refine⟨?_,fun i e he=>?_⟩
  · simp only[List.length_append,List.size_toArray,holds,hl,Nat.add_mul]
    omega
  · simp only at he
    by_cases hi:i<o.els.length
    · rw[List.getElem?_append_left hi] at he
      refine⟨(ho i e he).1,fun j y hy=>?_⟩
      obtain⟨u,hu,hr⟩:=(ho i e he).2 j y hy
      have:=(List.getElem?_eq_some_iff.1 hu).1
      exact⟨u,by rw[List.getElem?_toArray,List.append_assoc,List.getElem?_append_left (by simpa using this)];exact hu,hr⟩
    · rw[List.getElem?_append_right (by omega)] at he
      refine⟨(hn _ e he).1,fun j y hy=>?_⟩
      obtain⟨u,hu,hr⟩:=(hn _ e he).2 j y hy
      have hlt:=(List.getElem?_eq_some_iff.1 hu).1
      refine⟨u,?_,hr⟩
      have hio:i * o.size=o.els.length * o.size+(i - o.els.length) * o.size:=by rw[← Nat.add_mul];congr 1;omega
      rw[List.getElem?_toArray,List.append_assoc,List.getElem?_append_right (by simp only;omega),List.getElem?_append_left (by simp only[holds,hio];omega)]
      rw[← hu]
      congr 1
      simp only[holds]
      omega
section
variable {P:Program} {N:Nat} {Ty:Types} (hT:TypesOk P Ty) {ρ:Env} {H:Heap} {n:Nat}
variable {d:Option Tmp} {ty:TypeId} {pos:String} {af:Array Edge} {gu:Option (Nat × Bool)}
theorem exec_append {a:Act} {w w':World} {s x:Operand} {t:TypeId} {u:Value} (h:(Builtin.append_ #[t,t] ty #[a.eval s,a.eval x]).run P w = .ok u w') :
    (execOp a.eval ⟨d,.call ⟨.builtin .append,#[s,x],#[t,t]⟩,ty,pos,af,gu⟩).run P w = .ok (.value u) w':=by
  simp only[execOp,resolve,invoke,builtin,Sem.run_bind,Sem.run_pure,Result.andThen_ok,List.map_toArray,List.map_cons,List.map_nil,h]
theorem allOne {els:List (List AVal)} {sz:Nat} {c:Ctx} {news:List Value} (h:els.all (fun e=>e.all one1)=true) (hl:news.length=els.length * sz)
    (hn:∀ (i:Nat) (e:List AVal),els[i]?=some e→e.length=sz∧∀ (q:Nat) (y:AVal),e[q]?=some y→∃ u,news[i * sz+q]?=some u∧Rep c y u):∀ u ∈ news,u.oneCell'=true:=by
  intro u hu
  obtain⟨q,hq,hqu⟩:=List.getElem_of_mem hu
  rw[hl] at hq
  obtain⟨d1,d2,d3⟩:=divmod hq
  have he:els[q / sz]?=some els[q / sz]:=List.getElem?_eq_getElem d1
  obtain⟨hel,hc⟩:=hn _ _ he
  have hy:els[q / sz][q % sz]?=some (els[q / sz][q % sz]'(by omega)):=List.getElem?_eq_getElem (by omega)
  obtain⟨u',hu',hr⟩:=hc _ _ hy
  rw[d3] at hu'
  have:u=u':=by
    have h1:news[q]?=some u:=by rw[← hqu];exact List.getElem?_eq_getElem (by omega)
    rw[h1] at hu'
    exact Option.some.inj hu'
  subst this
  refine one_oneCell (one_of hr ?_)
  exact List.all_eq_true.1 (List.all_eq_true.1 h _ (List.getElem_mem d1)) _ (List.getElem_mem _)
theorem append_arr {c:Ctx} (g:Good c) {t e:TypeId} {j:TI} {info:TypeInfo} {zv:Value} (ht:P.underlying t=some (.slice e)) (hi:P.info? e=some info) (hs:info.size=j.size) (hb:info.bytes=j.bytes) (hz:info.zero=some zv) (hzs:zv.cells.size=j.size)
    {id:Id} {o:Ob} (ho:c.H id=some o) (hso:o.size=j.size) {sv xv:Value} (rs:Rep c (.arr id o.els.length 0 o.els.length) sv) {els:List (List AVal)} (rx:Src c xv els j.size) (h1:els.all (fun e=>e.all one1)=true)
    (hbytes:(o.els.length+els.length) * j.bytes≤140737488355328) (hm:o.els.length+els.length≤4611686018427387904) :
    ∃ u c',(Builtin.append_ #[t,t] ty #[sv,xv]).run P c.w = .ok u c'.w∧c'.H=c.H.set id ⟨o.size,o.els++els⟩∧c'.n=c.n∧Rep c' (.arr id (o.els.length+els.length) 0 (o.els.length+els.length)) u∧Good c'∧Keeps c c':=by
  cases rs with
  | arr _ _ _ _ _ hone hn hg hp=>
  obtain⟨p1,⟨b,aoff,sp⟩,cap,hx,hab,hsp,hlc,hoff,hclf⟩:=hp o ho rfl
  simp only at hab hsp hoff
  subst hx hab hsp
  obtain⟨hB,cl,el,hcell,hfit,hel⟩:=g.obj id o ho
  have hcap:=hclf cl el _ hcell
  simp only[Nat.zero_add] at hcap
  have hnoel:∀ (w':World),SameOut c.w w'→w'.heap.size=c.w.heap.size→(∀ k:Nat,w'.heap[k]?=c.w.heap[k]?)→els=[] →
      ∃ c',c'.w=w'∧c'.H=c.H.set id ⟨o.size,o.els++els⟩∧c'.n=c.n∧Rep c' (.arr id (o.els.length+els.length) 0 (o.els.length+els.length)) (.slice (some ⟨c.β id,aoff,none⟩) (o.els.length+els.length) cap)∧Good c'∧Keeps c c':=by
    intro w' so hsz hbl he
    subst he
    have hset:c.H.set id ⟨o.size,o.els++[]⟩=c.H:=by
      funext i
      simp only[Heap.set,List.append_nil]
      split
      · rename_i h;rw[h,ho]
      · rfl
    obtain⟨k1,k2⟩:=more_blocks g w' so (Nat.le_of_eq hsz.symm) (fun k _=>hbl k)
    refine⟨{ c with w:=w' },rfl,hset.symm,rfl,?_,k2,k1⟩
    simp only[List.length_nil,Nat.add_zero]
    exact (Rep.arr id _ _ _ _ hone hn hg hp).keeps k1
  rcases rx with ⟨rfl,rfl⟩ | ⟨xa,xcap,news,rfl,hnl,hncell,hnrep⟩
  · obtain⟨c',hw,hH,hn',hrep,hgood,hk⟩:=hnoel c.w (SameOut.refl _) rfl (fun _=>rfl) rfl
    refine⟨_,c',?_,hH,hn',hrep,hgood,hk⟩
    rw[hw]
    have hle:o.els.length≤cap:=hlc
    simp[Builtin.append_,run_underlying ht,sizeOf,typeInfo,hi,Builtin.lenOf,hle,Builtin.firstCells,storeCells]
  · by_cases hroom:o.els.length+els.length≤cap
    · by_cases hemp:els=[]
      · subst hemp
        have hnews:news=[]:=List.eq_nil_of_length_eq_zero (by simpa using hnl)
        subst hnews
        obtain⟨c',hw,hH,hn',hrep,hgood,hk⟩:=hnoel c.w (SameOut.refl _) rfl (fun _=>rfl) rfl
        refine⟨_,c',?_,hH,hn',hrep,hgood,hk⟩
        rw[hw]
        have hle:o.els.length≤cap:=hlc
        have hf:=run_firstCells_some (P:=P) c.w info.size 0 xa 0 xcap [] (by simp) (by simp)
        simp only[List.length_nil,Nat.add_zero] at *
        simp[Builtin.append_,run_underlying ht,sizeOf,typeInfo,hi,Builtin.lenOf,hle,hf,storeCells]
      · have hpos:0<els.length:=List.length_pos_iff.2 hemp
        have haoff:aoff=0:=by
          rcases hoff with h | h
          · simpa using h
          · omega
        subst haoff
        have hfit2:o.els.length * o.size+news.length≤cl.size:=by
          rw[hnl,← hso,← Nat.add_mul]
          exact Nat.le_trans (Nat.mul_le_mul_right _ hroom) hcap
        have hnews1:=allOne h1 hnl hnrep
        have hf:=run_firstCells_some (P:=P) c.w info.size els.length xa els.length xcap news (by rw[hs];exact hnl) hncell
        have hst:=run_storeCells_at P (c.β id) (o.els.length * info.size) el news 0 cl c.w hcell (by rw[hs,← hso];simpa using hfit2) hnews1
        simp only[Nat.add_zero] at hst
        have hrun:(Builtin.append_ #[t,t] ty #[.slice (some ⟨c.β id,0,none⟩) o.els.length cap,.slice (some xa) els.length xcap]).run P c.w = .ok (.slice (some ⟨c.β id,0,none⟩) (o.els.length+els.length) cap) (c.w.setRow (c.β id) (over cl (o.els.length * o.size) news)):=by
          have hle:o.els.length+els.length≤cap:=hroom
          rw[hs] at hf hst
          simp[Builtin.append_,run_underlying ht,sizeOf,typeInfo,hi,Builtin.lenOf,hle,hf,Addr.add_lit,hst,over,hs,hso]
        have hholds:Holds c (over cl (o.els.length * o.size) news) ⟨o.size,o.els++els⟩:=by
          have:=holds_append (c:=c) (o:=o) (els:=els) (news:=news) (olds:=cl.toList.take (o.els.length * o.size)) (rest:=cl.toList.drop (o.els.length * o.size+news.length)) (by rw[hso];exact hnl) (by rw[hso];exact hnrep) (by simp;omega) ?_ rfl
          · exact this
          · intro i e he
            refine⟨(hel i e he).1,fun q y hy=>?_⟩
            obtain⟨u,hu,hr⟩:=(hel i e he).2 q y hy
            have hi':=(List.getElem?_eq_some_iff.1 he).1
            have hq:q<o.size:=by rw[← (hel i e he).1];exact (List.getElem?_eq_some_iff.1 hy).1
            exact⟨u,by rw[List.getElem?_take,if_pos (row_lt hi' hq)];simpa using hu,hr⟩
        have hk:=upd_same g ho ⟨o.size,o.els++els⟩ (c.w.setRow (c.β id) (over cl (o.els.length * o.size) news)) cl (over cl (o.els.length * o.size) news) el el ⟨rfl,rfl,rfl⟩ (by simp[World.setRow]) hcell (fun k hk=>setRow_other c.w _ k _ hk) (setRow_heap c.w _ cl _ el _ hcell) (by rw[over_size hfit2];exact Nat.le_refl _) rfl (by simp) hholds
        refine⟨_,{ c with H:=c.H.set id ⟨o.size,o.els++els⟩,w:=c.w.setRow (c.β id) (over cl (o.els.length * o.size) news) },hrun,rfl,rfl,?_,hk.2,hk.1⟩
        refine .arr id _ _ _ _ rfl hn (fun o' ho'=>?_) (fun o' ho' _=>?_)
        · simp only[Heap.get_set_self,Option.some.injEq] at ho'
          subst ho'
          simp
        · simp only[Heap.get_set_self,Option.some.injEq] at ho'
          subst ho'
          refine⟨by omega,_,_,rfl,rfl,rfl,hroom,.inl (by simp),fun cl' el' fz' hcl'=>?_⟩
          simp only at hcl'
          rw[setRow_heap c.w _ cl _ el _ hcell] at hcl'
          cases hcl'
          rw[over_size hfit2]
          simpa using hcap
    · have hpos:0<els.length:=by omega
      have holdl:(cl.toList.take (o.els.length * o.size)).length=o.els.length * info.size:=by rw[hs,← hso];simp;omega
      have hgetold:∀ (q:Nat) (v:Value),(cl.toList.take (o.els.length * o.size))[q]?=some v→c.w.cell? ((⟨c.β id,aoff,none⟩:Addr).add q)=some v:=by
        intro q v hq
        rw[List.getElem?_take] at hq
        split at hq
        · rename_i hql
          have hao:aoff=0:=by
            rcases hoff with h | h
            · simpa using h
            · have:o.els.length=0:=by omega
              rw[this] at hql
              simp at hql
          subst hao
          rw[Addr.add_lit,Nat.zero_add]
          simp only[World.cell?,hcell]
          simpa using hq
        · cases hq
      have hfit3:=growslice_fits (need:=o.els.length+els.length) (old:=cap) (bytes:=info.bytes) (by omega) (by rw[hb];exact hbytes)
      have hrun:=run_append_grow (P:=P) c.w t ty e info zv ht hi hz ⟨c.β id,aoff,none⟩ o.els.length cap (cl.toList.take (o.els.length * o.size)) holdl hgetold xa els.length xcap news (by rw[hs];exact hnl) hncell (by omega) (by omega) hfit3
      have hge:=grownCap_ge c.w (o.els.length+els.length) cap e
      generalize hgc:grownCap c.w (o.els.length+els.length) cap e=gc at hrun hge
      have hholds:Holds c ((cl.toList.take (o.els.length * o.size)).toArray++news.toArray++Builtin.zeroCells zv.cells (gc - (o.els.length+els.length))) ⟨o.size,o.els++els⟩:=by
        have:=holds_append (c:=c) (o:=o) (els:=els) (news:=news) (olds:=cl.toList.take (o.els.length * o.size)) (rest:=(Builtin.zeroCells zv.cells (gc - (o.els.length+els.length))).toList) (by rw[hso];exact hnl) (by rw[hso];exact hnrep) (by simp;omega) ?_ rfl
        · have e1:(cl.toList.take (o.els.length * o.size)).toArray++news.toArray++Builtin.zeroCells zv.cells (gc - (o.els.length+els.length))=(cl.toList.take (o.els.length * o.size)++news++(Builtin.zeroCells zv.cells (gc - (o.els.length+els.length))).toList).toArray:=by
            apply Array.ext'
            simp
          rw[e1]
          exact this
        · intro i e he
          refine⟨(hel i e he).1,fun q y hy=>?_⟩
          obtain⟨u,hu,hr⟩:=(hel i e he).2 q y hy
          have hi':=(List.getElem?_eq_some_iff.1 he).1
          have hq:q<o.size:=by rw[← (hel i e he).1];exact (List.getElem?_eq_some_iff.1 hy).1
          exact⟨u,by rw[List.getElem?_take,if_pos (row_lt hi' hq)];simpa using hu,hr⟩
      have hsize:((cl.toList.take (o.els.length * o.size)).toArray++news.toArray++Builtin.zeroCells zv.cells (gc - (o.els.length+els.length))).size=gc * o.size:=by
        simp only[Array.size_append,List.size_toArray,holdl,hnl,size_zeroCells,hzs,hs,← hso,← Nat.add_mul]
        congr 1
        omega
      generalize hcells:(cl.toList.take (o.els.length * o.size)).toArray++news.toArray++Builtin.zeroCells zv.cells (gc - (o.els.length+els.length))=cells at hrun hholds hsize
      have hk:=upd_new g id ⟨o.size,o.els++els⟩ (c.w.drew.alloc (.cells cells e)) cells e c.n ⟨rfl,rfl,rfl⟩ (by simp) (fun k hk=>heap_alloc_old c.w.drew _ k hk) (heap_alloc_new c.w.drew _) (Nat.le_refl _) (g.stamp id o ho) (fun _=>⟨o,ho,rfl,by simp;omega⟩) hholds
      refine⟨_,{ B:=c.B,β:=fun j=>if j=id then c.w.heap.size else c.β j,H:=c.H.set id ⟨o.size,o.els++els⟩,n:=c.n,w:=c.w.drew.alloc (.cells cells e) },hrun,rfl,rfl,?_,hk.2,hk.1⟩
      refine .arr id _ _ _ _ rfl hn (fun o' ho'=>?_) (fun o' ho' _=>?_)
      · simp only[Heap.get_set_self,Option.some.injEq] at ho'
        subst ho'
        simp
      · simp only[Heap.get_set_self,Option.some.injEq] at ho'
        subst ho'
        refine⟨by omega,_,_,rfl,by simp,rfl,hge,.inl (by simp),fun cl' el' fz' hcl'=>?_⟩
        simp only[if_true] at hcl'
        have h2:=heap_alloc_new c.w.drew (.cells cells e)
        simp only[World.size_drew] at h2
        rw[h2] at hcl'
        cases hcl'
        rw[hsize]
        simp
theorem append_nil {c:Ctx} (g:Good c) {t e:TypeId} {j:TI} {info:TypeInfo} {zv:Value} (ht:P.underlying t=some (.slice e)) (hi:P.info? e=some info) (hs:info.size=j.size) (hb:info.bytes=j.bytes) (hz:info.zero=some zv) (hzs:zv.cells.size=j.size)
    (k:Nat) {xv:Value} {els:List (List AVal)} (rx:Src c xv els j.size) (hpos:els ≠ []) (hbytes:els.length * j.bytes≤140737488355328) (hm:els.length≤4611686018427387904) :
    ∃ u c',(Builtin.append_ #[t,t] ty #[.slice none 0 0,xv]).run P c.w = .ok u c'.w∧c'.H=c.H.set (c.n,k) ⟨j.size,els⟩∧c'.n=c.n+1∧Rep c' (.arr (c.n,k) els.length 0 els.length) u∧Good c'∧Keeps c c':=by
  rcases rx with ⟨rfl,rfl⟩ | ⟨xa,xcap,news,rfl,hnl,hncell,hnrep⟩
  · exact absurd rfl hpos
  · have hlen:0<els.length:=List.length_pos_iff.2 hpos
    have hrun:=run_append_nil (P:=P) c.w t ty e info zv ht hi hz xa els.length xcap news (by rw[hs];exact hnl) hncell hlen (by omega) (by rw[hb];omega)
    have hge:=grownCap_ge c.w els.length 0 e
    generalize hgc:grownCap c.w els.length 0 e=gc at hrun hge
    have hholds:Holds c (news.toArray++Builtin.zeroCells zv.cells (gc - els.length)) ⟨j.size,els⟩:=by
      have:=holds_append (c:=c) (o:=⟨j.size,[]⟩) (els:=els) (news:=news) (olds:=[]) (rest:=(Builtin.zeroCells zv.cells (gc - els.length)).toList) hnl hnrep (by simp) (fun i e he=>by simp at he) rfl
      have e1:news.toArray++Builtin.zeroCells zv.cells (gc - els.length)=([]++news++(Builtin.zeroCells zv.cells (gc - els.length)).toList).toArray:=by
        apply Array.ext'
        simp
      rw[e1]
      simpa using this
    have hsize:(news.toArray++Builtin.zeroCells zv.cells (gc - els.length)).size=gc * j.size:=by
      simp only[Array.size_append,List.size_toArray,hnl,size_zeroCells,hzs,← Nat.add_mul]
      congr 1
      omega
    generalize hcells:news.toArray++Builtin.zeroCells zv.cells (gc - els.length)=cells at hrun hholds hsize
    have hk:=upd_new g (c.n,k) ⟨j.size,els⟩ (c.w.drew.alloc (.cells cells e)) cells e (c.n+1) ⟨rfl,rfl,rfl⟩ (by simp) (fun k hk=>heap_alloc_old c.w.drew _ k hk) (heap_alloc_new c.w.drew _) (Nat.le_succ _) (Nat.lt_succ_self _) (fun h=>absurd h (Nat.lt_irrefl _)) hholds
    refine⟨_,{ B:=c.B,β:=fun j=>if j=(c.n,k) then c.w.heap.size else c.β j,H:=c.H.set (c.n,k) ⟨j.size,els⟩,n:=c.n+1,w:=c.w.drew.alloc (.cells cells e) },hrun,rfl,rfl,?_,hk.2,hk.1⟩
    refine .arr (c.n,k) _ _ _ _ rfl (Nat.lt_succ_self _) (fun o' ho'=>?_) (fun o' ho' _=>?_)
    · simp only[Heap.get_set_self,Option.some.injEq] at ho'
      subst ho'
      exact Nat.le_refl _
    · simp only[Heap.get_set_self,Option.some.injEq] at ho'
      subst ho'
      refine⟨by omega,_,_,rfl,by simp,rfl,hge,.inl (by simp),fun cl' el' fz' hcl'=>?_⟩
      simp only[if_true] at hcl'
      have h2:=heap_alloc_new c.w.drew (.cells cells e)
      simp only[World.size_drew] at h2
      rw[h2] at hcl'
      cases hcl'
      rw[hsize]
      simp
theorem append_nil_nil {c:Ctx} {t e:TypeId} {info:TypeInfo} (ht:P.underlying t=some (.slice e)) (hi:P.info? e=some info) {xv:Value} {sz:Nat} (rx:Src c xv [] sz):(Builtin.append_ #[t,t] ty #[.slice none 0 0,xv]).run P c.w = .ok (.slice none 0 0) c.w:=by
  rcases rx with ⟨rfl,_⟩ | ⟨xa,xcap,news,rfl,hnl,hncell,hnrep⟩
  · simp[Builtin.append_,run_underlying ht,sizeOf,typeInfo,hi,Builtin.lenOf,Builtin.firstCells]
  · have hnews:news=[]:=List.eq_nil_of_length_eq_zero (by simpa using hnl)
    subst hnews
    have hf:=run_firstCells_some (P:=P) c.w info.size 0 xa 0 xcap [] (by simp) (by simp)
    simp[Builtin.append_,run_underlying ht,sizeOf,typeInfo,hi,Builtin.lenOf,hf]
theorem bytes_fit {a b:Nat} (ha:a≤1073741824) (hb:b≤131072):a * b≤140737488355328:=by
  have:=Nat.mul_le_mul ha hb
  omega
include hT in
theorem step_append {t:TypeId} {s x:Operand} {v:AVal} {H':Heap} {n':Nat} (h:appendF Ty d t (ρ.ev s) (ρ.ev x) H n=some (v,H',n')) :
    OpSem P N ⟨d,.call ⟨.builtin .append,#[s,x],#[t,t]⟩,ty,pos,af,gu⟩ ρ H n fun v1 H1 n1=>v1=v∧H1=H'∧n1=n':=by
  refine OpSem.of_value fun c a hH hn g r=>?_
  subst hH
  unfold appendF at h
  split at h
  · rename_i j els k hk hx
    obtain⟨i,e,hi,hd,hj⟩:=kd_slice hk
    obtain⟨hu,_⟩:=hT t i hi
    rw[hd] at hu
    obtain⟨_,info,zv,hinfo,his,hib,hiz,hzc⟩:=hT e j hj
    have rs:=r.ev s
    split at h
    · rename_i hc
      obtain⟨hz,hby,hsz,h1⟩:=hc
      split at h
      · rename_i id g0 off len hs
        rw[hs] at rs
        split at h
        · rename_i o hl
          obtain⟨l1,l2⟩:=live_some hl
          split at h
          · rename_i hc
            obtain⟨rfl,rfl,hso,hm⟩:=hc
            cases h
            subst l2
            obtain⟨u,c',hrun,hH',hn',hrep,hgood,hkeep⟩:=append_arr (P:=P) (ty:=ty) g hu hinfo his hib hiz (by rw[hzc];simpa using hz) l1 hso rs (srcOf_ok g (r.ev x) hx hsz) h1 (bytes_fit hm hby) (by omega)
            exact⟨_,u,c',exec_append hrun,⟨rfl,by rw[hH',hso],by rw[hn',hn]⟩,hrep,hgood,hkeep⟩
          · cases h
        · cases h
      · rename_i hs
        rw[hs] at rs
        have hsv:=rs.v_inv
        split at h
        · rename_i h0
          cases h
          have h0':els=[]:=List.eq_nil_of_length_eq_zero h0
          subst h0'
          have hrun:=Ab.append_nil_nil (P:=P) (ty:=ty) (c:=c) hu hinfo (srcOf_ok g (r.ev x) hx hsz)
          rw[← hsv] at hrun
          exact⟨_,_,c,exec_append hrun,⟨rfl,rfl,hn⟩,by rw[hsv];exact .v _,g,Keeps.refl c⟩
        · rename_i h0
          split at h
          · rename_i hm
            cases h
            obtain⟨u,c',hrun,hH',hn',hrep,hgood,hkeep⟩:=Ab.append_nil (P:=P) (ty:=ty) g hu hinfo his hib hiz (by rw[hzc];simpa using hz) k (srcOf_ok g (r.ev x) hx hsz) (by intro he;exact h0 (by rw[he];rfl)) (bytes_fit hm hby) (by omega)
            rw[← hsv] at hrun
            rw[hn] at hH' hn' hrep
            exact⟨_,u,c',exec_append hrun,⟨rfl,hH',hn'⟩,hrep,hgood,hkeep⟩
          · cases h
      · cases h
    · cases h
  · cases h
include hT in
theorem step_makeSlice {t:TypeId} {l cc:Operand} {v:AVal} {H':Heap} {n':Nat} (h:makeF Ty d t (ρ.ev l) (ρ.ev cc) H n=some (v,H',n')) :
    OpSem P N ⟨d,.makeSlice t l cc,ty,pos,af,gu⟩ ρ H n fun v1 H1 n1=>v1=v∧H1=H'∧n1=n':=by
  refine OpSem.of_value fun c a hH hn g r=>?_
  subst hH
  unfold makeF at h
  split at h
  · rename_i j _ m _ m' k hk hl hcc
    obtain⟨i,e,hi,hd,hj⟩:=kd_slice hk
    have hde:=(hT t i hi).run_desc c.w
    have hsz:=(hT e j hj).run_size c.w
    obtain⟨zv,hz,hzc⟩:=(hT e j hj).run_zero c.w
    obtain⟨_,info,zv',hinfo,his,hib,hiz,_⟩:=hT e j hj
    split at h
    · rename_i hc
      obtain⟨rfl,h0,h1,h2,h3,h4⟩:=hc
      cases h
      have rl:=r.ev l
      rw[hl] at rl
      have rc:=r.ev cc
      rw[hcc] at rc
      have hw:IntKind.i64.wrap m=m:=by
        simp only[IntKind.wrap,IntKind.bits,IntKind.signed,Bool.true_and]
        split<;>rename_i h<;>simp at h<;>omega
      have hbm:(j.bytes:Int) * m≤281474976710656:=by
        have h5:j.bytes * m.toNat≤131072 * 1073741824:=Nat.mul_le_mul h2 (by omega)
        have h6:(j.bytes:Int) * m=((j.bytes * m.toNat:Nat):Int):=by
          rw[Int.natCast_mul,Int.toNat_of_nonneg h0]
        rw[h6]
        omega
      have hrows:=zero_rows (z:=j.zero) m.toNat (by omega)
      rw[h3] at hrows
      have hh:Holds c ((List.replicate m.toNat j.zero).flatten).toArray ⟨j.size,List.replicate m.toNat (j.zero.map .v)⟩:=by
        refine⟨by simp[h3],fun q e he=>?_⟩
        have hq:=(List.getElem?_eq_some_iff.1 he).1
        simp only[List.length_replicate] at hq
        rw[List.getElem?_replicate,if_pos hq] at he
        cases he
        refine⟨by simpa using h3,fun p y hy=>?_⟩
        rw[List.getElem?_map] at hy
        cases hzp:j.zero[p]? with
        | none=>simp[hzp] at hy
        | some u=>
          simp only[hzp,Option.map_some,Option.some.injEq] at hy
          subst hy
          have hp:p<j.size:=by rw[← h3];exact (List.getElem?_eq_some_iff.1 hzp).1
          refine⟨u,?_,.v u⟩
          rw[← hrows,Array.getElem?_map]
          have hlt:=row_lt hq hp
          obtain⟨d1,d2⟩:=divmod_row (i:=q) hp
          simp[hlt,h3,d2,hzp]
      have hk2:=new_ob g k ⟨j.size,List.replicate m.toNat (j.zero.map .v)⟩ ((List.replicate m.toNat j.zero).flatten).toArray e hh
      refine⟨.arr (n,k) m.toNat 0 m.toNat,.slice (some ⟨c.w.heap.size,0,none⟩) m.toNat m.toNat,{ B:=c.B,β:=fun j=>if j=(c.n,k) then c.w.heap.size else c.β j,H:=c.H.set (c.n,k) ⟨j.size,List.replicate m.toNat (j.zero.map .v)⟩,n:=c.n+1,w:={ c.w with heap:=c.w.heap.push (.cells ((List.replicate m.toNat j.zero).flatten).toArray e (0,0)) } },?_,⟨rfl,by rw[← hn],by rw[← hn]⟩,?_,hk2.2,hk2.1⟩
      · have c1:¬ (m<0):=by omega
        have c2:¬ (281474976710656<(j.bytes:Int) * m):=by omega
        by_cases hm0:m.toNat * j.size=0
        · have hm00:m.toNat=0:=by
            rcases Nat.mul_eq_zero.1 hm0 with h | h
            · exact h
            · exact absurd h h4
          simp[execOp,Instr.makeSlice,hde,hd,rl.v_inv,rc.v_inv,asInt,asIntOf,hw,typeInfo,hinfo,hib,c1,c2,hsz,hm00,newRow,range0]
        · simp[execOp,Instr.makeSlice,hde,hd,rl.v_inv,rc.v_inv,asInt,asIntOf,hw,typeInfo,hinfo,hib,c1,c2,hsz,hm0,hz,hzc,newRow]
          exact congrArg (fun A=>c.w.alloc (Obj.cells A e)) (by simpa using hrows)
      · refine .arr _ _ _ _ _ rfl (by simp[hn]) ?_ ?_
        · intro o ho
          simp[Heap.set,hn] at ho
          subst ho
          simp
        · intro o ho _
          simp[Heap.set,hn] at ho
          subst ho
          refine⟨by omega,_,_,rfl,by simp[hn],rfl,Nat.le_refl _,.inl (by simp),fun cl el fz hcl=>?_⟩
          simp[hn] at hcl
          obtain⟨rfl,_,_⟩:=hcl
          simp[h3]
    · cases h
  · cases h
end
end Go.Ab
/- The abstract machine, part I: the step function is sound; a region evaluated; contracts of functions that only read and make. -/
namespace Go.Ab
set_option linter.unusedSectionVars false
variable [Inhabited Tabs]
theorem toList_one {α:Type} {a:Array α} {x:α} (h:a.toList=[x]):a=#[x]:=Array.ext' h
theorem toList_none {α:Type} {a:Array α} (h:a.toList.isEmpty=true):a=#[]:=by
  apply Array.ext'
  simpa using h
section
variable {P:Program} {N:Nat} {Ty:Types} (hT:TypesOk P Ty) {ρ:Env} {H:Heap} {n:Nat}
include hT in
theorem stepF_ok {o:Oper} {v:AVal} {H':Heap} {n':Nat} (h:stepF Ty o.dst o.op ρ H n=some (v,H',n')):OpSem P N o ρ H n fun v1 H1 n1=>v1=v∧H1=H'∧n1=n':=by
  obtain⟨d,op,ty,pos,af,gu⟩:=o
  simp only at h
  unfold stepF at h
  split at h
  · cases h;exact step_move
  · cases h;exact step_assign
  · split at h
    · rename_i hc
      cases h
      exact step_pick hc
    · cases h
  · split at h
    · rename_i hi
      cases h
      exact step_alloc hT hi
    · cases h
  · split at h
    · rename_i hc
      cases h
      exact step_box hc
    · cases h
  · split at h
    · rename_i hi hv
      split at h
      · rename_i hl
        cases h
        exact step_load hT hi hv hl
      · cases h
    · cases h
  · split at h
    · rename_i hs
      cases h
      exact step_store hT hs
    · cases h
  · split at h
    · rename_i hk hv
      split at h
      · rename_i hf
        split at h
        · cases h
        · rename_i hs
          cases h
          exact step_fieldAddr hT hk hf hs hv
      · cases h
    · cases h
  · split at h
    · rename_i hk hx
      split at h
      · rename_i hf
        simp only[Option.map_eq_some_iff,Prod.mk.injEq] at h
        obtain⟨y,hy,rfl,rfl,rfl⟩:=h
        exact step_field hT hk hf hx hy
      · cases h
    · cases h
  · simp only[Option.map_eq_some_iff,Prod.mk.injEq] at h
    obtain⟨y,hy,rfl,rfl,rfl⟩:=h
    exact step_indexAddr hT hy
  · simp only[Option.map_eq_some_iff,Prod.mk.injEq] at h
    obtain⟨y,hy,rfl,rfl,rfl⟩:=h
    exact step_index hT hy
  · simp only[Option.map_eq_some_iff,Prod.mk.injEq] at h
    obtain⟨y,hy,rfl,rfl,rfl⟩:=h
    exact step_build hT hy
  · split at h
    · rename_i hk
      split at h
      · rename_i h0
        split at h
        · rename_i hps
          cases h
          subst h0
          have e0:=toList_none hps
          subst e0
          exact step_buildSlice_nil hT hk
        · cases h
      · rename_i h0
        split at h
        · rename_i hc
          obtain⟨h1,h2,h3⟩:=hc
          simp only[Option.map_eq_some_iff,Prod.mk.injEq] at h
          obtain⟨y,hy,rfl,rfl,rfl⟩:=h
          exact step_buildSlice hT hk h0 h1 h2 h3 hy
        · cases h
    · cases h
  · simp only[Option.map_eq_some_iff,Prod.mk.injEq] at h
    obtain⟨y,hy,rfl,rfl,rfl⟩:=h
    exact step_binOp hT hy
  · simp only[Option.map_eq_some_iff,Prod.mk.injEq] at h
    obtain⟨y,hy,rfl,rfl,rfl⟩:=h
    exact step_unOp hy
  · simp only[Option.map_eq_some_iff,Prod.mk.injEq] at h
    obtain⟨y,hy,rfl,rfl,rfl⟩:=h
    exact step_convert hT hy
  · cases h;exact step_makeFunc
  · simp only[Option.map_eq_some_iff,Prod.mk.injEq] at h
    obtain⟨y,hy,rfl,rfl,rfl⟩:=h
    exact step_slice hT hy
  · split at h
    · rename_i ht
      simp only[Option.map_eq_some_iff,Prod.mk.injEq] at h
      obtain⟨y,hy,rfl,rfl,rfl⟩:=h
      exact step_extract ht hy
    · cases h
  · split at h
    · rename_i hv
      cases h
      exact step_nilCheck hv
    · cases h
  · exact step_makeSlice hT h
  · split at h
    · rename_i hs ht
      split at h
      · rename_i htt
        subst htt
        have e1:_=#[_,_]:=Array.ext' hs
        have e2:_=#[_,_]:=Array.ext' ht
        subst e1
        subst e2
        exact step_append hT h
      · cases h
    · cases h
  · split at h
    · rename_i hx ht
      simp only[Option.map_eq_some_iff,Prod.mk.injEq] at h
      obtain⟨y,hy,rfl,rfl,rfl⟩:=h
      have e1:=toList_one hx
      have e2:=toList_one ht
      subst e1
      subst e2
      exact step_len hT hy
    · cases h
  · cases h
end
def RunK (P:Program) (f:FuncId) (N:Nat) (k:List Item) (Q:AVal→Heap→Nat→Prop) (ops:Array Oper) (l:List Oper) (ρ:Env) (H:Heap) (n:Nat):Prop:=
  RunO P N ops l ρ H n fun ρ' H' n'=>Runs P f N k ρ' H' n' Q
def guardOf (ops:Array Oper) (ρ:Env) (j:Nat):AVal:=
  match (ops[j]?).bind (·.dst) with
  | some t=>ρ t
  | none=>.undef
section
variable (P:Program) (f:FuncId) (N:Nat) (k:List Item) (Q:AVal→Heap→Nat→Prop) (Ty:Types) (ops:Array Oper)
mutual
def evalK:List Oper→Env→Heap→Nat→Prop
  | [],ρ,H,n=>Runs P f N k ρ H n Q
  | o::l,ρ,H,n=>
    match o.guard with
    | none=>bindE (stepF Ty o.dst o.op ρ H n) o l ρ H n
    | some (j,want)=>match guardOf ops ρ j with
      | .v (.bool b)=>guardE b want o l ρ H n
      | .v (.tuple _)=>evalK l (ρ.put o.dst skv) H n
      | _=>RunK P f N k Q ops (o::l) ρ H n
  termination_by l=>(l.length,0)
def bindE:Option (AVal × Heap × Nat)→Oper→List Oper→Env→Heap→Nat→Prop
  | some (v,H',n'),o,l,ρ,_,_=>evalK l (ρ.put o.dst v) H' n'
  | none,o,l,ρ,H,n=>RunK P f N k Q ops ({ o with guard:=none }::l) ρ H n
  termination_by _ _ l=>(l.length,1)
def guardE (b want:Bool) (o:Oper) (l:List Oper) (ρ:Env) (H:Heap) (n:Nat):Prop:=
  if b=want then bindE (stepF Ty o.dst o.op ρ H n) o l ρ H n else evalK l (ρ.put o.dst skv) H n
  termination_by (l.length,2)
end
end
section
variable {P:Program} {f:FuncId} {N:Nat} {k:List Item} {Q:AVal→Heap→Nat→Prop} {Ty:Types} {ops:Array Oper} {o:Oper} {l:List Oper} {ρ:Env} {H:Heap} {n:Nat}
@[simp] theorem evalK_nil : evalK P f N k Q Ty ops [] ρ H n = Runs P f N k ρ H n Q := by rw [evalK]
@[simp] theorem evalK_op {d : Option Tmp} {op : Op} {ty : TypeId} {pos : String} {af : Array Edge} : evalK P f N k Q Ty ops (⟨d, op, ty, pos, af, none⟩ :: l) ρ H n = bindE P f N k Q Ty ops (stepF Ty d op ρ H n) ⟨d, op, ty, pos, af, none⟩ l ρ H n := by rw [evalK]
theorem evalK_guard {d:Option Tmp} {op:Op} {ty:TypeId} {pos:String} {af:Array Edge} {j:Nat} {want:Bool}:evalK P f N k Q Ty ops (⟨d,op,ty,pos,af,some (j,want)⟩::l) ρ H n=(match guardOf ops ρ j with
      | .v (.bool b)=>guardE P f N k Q Ty ops b want ⟨d,op,ty,pos,af,some (j,want)⟩ l ρ H n
      | .v (.tuple _)=>evalK P f N k Q Ty ops l (ρ.put d skv) H n
      | _=>RunK P f N k Q ops (⟨d,op,ty,pos,af,some (j,want)⟩::l) ρ H n):=by rw[evalK]
@[simp] theorem bindE_some {v : AVal} {H' : Heap} {n' : Nat} : bindE P f N k Q Ty ops (some (v, H', n')) o l ρ H n = evalK P f N k Q Ty ops l (ρ.put o.dst v) H' n' := by rw [bindE]
@[simp] theorem bindE_none : bindE P f N k Q Ty ops none o l ρ H n = RunK P f N k Q ops ({ o with guard := none } :: l) ρ H n := by rw [bindE]
@[simp] theorem guardE_tt : guardE P f N k Q Ty ops true true o l ρ H n = bindE P f N k Q Ty ops (stepF Ty o.dst o.op ρ H n) o l ρ H n := by rw [guardE, if_pos rfl]
@[simp] theorem guardE_ff : guardE P f N k Q Ty ops false false o l ρ H n = bindE P f N k Q Ty ops (stepF Ty o.dst o.op ρ H n) o l ρ H n := by rw [guardE, if_pos rfl]
@[simp] theorem guardE_tf : guardE P f N k Q Ty ops true false o l ρ H n = evalK P f N k Q Ty ops l (ρ.put o.dst skv) H n := by rw [guardE, if_neg (by simp)]
@[simp] theorem guardE_ft : guardE P f N k Q Ty ops false true o l ρ H n = evalK P f N k Q Ty ops l (ρ.put o.dst skv) H n := by rw [guardE, if_neg (by simp)]
end
theorem RunO.unguard {P:Program} {N:Nat} {ops:Array Oper} {o:Oper} {l:List Oper} {ρ:Env} {H:Heap} {n:Nat} {R:Env→Heap→Nat→Prop} {j t:Nat} {want b:Bool} (hg:o.guard=some (j,want))
    (hj:(ops[j]?).bind (·.dst)=some t) (ht:dok N (some t)=true) (hv:ρ t = .v (.bool b)) (hb:b=want) (h:RunO P N ops ({ o with guard:=none }::l) ρ H n R):RunO P N ops (o::l) ρ H n R:=by
  intro c a hH hn g r Q k
  have hyi:=yielded_of r hj ht hv
  have:=h c a hH hn g r Q k
  unfold wpList at this ⊢
  rw[if_pos (by simp[Region.wanted])] at this
  rw[if_pos (by simp[Region.wanted,hg,hyi,hb])]
  exact this
theorem evalK_sound {P:Program} {f:FuncId} {N:Nat} {k:List Item} {Q:AVal→Heap→Nat→Prop} {Ty:Types} (hT:TypesOk P Ty) {ops:Array Oper} (hN:ops.toList.all (fun o=>dok N o.dst)=true) :
    ∀ (l:List Oper) (ρ:Env) (H:Heap) (n:Nat),l.all (fun o=>dok N o.dst)=true→evalK P f N k Q Ty ops l ρ H n→RunK P f N k Q ops l ρ H n
  | [],ρ,H,n,_,h=>RunO.nil (by simpa using h)
  | o::l,ρ,H,n,hd,h=>by
    simp only[List.all_cons,Bool.and_eq_true] at hd
    rw[evalK] at h
    split at h
    · rename_i hg
      cases hs:stepF Ty o.dst o.op ρ H n with
      | some r=>
        obtain⟨v,H',n'⟩:=r
        rw[hs,bindE_some] at h
        refine RunO.op hg hd.1 ((stepF_ok hT hs).mono ?_)
        rintro v1 H1 n1 ⟨rfl,rfl,rfl⟩
        exact evalK_sound hT hN l _ _ _ hd.2 h
      | none=>
        rw[hs,bindE_none] at h
        obtain⟨d,op,ty,pos,af,gu⟩:=o
        simp only at hg
        subst hg
        exact h
    · rename_i j want hg
      split at h
      · rename_i b hv
        unfold guardOf at hv
        split at hv
        · rename_i t hj
          have ht:dok N (some t)=true:=by
            cases ho:ops[j]? with
            | none=>simp[ho] at hj
            | some o'=>
              simp only[ho,Option.bind_some] at hj
              have:=List.all_eq_true.1 hN o' (by rw[← Array.getElem?_toList] at ho;exact List.mem_of_getElem? ho)
              rw[hj] at this
              exact this
          rw[guardE] at h
          split at h
          · rename_i hb
            cases hs:stepF Ty o.dst o.op ρ H n with
            | some r=>
              obtain⟨v,H',n'⟩:=r
              rw[hs,bindE_some] at h
              refine RunO.guarded hg hd.1 hj ht hv (fun _=>(stepF_ok hT hs).mono ?_) (fun hne=>absurd hb hne)
              rintro v1 H1 n1 ⟨rfl,rfl,rfl⟩
              exact evalK_sound hT hN l _ _ _ hd.2 h
            | none=>
              rw[hs,bindE_none] at h
              exact RunO.unguard hg hj ht hv hb h
          · rename_i hb
            exact RunO.guarded hg hd.1 hj ht hv (fun he=>absurd he hb) (fun _=>evalK_sound hT hN l _ _ _ hd.2 h)
        · cases hv
      · rename_i xs hv
        unfold guardOf at hv
        split at hv
        · rename_i t hj
          have ht:dok N (some t)=true:=by
            cases ho:ops[j]? with
            | none=>simp[ho] at hj
            | some o'=>
              simp only[ho,Option.bind_some] at hj
              have:=List.all_eq_true.1 hN o' (by rw[← Array.getElem?_toList] at ho;exact List.mem_of_getElem? ho)
              rw[hj] at this
              exact this
          exact RunO.skipped hg hd.1 hj ht hv (evalK_sound hT hN l _ _ _ hd.2 h)
        · cases hv
      · exact h
theorem Runs.eval {P:Program} {f:FuncId} {N:Nat} {k:List Item} {Q:AVal→Heap→Nat→Prop} {Ty:Types} (hT:TypesOk P Ty) {id:Nat} {ops:List Oper} {ρ:Env} {H:Heap} {n:Nat} (hN:ops.all (fun o=>dok N o.dst)=true)
    (h:evalK P f N k Q Ty ops.toArray ops ρ H n):Runs P f N (.code (.region id ops.toArray false)::k) ρ H n Q:=
  Runs.region (evalK_sound (ops:=ops.toArray) hT (by simpa using hN) ops ρ H n hN h)
theorem RunK.op {P:Program} {f:FuncId} {N:Nat} {k:List Item} {Q:AVal→Heap→Nat→Prop} {Ty:Types} (hT:TypesOk P Ty) {ops l:List Oper} {o:Oper} {ρ:Env} {H:Heap} {n:Nat} {post:AVal→Heap→Nat→Prop}
    (hN:ops.all (fun o=>dok N o.dst)=true) (hl:(o::l).all (fun o=>dok N o.dst)=true) (hg:o.guard=none) (ho:OpSem P N o ρ H n post)
    (h:∀ v H' n',post v H' n'→evalK P f N k Q Ty ops.toArray l (ρ.put o.dst v) H' n'):RunK P f N k Q ops.toArray (o::l) ρ H n:=by
  simp only[List.all_cons,Bool.and_eq_true] at hl
  exact RunO.op hg hl.1 (ho.mono fun v H' n' hp=>evalK_sound (ops:=ops.toArray) hT (by simpa using hN) l _ _ _ hl.2 (h v H' n' hp))
def ArgOk (H:Heap) (n:Nat) (a a':AVal):Prop:=
  ∀ (c:Ctx) (x:Value),c.H=H→c.n=n→Good c→Rep c a x→∀ c':Ctx,c'.w=c.w→(∀ id,c'.H id=none)→Rep c' a' x
def ResOk (H:Heap) (n:Nat) (a a':AVal):Prop:=
  ∀ (c:Ctx) (x:Value),c.H=H→c.n=n→Good c→Rep c a x→∀ c':Ctx,c'.w=c.w→(∀ k,c'.mu k→k<c.B)→c'.B≤c.B→Rep c' a' x
inductive ArgsOk (H:Heap) (n:Nat):List AVal→List AVal→Prop
  | nil:ArgsOk H n [] []
  | cons {a b:AVal} {as1 bs:List AVal} (h:ArgOk H n a b) (t:ArgsOk H n as1 bs):ArgsOk H n (a::as1) (b::bs)
theorem ArgsOk.get {H:Heap} {n:Nat} {as1 bs:List AVal} (h:ArgsOk H n as1 bs):as1.length=bs.length∧∀ (i:Nat) (a b:AVal),as1[i]?=some a→bs[i]?=some b→ArgOk H n a b:=by
  induction h with
  | nil=>exact⟨rfl,by simp⟩
  | cons h _ ih=>
    refine⟨by simp[ih.1],fun i a b ha hb=>?_⟩
    cases i with
    | zero=>simp at ha hb;rw[← ha,← hb];exact h
    | succ i=>exact ih.2 i a b (by simpa using ha) (by simpa using hb)
def noHeap:Heap:=fun _=>none
def PureC (P:Program) (f:FuncId) (args:List AVal) (R:AVal→Prop):Prop:=
  CallsA P f args noHeap 0 fun v H' n'=>∃ r,ResOk H' n' v r∧R r
theorem PureC.mono {P:Program} {f:FuncId} {args:List AVal} {R R':AVal→Prop} (h:PureC P f args R) (hr:∀ r,R r→R' r):PureC P f args R':=
  CallsA.mono h fun _ _ _ ⟨r,h1,h2⟩=>⟨r,h1,hr r h2⟩
theorem good_bare (w:World) (h:tabT w w.heap.size):Good ⟨w.heap.size,fun _=>0,noHeap,0,w⟩:=
  ⟨(by intro _ _ h;cases h),(by intro _ _ _ _ h;cases h),Nat.le_refl _,(by intro _ _ h;cases h),h⟩
theorem OpSem.callP {P:Program} {N:Nat} {d:Option Tmp} {g:Operand} {args:Array Operand} {ats:Array TypeId} {ty:TypeId} {pos:String} {af:Array Edge} {gu:Option (Nat × Bool)} {ρ:Env} {H:Heap} {n:Nat} {R:AVal→Prop}
    {f:FuncId} {args':List AVal} (hg:ρ.ev g = .fn (.func f) [] []) (hent:Ent P f) (ha:ArgsOk H n (args.toList.map ρ.ev) args') (h:PureC P f args' R) :
    OpSem P N ⟨d,.call ⟨.value g,args,ats⟩,ty,pos,af,gu⟩ ρ H n fun v H1 n1=>R v∧H1=H∧n1=n:=by
  refine OpSem.call hg hent ?_
  intro c xs hH hn gd hl
  simp only[List.nil_append,List.append_nil] at hl
  have hb:Good ⟨c.w.heap.size,fun _=>0,noHeap,0,c.w⟩:=good_bare c.w gd.tabUp
  obtain⟨hlen,hget⟩:=ha.get
  have hrep:RepL ⟨c.w.heap.size,fun _=>0,noHeap,0,c.w⟩ args' xs:=by
    refine⟨by rw[← hlen];exact hl.1,fun i b x hb' hx=>?_⟩
    have hi:=(List.getElem?_eq_some_iff.1 hb').1
    have ha':(args.toList.map ρ.ev)[i]?=some ((args.toList.map ρ.ev)[i]'(by omega)):=List.getElem?_eq_getElem (by omega)
    exact hget i _ b ha' hb' c x hH hn gd (hl.2 i _ x ha' hx) _ rfl (fun _=>rfl)
  refine (h _ xs rfl rfl hb hrep).mono ?_
  rintro e w' ⟨x,v,c1,he,hw,⟨r,hres,hR⟩,hrv,hg1,hk⟩
  subst hw
  have hnomu:∀ k,¬ Ctx.mu ⟨c.w.heap.size,fun _=>0,noHeap,0,c.w⟩ k:=by
    rintro k ⟨id,o,ho,_⟩
    cases ho
  obtain⟨hkc,hgc⟩:=more_blocks gd c1.w ⟨hk.os,hk.tape,hk.output⟩ hk.size (fun k hk'=>(hk.imm k hk' (hnomu k)).1)
  refine⟨x,r,{ c with w:=c1.w },he,rfl,⟨hR,hH,hn⟩,?_,hgc,hkc⟩
  refine hres c1 x rfl rfl hg1 hrv { c with w:=c1.w } rfl ?_ ?_
  · rintro k ⟨id,o,ho,hb'⟩
    have hlt:c.β id<c.w.heap.size:=gd.lt ho
    rw[hk.B]
    show k<c.w.heap.size
    simp only at hb'
    omega
  · rw[hk.B]
    exact gd.Bsize
theorem PureC.of_runs {P:Program} {f:FuncId} {fn:Func} {body:Code} {args:List AVal} {R:AVal→Prop} (hfn:P.funcs[f]?=some fn) (hb:fn.body=some body) (hN:args.length≤fn.ntmps)
    (h:Runs P f fn.ntmps [.code body] (argEnv args) noHeap 0 fun v H' n'=>∃ r,ResOk H' n' v r∧R r):PureC P f args R:=
  CallsA.of_runs hfn hb hN h
end Go.Ab
