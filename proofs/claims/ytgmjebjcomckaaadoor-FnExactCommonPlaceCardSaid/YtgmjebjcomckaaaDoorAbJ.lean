/- The abstract machine, part J: append; make. -/
import Derived.Test.YtgmjebjcomckaaaDoorAbH
namespace Go.Ab

/-- What a slice value shows: rows of 'sz' cells. -/
def Src (c : Ctx) (x : Value) (els : List (List AVal)) (sz : Nat) : Prop :=
  (x = .slice none 0 0 ∧ els = []) ∨
  ∃ (a : Addr) (cap : Nat) (news : List Value), x = .slice (some a) els.length cap ∧ news.length = els.length * sz ∧ (∀ (q : Nat) (u : Value), news[q]? = some u → c.w.cell? (a.add q) = some u) ∧
    ∀ (i : Nat) (e : List AVal), els[i]? = some e → e.length = sz ∧ ∀ (q : Nat) (y : AVal), e[q]? = some y → ∃ u, news[i * sz + q]? = some u ∧ Rep c y u

theorem add_none {a : Addr} (h : a.spot = none) (q : Nat) : a.add q = ⟨a.block, a.off + q, none⟩ := by
  obtain ⟨b, o, s⟩ := a
  simp only at h
  subst h
  exact Addr.add_lit b o q

theorem divmod {n sz q : Nat} (h : q < n * sz) : q / sz < n ∧ q % sz < sz ∧ q / sz * sz + q % sz = q := by
  have hp : 0 < sz := by
    rcases Nat.eq_zero_or_pos sz with h0 | h0
    · subst h0; simp at h
    · exact h0
  refine ⟨Nat.div_lt_of_lt_mul (by rwa [Nat.mul_comm] at h), Nat.mod_lt _ hp, ?_⟩
  have := Nat.div_add_mod q sz
  rwa [Nat.mul_comm] at this

theorem row_lt {i n j sz : Nat} (hi : i < n) (hj : j < sz) : i * sz + j < n * sz := by
  have := Nat.mul_le_mul_right sz (show i + 1 ≤ n by omega)
  rw [Nat.add_mul, Nat.one_mul] at this
  omega

theorem divmod_row {i j sz : Nat} (hj : j < sz) : (i * sz + j) / sz = i ∧ (i * sz + j) % sz = j := by
  constructor
  · rw [Nat.mul_comm, Nat.mul_add_div (by omega), Nat.div_eq_of_lt hj, Nat.add_zero]
  · rw [Nat.mul_comm, Nat.mul_add_mod, Nat.mod_eq_of_lt hj]

theorem Src.of {c : Ctx} {a : Addr} {cap sz : Nat} {els : List (List AVal)} (cell : Nat → Nat → Value) (ha : els ≠ [] → a.spot = none) (hlen : ∀ (i : Nat) (e : List AVal), els[i]? = some e → e.length = sz)
    (hc : ∀ (i : Nat) (e : List AVal) (j : Nat) (x : AVal), els[i]? = some e → e[j]? = some x → c.w.cell? ⟨a.block, a.off + (i * sz + j), none⟩ = some (cell i j) ∧ Rep c x (cell i j)) : Src c (.slice (some a) els.length cap) els sz := by
  refine Or.inr ⟨a, cap, (List.range (els.length * sz)).map fun q => cell (q / sz) (q % sz), rfl, by simp, fun q u hq => ?_, fun i e he => ⟨hlen i e he, fun q y hy => ?_⟩⟩
  · rw [List.getElem?_map] at hq
    have hql : q < els.length * sz := by
      rcases Nat.lt_or_ge q (els.length * sz) with h | h
      · exact h
      · rw [List.getElem?_eq_none (by simpa using h)] at hq; cases hq
    rw [List.getElem?_range hql] at hq
    simp only [Option.map_some, Option.some.injEq] at hq
    obtain ⟨d1, d2, d3⟩ := divmod hql
    have he : els[q / sz]? = some els[q / sz] := List.getElem?_eq_getElem d1
    have hel := hlen _ _ he
    have hy : els[q / sz][q % sz]? = some (els[q / sz][q % sz]'(by omega)) := List.getElem?_eq_getElem (by omega)
    have := (hc _ _ _ _ he hy).1
    rw [d3] at this
    rw [add_none (ha (by intro h0; subst h0; simp at d1)), this, hq]
  · have hi := (List.getElem?_eq_some_iff.1 he).1
    have hj : q < sz := by rw [← hlen i e he]; exact (List.getElem?_eq_some_iff.1 hy).1
    have hql := row_lt hi hj
    obtain ⟨d1, d2⟩ := divmod_row (i := i) hj
    refine ⟨cell i q, ?_, (hc i e q y he hy).2⟩
    rw [List.getElem?_map, List.getElem?_range hql]
    simp [d1, d2]

theorem srcOf_ok {c : Ctx} (g : Good c) {x : AVal} {v : Value} (r : Rep c x v) {els : List (List AVal)} {sz : Nat} (h : srcOf c.H x = some els) (hsz : els.all (·.length == sz) = true) : Src c v els sz := by
  have hlen : ∀ (i : Nat) (e : List AVal), els[i]? = some e → e.length = sz := fun i e he => by
    have := List.all_eq_true.1 hsz e (List.mem_of_getElem? he)
    simpa using this
  unfold srcOf at h
  split at h
  · rename_i fr els'
    cases h
    cases r with
    | lnil fr => exact Or.inl ⟨rfl, rfl⟩
    | list fr els' a cap sz' cell hs hcap hm hsz' hc hr =>
      refine Src.of cell hs hlen fun i e j y he hy => ⟨?_, hr i e j y he hy⟩
      have : sz' = sz := by rw [← hsz' _ _ he]; exact hlen _ _ he
      subst this
      exact hc i e j y he hy
  · rename_i id gen off len
    split at h
    · rename_i o hl
      cases h
      obtain ⟨l1, l2⟩ := live_some hl
      cases r with
      | arr id gen off len v ho hn hg hp =>
        obtain ⟨p1, a, cap, hx, hab, hsp, hlc, hoff, hcl⟩ := hp o l1 l2
        subst hx
        obtain ⟨hB, cl, el, hcell, hfit, hel⟩ := g.obj id o l1
        have hlen' : ((o.els.drop off).take len).length = len := by simp; omega
        have := Src.of (c := c) (a := a) (cap := cap) (sz := sz) (els := (o.els.drop off).take len) (fun i j => cl.getD ((off + i) * o.size + j) undef) (fun _ => hsp) hlen ?_
        · rw [hlen'] at this; exact this
        · intro i e j y he hy
          rw [List.getElem?_take] at he
          split at he
          · rename_i hi
            rw [List.getElem?_drop] at he
            obtain ⟨h1, h2⟩ := hel _ _ he
            obtain ⟨u, hu, hr⟩ := h2 j y hy
            have hszo : o.size = sz := by
              rw [← h1]
              refine hlen i e ?_
              rw [List.getElem?_take, if_pos hi, List.getElem?_drop]
              exact he
            have hao : a.off = off * o.size := by
              rcases hoff with h | h
              · exact h
              · omega
            have hgd : cl.getD ((off + i) * o.size + j) undef = u := by
              rw [Array.getD_eq_getD_getElem?, hu]
              rfl
            rw [hgd]
            refine ⟨?_, hr⟩
            rw [hab, hao, ← hszo, ← Nat.add_assoc, ← Nat.add_mul]
            simp [World.cell?, hcell, hu]
          · cases he
    · cases h
  · cases h
    exact Or.inl ⟨r.v_inv, rfl⟩
  · cases h

/-- News rows hold the cells of 'els' behind what an object holds. -/
theorem holds_append {c : Ctx} {o : Ob} {els : List (List AVal)} {cl rest : List Value} {news : List Value} {olds : List Value} (hl : news.length = els.length * o.size) (hn : ∀ (i : Nat) (e : List AVal), els[i]? = some e → e.length = o.size ∧ ∀ (q : Nat) (y : AVal), e[q]? = some y → ∃ u, news[i * o.size + q]? = some u ∧ Rep c y u)
    (holds : olds.length = o.els.length * o.size) (ho : ∀ (i : Nat) (e : List AVal), o.els[i]? = some e → e.length = o.size ∧ ∀ (q : Nat) (y : AVal), e[q]? = some y → ∃ u, olds[i * o.size + q]? = some u ∧ Rep c y u) (hcl : cl = olds ++ news ++ rest) :
    Holds c cl.toArray ⟨o.size, o.els ++ els⟩ := by
  subst hcl
  refine ⟨?_, fun i e he => ?_⟩
  · simp only [List.length_append, List.size_toArray, holds, hl, Nat.add_mul]
    omega
  · simp only at he
    by_cases hi : i < o.els.length
    · rw [List.getElem?_append_left hi] at he
      refine ⟨(ho i e he).1, fun j y hy => ?_⟩
      obtain ⟨u, hu, hr⟩ := (ho i e he).2 j y hy
      have := (List.getElem?_eq_some_iff.1 hu).1
      exact ⟨u, by rw [List.getElem?_toArray, List.append_assoc, List.getElem?_append_left (by simpa using this)]; exact hu, hr⟩
    · rw [List.getElem?_append_right (by omega)] at he
      refine ⟨(hn _ e he).1, fun j y hy => ?_⟩
      obtain ⟨u, hu, hr⟩ := (hn _ e he).2 j y hy
      have hlt := (List.getElem?_eq_some_iff.1 hu).1
      refine ⟨u, ?_, hr⟩
      have hio : i * o.size = o.els.length * o.size + (i - o.els.length) * o.size := by rw [← Nat.add_mul]; congr 1; omega
      rw [List.getElem?_toArray, List.append_assoc, List.getElem?_append_right (by simp only; omega), List.getElem?_append_left (by simp only [holds, hio]; omega)]
      rw [← hu]
      congr 1
      simp only [holds]
      omega

section
variable {P : Program} {N : Nat} {Ty : Types} (hT : TypesOk P Ty) {ρ : Env} {H : Heap} {n : Nat}
variable {d : Option Tmp} {ty : TypeId} {pos : String} {af : Array Edge} {gu : Option (Nat × Bool)}

theorem exec_append {a : Act} {w w' : World} {s x : Operand} {t : TypeId} {u : Value} (h : (Builtin.append_ #[t, t] ty #[a.eval s, a.eval x]).run P w = .ok u w') :
    (execOp a.eval ⟨d, .call ⟨.builtin .append, #[s, x], #[t, t]⟩, ty, pos, af, gu⟩).run P w = .ok (.value u) w' := by
  simp only [execOp, resolve, invoke, builtin, Sem.run_bind, Sem.run_pure, Result.andThen_ok, List.map_toArray, List.map_cons, List.map_nil, h]

theorem allOne {els : List (List AVal)} {sz : Nat} {c : Ctx} {news : List Value} (h : els.all (fun e => e.all one1) = true) (hl : news.length = els.length * sz)
    (hn : ∀ (i : Nat) (e : List AVal), els[i]? = some e → e.length = sz ∧ ∀ (q : Nat) (y : AVal), e[q]? = some y → ∃ u, news[i * sz + q]? = some u ∧ Rep c y u) : ∀ u ∈ news, u.oneCell' = true := by
  intro u hu
  obtain ⟨q, hq, hqu⟩ := List.getElem_of_mem hu
  rw [hl] at hq
  obtain ⟨d1, d2, d3⟩ := divmod hq
  have he : els[q / sz]? = some els[q / sz] := List.getElem?_eq_getElem d1
  obtain ⟨hel, hc⟩ := hn _ _ he
  have hy : els[q / sz][q % sz]? = some (els[q / sz][q % sz]'(by omega)) := List.getElem?_eq_getElem (by omega)
  obtain ⟨u', hu', hr⟩ := hc _ _ hy
  rw [d3] at hu'
  have : u = u' := by
    have h1 : news[q]? = some u := by rw [← hqu]; exact List.getElem?_eq_getElem (by omega)
    rw [h1] at hu'
    exact Option.some.inj hu'
  subst this
  refine one_oneCell (one_of hr ?_)
  exact List.all_eq_true.1 (List.all_eq_true.1 h _ (List.getElem_mem d1)) _ (List.getElem_mem _)

/-- 'append' to an array of the call's own. -/
theorem append_arr {c : Ctx} (g : Good c) {t e : TypeId} {j : TI} {info : TypeInfo} {zv : Value} (ht : P.underlying t = some (.slice e)) (hi : P.info? e = some info) (hs : info.size = j.size) (hb : info.bytes = j.bytes) (hz : info.zero = some zv) (hzs : zv.cells.size = j.size)
    {id : Id} {o : Ob} (ho : c.H id = some o) (hso : o.size = j.size) {sv xv : Value} (rs : Rep c (.arr id o.els.length 0 o.els.length) sv) {els : List (List AVal)} (rx : Src c xv els j.size) (h1 : els.all (fun e => e.all one1) = true)
    (hbytes : (o.els.length + els.length) * j.bytes ≤ 140737488355328) (hm : o.els.length + els.length ≤ 4611686018427387904) :
    ∃ u c', (Builtin.append_ #[t, t] ty #[sv, xv]).run P c.w = .ok u c'.w ∧ c'.H = c.H.set id ⟨o.size, o.els ++ els⟩ ∧ c'.n = c.n ∧ Rep c' (.arr id (o.els.length + els.length) 0 (o.els.length + els.length)) u ∧ Good c' ∧ Keeps c c' := by
  cases rs with
  | arr _ _ _ _ _ hone hn hg hp =>
  obtain ⟨p1, ⟨b, aoff, sp⟩, cap, hx, hab, hsp, hlc, hoff, hclf⟩ := hp o ho rfl
  simp only at hab hsp hoff
  subst hx hab hsp
  obtain ⟨hB, cl, el, hcell, hfit, hel⟩ := g.obj id o ho
  have hcap := hclf cl el _ hcell
  simp only [Nat.zero_add] at hcap
  have hnoel : ∀ (w' : World), SameOut c.w w' → w'.heap.size = c.w.heap.size → (∀ k : Nat, w'.heap[k]? = c.w.heap[k]?) → els = [] →
      ∃ c', c'.w = w' ∧ c'.H = c.H.set id ⟨o.size, o.els ++ els⟩ ∧ c'.n = c.n ∧ Rep c' (.arr id (o.els.length + els.length) 0 (o.els.length + els.length)) (.slice (some ⟨c.β id, aoff, none⟩) (o.els.length + els.length) cap) ∧ Good c' ∧ Keeps c c' := by
    intro w' so hsz hbl he
    subst he
    have hset : c.H.set id ⟨o.size, o.els ++ []⟩ = c.H := by
      funext i
      simp only [Heap.set, List.append_nil]
      split
      · rename_i h; rw [h, ho]
      · rfl
    obtain ⟨k1, k2⟩ := more_blocks g w' so (Nat.le_of_eq hsz.symm) (fun k _ => hbl k)
    refine ⟨{ c with w := w' }, rfl, hset.symm, rfl, ?_, k2, k1⟩
    simp only [List.length_nil, Nat.add_zero]
    exact (Rep.arr id _ _ _ _ hone hn hg hp).keeps k1
  rcases rx with ⟨rfl, rfl⟩ | ⟨xa, xcap, news, rfl, hnl, hncell, hnrep⟩
  · obtain ⟨c', hw, hH, hn', hrep, hgood, hk⟩ := hnoel c.w (SameOut.refl _) rfl (fun _ => rfl) rfl
    refine ⟨_, c', ?_, hH, hn', hrep, hgood, hk⟩
    rw [hw]
    have hle : o.els.length ≤ cap := hlc
    simp [Builtin.append_, run_underlying ht, sizeOf, typeInfo, hi, Builtin.lenOf, hle, Builtin.firstCells, storeCells]
  · by_cases hroom : o.els.length + els.length ≤ cap
    · by_cases hemp : els = []
      · subst hemp
        have hnews : news = [] := List.eq_nil_of_length_eq_zero (by simpa using hnl)
        subst hnews
        obtain ⟨c', hw, hH, hn', hrep, hgood, hk⟩ := hnoel c.w (SameOut.refl _) rfl (fun _ => rfl) rfl
        refine ⟨_, c', ?_, hH, hn', hrep, hgood, hk⟩
        rw [hw]
        have hle : o.els.length ≤ cap := hlc
        have hf := run_firstCells_some (P := P) c.w info.size 0 xa 0 xcap [] (by simp) (by simp)
        simp only [List.length_nil, Nat.add_zero] at *
        simp [Builtin.append_, run_underlying ht, sizeOf, typeInfo, hi, Builtin.lenOf, hle, hf, storeCells]
      · have hpos : 0 < els.length := List.length_pos_iff.2 hemp
        have haoff : aoff = 0 := by
          rcases hoff with h | h
          · simpa using h
          · omega
        subst haoff
        have hfit2 : o.els.length * o.size + news.length ≤ cl.size := by
          rw [hnl, ← hso, ← Nat.add_mul]
          exact Nat.le_trans (Nat.mul_le_mul_right _ hroom) hcap
        have hnews1 := allOne h1 hnl hnrep
        have hf := run_firstCells_some (P := P) c.w info.size els.length xa els.length xcap news (by rw [hs]; exact hnl) hncell
        have hst := run_storeCells_at P (c.β id) (o.els.length * info.size) el news 0 cl c.w hcell (by rw [hs, ← hso]; simpa using hfit2) hnews1
        simp only [Nat.add_zero] at hst
        have hrun : (Builtin.append_ #[t, t] ty #[.slice (some ⟨c.β id, 0, none⟩) o.els.length cap, .slice (some xa) els.length xcap]).run P c.w = .ok (.slice (some ⟨c.β id, 0, none⟩) (o.els.length + els.length) cap) (c.w.setRow (c.β id) (over cl (o.els.length * o.size) news)) := by
          have hle : o.els.length + els.length ≤ cap := hroom
          rw [hs] at hf hst
          simp [Builtin.append_, run_underlying ht, sizeOf, typeInfo, hi, Builtin.lenOf, hle, hf, Addr.add_lit, hst, over, hs, hso]
        have hholds : Holds c (over cl (o.els.length * o.size) news) ⟨o.size, o.els ++ els⟩ := by
          have := holds_append (c := c) (o := o) (els := els) (news := news) (olds := cl.toList.take (o.els.length * o.size)) (rest := cl.toList.drop (o.els.length * o.size + news.length)) (by rw [hso]; exact hnl) (by rw [hso]; exact hnrep) (by simp; omega) ?_ rfl
          · exact this
          · intro i e he
            refine ⟨(hel i e he).1, fun q y hy => ?_⟩
            obtain ⟨u, hu, hr⟩ := (hel i e he).2 q y hy
            have hi' := (List.getElem?_eq_some_iff.1 he).1
            have hq : q < o.size := by rw [← (hel i e he).1]; exact (List.getElem?_eq_some_iff.1 hy).1
            exact ⟨u, by rw [List.getElem?_take, if_pos (row_lt hi' hq)]; simpa using hu, hr⟩
        have hk := upd_same g ho ⟨o.size, o.els ++ els⟩ (c.w.setRow (c.β id) (over cl (o.els.length * o.size) news)) cl (over cl (o.els.length * o.size) news) el el ⟨rfl, rfl, rfl⟩ (by simp [World.setRow]) hcell (fun k hk => setRow_other c.w _ k _ hk) (setRow_heap c.w _ cl _ el _ hcell) (by rw [over_size hfit2]; exact Nat.le_refl _) rfl (by simp) hholds
        refine ⟨_, { c with H := c.H.set id ⟨o.size, o.els ++ els⟩, w := c.w.setRow (c.β id) (over cl (o.els.length * o.size) news) }, hrun, rfl, rfl, ?_, hk.2, hk.1⟩
        refine .arr id _ _ _ _ rfl hn (fun o' ho' => ?_) (fun o' ho' _ => ?_)
        · simp only [Heap.get_set_self, Option.some.injEq] at ho'
          subst ho'
          simp
        · simp only [Heap.get_set_self, Option.some.injEq] at ho'
          subst ho'
          refine ⟨by omega, _, _, rfl, rfl, rfl, hroom, .inl (by simp), fun cl' el' fz' hcl' => ?_⟩
          simp only at hcl'
          rw [setRow_heap c.w _ cl _ el _ hcell] at hcl'
          cases hcl'
          rw [over_size hfit2]
          simpa using hcap
    · have hpos : 0 < els.length := by omega
      have holdl : (cl.toList.take (o.els.length * o.size)).length = o.els.length * info.size := by rw [hs, ← hso]; simp; omega
      have hgetold : ∀ (q : Nat) (v : Value), (cl.toList.take (o.els.length * o.size))[q]? = some v → c.w.cell? ((⟨c.β id, aoff, none⟩ : Addr).add q) = some v := by
        intro q v hq
        rw [List.getElem?_take] at hq
        split at hq
        · rename_i hql
          have hao : aoff = 0 := by
            rcases hoff with h | h
            · simpa using h
            · have : o.els.length = 0 := by omega
              rw [this] at hql
              simp at hql
          subst hao
          rw [Addr.add_lit, Nat.zero_add]
          simp only [World.cell?, hcell]
          simpa using hq
        · cases hq
      have hfit3 := growslice_fits (need := o.els.length + els.length) (old := cap) (bytes := info.bytes) (by omega) (by rw [hb]; exact hbytes)
      have hrun := run_append_grow (P := P) c.w t ty e info zv ht hi hz ⟨c.β id, aoff, none⟩ o.els.length cap (cl.toList.take (o.els.length * o.size)) holdl hgetold xa els.length xcap news (by rw [hs]; exact hnl) hncell (by omega) (by omega) hfit3
      have hge := grownCap_ge c.w (o.els.length + els.length) cap e
      generalize hgc : grownCap c.w (o.els.length + els.length) cap e = gc at hrun hge
      have hholds : Holds c ((cl.toList.take (o.els.length * o.size)).toArray ++ news.toArray ++ Builtin.zeroCells zv.cells (gc - (o.els.length + els.length))) ⟨o.size, o.els ++ els⟩ := by
        have := holds_append (c := c) (o := o) (els := els) (news := news) (olds := cl.toList.take (o.els.length * o.size)) (rest := (Builtin.zeroCells zv.cells (gc - (o.els.length + els.length))).toList) (by rw [hso]; exact hnl) (by rw [hso]; exact hnrep) (by simp; omega) ?_ rfl
        · have e1 : (cl.toList.take (o.els.length * o.size)).toArray ++ news.toArray ++ Builtin.zeroCells zv.cells (gc - (o.els.length + els.length)) = (cl.toList.take (o.els.length * o.size) ++ news ++ (Builtin.zeroCells zv.cells (gc - (o.els.length + els.length))).toList).toArray := by
            apply Array.ext'
            simp
          rw [e1]
          exact this
        · intro i e he
          refine ⟨(hel i e he).1, fun q y hy => ?_⟩
          obtain ⟨u, hu, hr⟩ := (hel i e he).2 q y hy
          have hi' := (List.getElem?_eq_some_iff.1 he).1
          have hq : q < o.size := by rw [← (hel i e he).1]; exact (List.getElem?_eq_some_iff.1 hy).1
          exact ⟨u, by rw [List.getElem?_take, if_pos (row_lt hi' hq)]; simpa using hu, hr⟩
      have hsize : ((cl.toList.take (o.els.length * o.size)).toArray ++ news.toArray ++ Builtin.zeroCells zv.cells (gc - (o.els.length + els.length))).size = gc * o.size := by
        simp only [Array.size_append, List.size_toArray, holdl, hnl, size_zeroCells, hzs, hs, ← hso, ← Nat.add_mul]
        congr 1
        omega
      generalize hcells : (cl.toList.take (o.els.length * o.size)).toArray ++ news.toArray ++ Builtin.zeroCells zv.cells (gc - (o.els.length + els.length)) = cells at hrun hholds hsize
      have hk := upd_new g id ⟨o.size, o.els ++ els⟩ (c.w.drew.alloc (.cells cells e)) cells e c.n ⟨rfl, rfl, rfl⟩ (by simp) (fun k hk => heap_alloc_old c.w.drew _ k hk) (heap_alloc_new c.w.drew _) (Nat.le_refl _) (g.stamp id o ho) (fun _ => ⟨o, ho, rfl, by simp; omega⟩) hholds
      refine ⟨_, { B := c.B, β := fun j => if j = id then c.w.heap.size else c.β j, H := c.H.set id ⟨o.size, o.els ++ els⟩, n := c.n, w := c.w.drew.alloc (.cells cells e) }, hrun, rfl, rfl, ?_, hk.2, hk.1⟩
      refine .arr id _ _ _ _ rfl hn (fun o' ho' => ?_) (fun o' ho' _ => ?_)
      · simp only [Heap.get_set_self, Option.some.injEq] at ho'
        subst ho'
        simp
      · simp only [Heap.get_set_self, Option.some.injEq] at ho'
        subst ho'
        refine ⟨by omega, _, _, rfl, by simp, rfl, hge, .inl (by simp), fun cl' el' fz' hcl' => ?_⟩
        simp only [if_true] at hcl'
        have h2 := heap_alloc_new c.w.drew (.cells cells e)
        simp only [World.size_drew] at h2
        rw [h2] at hcl'
        cases hcl'
        rw [hsize]
        simp

/-- 'append' to nil. -/
theorem append_nil {c : Ctx} (g : Good c) {t e : TypeId} {j : TI} {info : TypeInfo} {zv : Value} (ht : P.underlying t = some (.slice e)) (hi : P.info? e = some info) (hs : info.size = j.size) (hb : info.bytes = j.bytes) (hz : info.zero = some zv) (hzs : zv.cells.size = j.size)
    (k : Nat) {xv : Value} {els : List (List AVal)} (rx : Src c xv els j.size) (hpos : els ≠ []) (hbytes : els.length * j.bytes ≤ 140737488355328) (hm : els.length ≤ 4611686018427387904) :
    ∃ u c', (Builtin.append_ #[t, t] ty #[.slice none 0 0, xv]).run P c.w = .ok u c'.w ∧ c'.H = c.H.set (c.n, k) ⟨j.size, els⟩ ∧ c'.n = c.n + 1 ∧ Rep c' (.arr (c.n, k) els.length 0 els.length) u ∧ Good c' ∧ Keeps c c' := by
  rcases rx with ⟨rfl, rfl⟩ | ⟨xa, xcap, news, rfl, hnl, hncell, hnrep⟩
  · exact absurd rfl hpos
  · have hlen : 0 < els.length := List.length_pos_iff.2 hpos
    have hrun := run_append_nil (P := P) c.w t ty e info zv ht hi hz xa els.length xcap news (by rw [hs]; exact hnl) hncell hlen (by omega) (by rw [hb]; omega)
    have hge := grownCap_ge c.w els.length 0 e
    generalize hgc : grownCap c.w els.length 0 e = gc at hrun hge
    have hholds : Holds c (news.toArray ++ Builtin.zeroCells zv.cells (gc - els.length)) ⟨j.size, els⟩ := by
      have := holds_append (c := c) (o := ⟨j.size, []⟩) (els := els) (news := news) (olds := []) (rest := (Builtin.zeroCells zv.cells (gc - els.length)).toList) hnl hnrep (by simp) (fun i e he => by simp at he) rfl
      have e1 : news.toArray ++ Builtin.zeroCells zv.cells (gc - els.length) = ([] ++ news ++ (Builtin.zeroCells zv.cells (gc - els.length)).toList).toArray := by
        apply Array.ext'
        simp
      rw [e1]
      simpa using this
    have hsize : (news.toArray ++ Builtin.zeroCells zv.cells (gc - els.length)).size = gc * j.size := by
      simp only [Array.size_append, List.size_toArray, hnl, size_zeroCells, hzs, ← Nat.add_mul]
      congr 1
      omega
    generalize hcells : news.toArray ++ Builtin.zeroCells zv.cells (gc - els.length) = cells at hrun hholds hsize
    have hk := upd_new g (c.n, k) ⟨j.size, els⟩ (c.w.drew.alloc (.cells cells e)) cells e (c.n + 1) ⟨rfl, rfl, rfl⟩ (by simp) (fun k hk => heap_alloc_old c.w.drew _ k hk) (heap_alloc_new c.w.drew _) (Nat.le_succ _) (Nat.lt_succ_self _) (fun h => absurd h (Nat.lt_irrefl _)) hholds
    refine ⟨_, { B := c.B, β := fun j => if j = (c.n, k) then c.w.heap.size else c.β j, H := c.H.set (c.n, k) ⟨j.size, els⟩, n := c.n + 1, w := c.w.drew.alloc (.cells cells e) }, hrun, rfl, rfl, ?_, hk.2, hk.1⟩
    refine .arr (c.n, k) _ _ _ _ rfl (Nat.lt_succ_self _) (fun o' ho' => ?_) (fun o' ho' _ => ?_)
    · simp only [Heap.get_set_self, Option.some.injEq] at ho'
      subst ho'
      exact Nat.le_refl _
    · simp only [Heap.get_set_self, Option.some.injEq] at ho'
      subst ho'
      refine ⟨by omega, _, _, rfl, by simp, rfl, hge, .inl (by simp), fun cl' el' fz' hcl' => ?_⟩
      simp only [if_true] at hcl'
      have h2 := heap_alloc_new c.w.drew (.cells cells e)
      simp only [World.size_drew] at h2
      rw [h2] at hcl'
      cases hcl'
      rw [hsize]
      simp

/-- Appending nothing to nil. -/
theorem append_nil_nil {c : Ctx} {t e : TypeId} {info : TypeInfo} (ht : P.underlying t = some (.slice e)) (hi : P.info? e = some info) {xv : Value} {sz : Nat} (rx : Src c xv [] sz) : (Builtin.append_ #[t, t] ty #[.slice none 0 0, xv]).run P c.w = .ok (.slice none 0 0) c.w := by
  rcases rx with ⟨rfl, _⟩ | ⟨xa, xcap, news, rfl, hnl, hncell, hnrep⟩
  · simp [Builtin.append_, run_underlying ht, sizeOf, typeInfo, hi, Builtin.lenOf, Builtin.firstCells]
  · have hnews : news = [] := List.eq_nil_of_length_eq_zero (by simpa using hnl)
    subst hnews
    have hf := run_firstCells_some (P := P) c.w info.size 0 xa 0 xcap [] (by simp) (by simp)
    simp [Builtin.append_, run_underlying ht, sizeOf, typeInfo, hi, Builtin.lenOf, hf]

theorem bytes_fit {a b : Nat} (ha : a ≤ 1073741824) (hb : b ≤ 131072) : a * b ≤ 140737488355328 := by
  have := Nat.mul_le_mul ha hb
  omega

include hT in
theorem step_append {t : TypeId} {s x : Operand} {v : AVal} {H' : Heap} {n' : Nat} (h : appendF Ty d t (ρ.ev s) (ρ.ev x) H n = some (v, H', n')) :
    OpSem P N ⟨d, .call ⟨.builtin .append, #[s, x], #[t, t]⟩, ty, pos, af, gu⟩ ρ H n fun v1 H1 n1 => v1 = v ∧ H1 = H' ∧ n1 = n' := by
  refine OpSem.of_value fun c a hH hn g r => ?_
  subst hH
  unfold appendF at h
  split at h
  · rename_i j els k hk hx
    obtain ⟨i, e, hi, hd, hj⟩ := kd_slice hk
    obtain ⟨hu, _⟩ := hT t i hi
    rw [hd] at hu
    obtain ⟨_, info, zv, hinfo, his, hib, hiz, hzc⟩ := hT e j hj
    have rs := r.ev s
    split at h
    · rename_i hc
      obtain ⟨hz, hby, hsz, h1⟩ := hc
      split at h
      · rename_i id g0 off len hs
        rw [hs] at rs
        split at h
        · rename_i o hl
          obtain ⟨l1, l2⟩ := live_some hl
          split at h
          · rename_i hc
            obtain ⟨rfl, rfl, hso, hm⟩ := hc
            cases h
            subst l2
            obtain ⟨u, c', hrun, hH', hn', hrep, hgood, hkeep⟩ := append_arr (P := P) (ty := ty) g hu hinfo his hib hiz (by rw [hzc]; simpa using hz) l1 hso rs (srcOf_ok g (r.ev x) hx hsz) h1 (bytes_fit hm hby) (by omega)
            exact ⟨_, u, c', exec_append hrun, ⟨rfl, by rw [hH', hso], by rw [hn', hn]⟩, hrep, hgood, hkeep⟩
          · cases h
        · cases h
      · rename_i hs
        rw [hs] at rs
        have hsv := rs.v_inv
        split at h
        · rename_i h0
          cases h
          have h0' : els = [] := List.eq_nil_of_length_eq_zero h0
          subst h0'
          have hrun := Ab.append_nil_nil (P := P) (ty := ty) (c := c) hu hinfo (srcOf_ok g (r.ev x) hx hsz)
          rw [← hsv] at hrun
          exact ⟨_, _, c, exec_append hrun, ⟨rfl, rfl, hn⟩, by rw [hsv]; exact .v _, g, Keeps.refl c⟩
        · rename_i h0
          split at h
          · rename_i hm
            cases h
            obtain ⟨u, c', hrun, hH', hn', hrep, hgood, hkeep⟩ := Ab.append_nil (P := P) (ty := ty) g hu hinfo his hib hiz (by rw [hzc]; simpa using hz) k (srcOf_ok g (r.ev x) hx hsz) (by intro he; exact h0 (by rw [he]; rfl)) (bytes_fit hm hby) (by omega)
            rw [← hsv] at hrun
            rw [hn] at hH' hn' hrep
            exact ⟨_, u, c', exec_append hrun, ⟨rfl, hH', hn'⟩, hrep, hgood, hkeep⟩
          · cases h
      · cases h
    · cases h
  · cases h

include hT in
theorem step_makeSlice {t : TypeId} {l cc : Operand} {v : AVal} {H' : Heap} {n' : Nat} (h : makeF Ty d t (ρ.ev l) (ρ.ev cc) H n = some (v, H', n')) :
    OpSem P N ⟨d, .makeSlice t l cc, ty, pos, af, gu⟩ ρ H n fun v1 H1 n1 => v1 = v ∧ H1 = H' ∧ n1 = n' := by
  refine OpSem.of_value fun c a hH hn g r => ?_
  subst hH
  unfold makeF at h
  split at h
  · rename_i j _ m _ m' k hk hl hcc
    obtain ⟨i, e, hi, hd, hj⟩ := kd_slice hk
    have hde := (hT t i hi).run_desc c.w
    have hsz := (hT e j hj).run_size c.w
    obtain ⟨zv, hz, hzc⟩ := (hT e j hj).run_zero c.w
    obtain ⟨_, info, zv', hinfo, his, hib, hiz, _⟩ := hT e j hj
    split at h
    · rename_i hc
      obtain ⟨rfl, h0, h1, h2, h3, h4⟩ := hc
      cases h
      have rl := r.ev l
      rw [hl] at rl
      have rc := r.ev cc
      rw [hcc] at rc
      have hw : IntKind.i64.wrap m = m := by
        simp only [IntKind.wrap, IntKind.bits, IntKind.signed, Bool.true_and]
        split <;> rename_i h <;> simp at h <;> omega
      have hbm : (j.bytes : Int) * m ≤ 281474976710656 := by
        have h5 : j.bytes * m.toNat ≤ 131072 * 1073741824 := Nat.mul_le_mul h2 (by omega)
        have h6 : (j.bytes : Int) * m = ((j.bytes * m.toNat : Nat) : Int) := by
          rw [Int.natCast_mul, Int.toNat_of_nonneg h0]
        rw [h6]
        omega
      have hrows := zero_rows (z := j.zero) m.toNat (by omega)
      rw [h3] at hrows
      have hh : Holds c ((List.replicate m.toNat j.zero).flatten).toArray ⟨j.size, List.replicate m.toNat (j.zero.map .v)⟩ := by
        refine ⟨by simp [h3], fun q e he => ?_⟩
        have hq := (List.getElem?_eq_some_iff.1 he).1
        simp only [List.length_replicate] at hq
        rw [List.getElem?_replicate, if_pos hq] at he
        cases he
        refine ⟨by simpa using h3, fun p y hy => ?_⟩
        rw [List.getElem?_map] at hy
        cases hzp : j.zero[p]? with
        | none => simp [hzp] at hy
        | some u =>
          simp only [hzp, Option.map_some, Option.some.injEq] at hy
          subst hy
          have hp : p < j.size := by rw [← h3]; exact (List.getElem?_eq_some_iff.1 hzp).1
          refine ⟨u, ?_, .v u⟩
          rw [← hrows, Array.getElem?_map]
          have hlt := row_lt hq hp
          obtain ⟨d1, d2⟩ := divmod_row (i := q) hp
          simp [hlt, h3, d2, hzp]
      have hk2 := new_ob g k ⟨j.size, List.replicate m.toNat (j.zero.map .v)⟩ ((List.replicate m.toNat j.zero).flatten).toArray e hh
      refine ⟨.arr (n, k) m.toNat 0 m.toNat, .slice (some ⟨c.w.heap.size, 0, none⟩) m.toNat m.toNat, { B := c.B, β := fun j => if j = (c.n, k) then c.w.heap.size else c.β j, H := c.H.set (c.n, k) ⟨j.size, List.replicate m.toNat (j.zero.map .v)⟩, n := c.n + 1, w := { c.w with heap := c.w.heap.push (.cells ((List.replicate m.toNat j.zero).flatten).toArray e (0, 0)) } }, ?_, ⟨rfl, by rw [← hn], by rw [← hn]⟩, ?_, hk2.2, hk2.1⟩
      · have c1 : ¬ (m < 0) := by omega
        have c2 : ¬ (281474976710656 < (j.bytes : Int) * m) := by omega
        by_cases hm0 : m.toNat * j.size = 0
        · have hm00 : m.toNat = 0 := by
            rcases Nat.mul_eq_zero.1 hm0 with h | h
            · exact h
            · exact absurd h h4
          simp [execOp, Instr.makeSlice, hde, hd, rl.v_inv, rc.v_inv, asInt, asIntOf, hw, typeInfo, hinfo, hib, c1, c2, hsz, hm00, newRow, range0]
        · simp [execOp, Instr.makeSlice, hde, hd, rl.v_inv, rc.v_inv, asInt, asIntOf, hw, typeInfo, hinfo, hib, c1, c2, hsz, hm0, hz, hzc, newRow]
          exact congrArg (fun A => c.w.alloc (Obj.cells A e)) (by simpa using hrows)
      · refine .arr _ _ _ _ _ rfl (by simp [hn]) ?_ ?_
        · intro o ho
          simp [Heap.set, hn] at ho
          subst ho
          simp
        · intro o ho _
          simp [Heap.set, hn] at ho
          subst ho
          refine ⟨by omega, _, _, rfl, by simp [hn], rfl, Nat.le_refl _, .inl (by simp), fun cl el fz hcl => ?_⟩
          simp [hn] at hcl
          obtain ⟨rfl, _, _⟩ := hcl
          simp [h3]
    · cases h
  · cases h
end
end Go.Ab
