/- Contracts of (*impl.scanner).take and (*impl.scanner).name. -/
import Derived.Test.YtgmjebjcomckaaaDoorAbPf
namespace Go.Ab
open Go.Proofs Go.RowKit
set_option linter.unusedSimpArgs false
theorem e120 : Ent Tryd.prog 120 := Ent.of Tryd.func120 (by kernel_rfl) rfl
theorem e152 : Ent Tryd.prog 152 := Ent.of Tryd.func152 (by kernel_rfl) rfl
theorem e153 : Ent Tryd.prog 153 := Ent.of Tryd.func153 (by kernel_rfl) rfl
theorem e166 : Ent Tryd.prog 166 := Ent.of Tryd.func166 (by kernel_rfl) rfl

theorem cutPrefix_ok (s p : Str) : PureC Tryd.prog 152 [str s, str p] (fun r => r = .tup [str (if p.isPrefixOf s then s.drop p.length else s), bool (p.isPrefixOf s)]) := by
  refine PureC.of_below fun c xs _ r => ?_
  obtain ⟨x, y, rfl, hx, hy⟩ := r.two2
  rw [hx.v_inv, hy.v_inv]
  refine (Tryd.strings_CutPrefix ⟨s.toArray⟩ ⟨p.toArray⟩ c.w).mono ?_
  rintro e w' ⟨he, rfl⟩
  refine ⟨_, .tup [str (if p.isPrefixOf s then s.drop p.length else s), bool (p.isPrefixOf s)], he, rfl, by simp, fun c' => ?_, Below.refl _ _⟩
  refine .tup _ [.string ⟨(if p.isPrefixOf s then s.drop p.length else s).toArray⟩, .bool (p.isPrefixOf s)] rfl fun i b x hb hx => ?_
  match i with
  | 0 => simp at hb hx; rw [← hb, ← hx]; exact .v _
  | 1 => simp at hb hx; rw [← hb, ← hx]; exact .v _
  | i + 2 => simp at hb

/-- The scanner in memory. -/
def scan (s : Str) (nv : AVal) (bad : Bool) : Ob := ⟨3, [[str s, nv, bool bad]]⟩

theorem take_ok {X : Id} {H : Heap} {n : Nat} {s : Str} {nv : AVal} {bad : Bool} (w : Str) (hX : H X = some (scan s nv bad)) :
    CallsA Tryd.prog 120 [.ptr X 1 0 0, str w] H n (fun r H1 n1 => r = bool (w.isPrefixOf s) ∧ n1 = n ∧ H1 = if w.isPrefixOf s then H.set X (scan (s.drop w.length) nv bad) else H) := by
  unfold scan at hX ⊢
  refine CallsA.of Tryd.func120 rfl Tryd.ntmps120 (by simp) fun Q hQ => ?_
  refine Runs.seqE Ty_ok (by decide) fun k' hk' => ?_
  simp   -- R0
  refine hk' _ _ _ ?_
  refine Runs.seqE Ty_ok (by decide) fun k' hk' => ?_
  simp [hX]   -- R1
  refine RunK.callA Ty_ok (cutPrefix_ok s w) e152 (.cons (.v _ _ _) (.cons (.v _ _ _) .nil)) (by decide) (by decide) rfl (by simp) ?_
  rintro _ rfl
  simp
  refine hk' _ _ _ ?_
  refine Runs.seq ?_
  refine Runs.seqE Ty_ok (by decide) fun k' hk' => ?_
  simp   -- R2
  refine hk' _ _ _ ?_
  refine Runs.ite rfl (fun hc1 => ?_) (fun hc1 => ?_)   -- t16
  · have hc1 : w.isPrefixOf s = true := by simpa using hc1
    refine Runs.evalE Ty_ok (by decide) fun k' hk' => ?_
    have hp : w <+: s := List.isPrefixOf_iff_prefix.1 hc1
    simp [hX, hc1, hp]   -- R3
    refine hk' _ _ _ ?_
    refine Runs.seqE Ty_ok (by decide) fun k' hk' => ?_
    simp   -- R4
    refine hk' _ _ _ ?_
    exact Runs.ret Tryd.func120 (RetOk.one Tryd.results120) (hQ _ _ _ ⟨by simp [hc1], rfl, by simp [hc1]⟩)
  · have hc1 : w.isPrefixOf s = false := by simpa using hc1
    refine Runs.skip ?_
    refine Runs.seqE Ty_ok (by decide) fun k' hk' => ?_
    simp   -- R4
    refine hk' _ _ _ ?_
    exact Runs.ret Tryd.func120 (RetOk.one Tryd.results120) (hQ _ _ _ ⟨by simp [hc1], rfl, by simp [hc1]⟩)

theorem trimLeft_alpha (s : Str) : Lib.trimLeftS s alpha = s.dropWhile lower := by
  have he : (fun c => alpha.contains c) = lower := funext alpha_lower
  unfold Lib.trimLeftS
  rw [he]

theorem tw_len (s : Str) : (s.takeWhile lower).length + (s.dropWhile lower).length = s.length := by
  rw [← List.length_append, List.takeWhile_append_dropWhile]

theorem name_ok {X : Id} {H : Heap} {n : Nat} {s : Str} {nv : AVal} {bad : Bool} (hs : s.length ≤ 1048576) (hX : H X = some (scan s nv bad)) :
    CallsA Tryd.prog 153 [.ptr X 1 0 0] H n (fun r H1 n1 => r = str (s.takeWhile lower) ∧ n1 = n ∧ H1 = H.set X (scan (s.dropWhile lower) nv bad)) := by
  have hl := tw_len s
  unfold scan at hX ⊢
  refine CallsA.of Tryd.func153 rfl Tryd.ntmps153 (by simp) fun Q hQ => ?_
  refine Runs.seqE Ty_ok (by decide) fun k' hk' => ?_
  simp   -- R0
  refine hk' _ _ _ ?_
  refine Runs.seqD Ty_ok kindOp_ok draws (by decide) (by kernel_rfl) fun k' hk' => ?_
  simp [hX]   -- R1
  refine RunDK.callA Ty_ok kindOp_ok (trimLeft_ok s alpha (by decide) (by decide)) e166 (.cons (.v _ _ _) (.cons (.v _ _ _) .nil)) (by decide) rfl (by simp [alpha]) ?_
  have hw : IntKind.i64.wrap ((s.length : Int) - (s.dropWhile lower).length) = ((s.takeWhile lower).length : Int) := by rw [wrap64] <;> omega
  simp [trimLeft_alpha, hw]
  refine hk' _ _ _ ?_
  refine Runs.seqE Ty_ok (by decide) fun k' hk' => ?_
  simp [hX, show ((s.takeWhile lower).length : Int) ≤ s.length by omega, tw_take]   -- R2
  refine hk' _ _ _ ?_
  refine Runs.seqE Ty_ok (by decide) fun k' hk' => ?_
  have hdt : (s.drop (s.takeWhile lower).length).take (s.length - (s.takeWhile lower).length) = s.dropWhile lower := by rw [tw_drop, List.take_of_length_le (by omega)]
  simp [hX, show ((s.takeWhile lower).length : Int) ≤ s.length by omega, hdt]   -- R3
  refine hk' _ _ _ ?_
  refine Runs.seqE Ty_ok (by decide) fun k' hk' => ?_
  simp   -- R4
  refine hk' _ _ _ ?_
  exact Runs.ret Tryd.func153 (RetOk.one Tryd.results153) (hQ _ _ _ ⟨by simp, rfl, rfl⟩)
end Go.Ab
