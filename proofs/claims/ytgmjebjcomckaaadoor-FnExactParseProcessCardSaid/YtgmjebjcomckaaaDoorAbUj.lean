/- The conversion of bytes to a string; laws.markText. -/
import Derived.Test.YtgmjebjcomckaaaDoorAbN
import Derived.Laws.BytesString
namespace Go.Ab
set_option linter.unusedSimpArgs false

theorem bytes_fold : ∀ (ns : List Int) (s : Array UInt8), ns.foldl (fun r n => r.push (UInt8.ofNat n.toNat)) (ByteArray.mk s) = ByteArray.mk (s ++ (ns.map fun n => UInt8.ofNat n.toNat).toArray)
  | [], s => by simp
  | n :: ns, s => by
    have h : (ByteArray.mk s).push (UInt8.ofNat n.toNat) = ByteArray.mk (s.push (UInt8.ofNat n.toNat)) := rfl
    rw [List.foldl_cons, h, bytes_fold ns]
    congr 1
    simp

/-- The conversion of a slice of bytes to a string. -/
theorem step_convertBytes {P : Program} {N : Nat} {Ty : Types} (hT : TypesOk P Ty) {ρ : Env} {H : Heap} {n : Nat} {d : Option Tmp} {ty : TypeId} {pos : String} {af : Array Edge} {gu : Option (Nat × Bool)} {s t : TypeId} {x : Operand} {j : TI} {els : List (List AVal)} {ns : List Int}
    (hs : kd Ty s = .slice j) (hj : j.desc = .int .u8) (ht : kd Ty t = .string) (hx : srcOf H (ρ.ev x) = some els) (hn : els = ns.map fun n => [.v (.int .u8 n)]) :
    OpSem P N ⟨d, .convert s t x, ty, pos, af, gu⟩ ρ H n fun v1 H1 n1 => v1 = str (ns.map fun n => UInt8.ofNat n.toNat) ∧ H1 = H ∧ n1 = n := by
  refine OpSem.of_value fun c a hH hn' g r => ?_
  subst hH hn'
  obtain ⟨i1, e, hi1, hd1, he⟩ := kd_slice hs
  obtain ⟨i2, hi2, hd2⟩ := kd_string ht
  have d1 := (hT s i1 hi1).1
  rw [hd1] at d1
  have d2 := (hT t i2 hi2).1
  rw [hd2] at d2
  have d3 := (hT e j he).1
  rw [hj] at d3
  have hsrc := srcOf_ok (sz := 1) g (r.ev x) hx (by subst hn; simp)
  refine ⟨_, .string ⟨(ns.map fun n => UInt8.ofNat n.toNat).toArray⟩, c, ?_, ⟨rfl, rfl, rfl⟩, .v _, g, Keeps.refl c⟩
  rcases hsrc with ⟨h1, h2⟩ | ⟨ad, cap, news, h1, h2, h3, h4⟩
  · have h0 : ns = [] := by rw [h2] at hn; simpa using hn.symm
    subst h0
    have := run_convert_bytes_string (P := P) c.w s t e none 0 0 d1 d3 d2
    simp [execOp, h1, this, Conv.bytesToString, Sem.run_pure]
    rfl
  · have hnews : news = ns.map (Value.int .u8) := by
      apply List.ext_getElem?
      intro q
      rcases Nat.lt_or_ge q ns.length with hq | hq
      · have hel : els[q]? = some [.v (.int .u8 ns[q])] := by rw [hn]; simp [hq]
        obtain ⟨_, h5⟩ := h4 q _ hel
        obtain ⟨u, hu, hr⟩ := h5 0 _ rfl
        simp only [Nat.mul_one, Nat.add_zero] at hu
        rw [hu, hr.v_inv]
        simp [hq]
      · rw [List.getElem?_eq_none (by rw [h2, hn]; simpa using hq), List.getElem?_eq_none (by simpa using hq)]
    have hl := run_loadCells_list (P := P) c.w ad news h3
    have hlen : news.length = els.length := by rw [h2, Nat.mul_one]
    rw [hlen, hnews] at hl
    have h5 := run_bytesToString c.w ad els.length cap ns hl
    have h6 := run_convert_bytes_string (P := P) c.w s t e (some ad) els.length cap d1 d3 d2
    have h7 := bytes_fold ns #[]
    have h8 : (ByteArray.empty : ByteArray) = ByteArray.mk #[] := rfl
    simp [execOp, h1, h6, h5, h8, h7]
end Go.Ab
