/- The abstract machine, part E: what each operation comes to, as a function, and that the model's operation comes to it. -/
import Derived.Test.YtgmjebjcomckaaaDoorAbD
namespace Go.Ab

/-- A type's form with what is told of its parts. -/
inductive KD where
  | bool
  | int (k : IntKind)
  | string
  | slice (e : TI)
  | arr (len : Nat) (e : TI)
  | struct (fs : List (Nat × TI))
  | other

def fieldsA (Ty : Types) : List Field → Option (List (Nat × TI))
  | [] => some []
  | f :: fs => match Ty f.type, fieldsA Ty fs with
    | some i, some l => some ((f.offset, i) :: l)
    | _, _ => none

def kd (Ty : Types) (t : TypeId) : KD :=
  match Ty t with
  | none => .other
  | some i => match i.desc with
    | .bool => .bool
    | .int k => .int k
    | .string => .string
    | .slice e => match Ty e with
      | some j => .slice j
      | none => .other
    | .array n e => match Ty e with
      | some j => .arr n j
      | none => .other
    | .struct fs => match fieldsA Ty fs.toList with
      | some l => .struct l
      | none => .other
    | _ => .other

section
variable {Ty : Types} {t : TypeId}
theorem kd_bool (h : kd Ty t = .bool) : ∃ i, Ty t = some i ∧ i.desc = .bool := by
  unfold kd at h
  repeat' split at h
  all_goals first | (cases h; done) | exact ⟨_, by assumption, by assumption⟩
theorem kd_int {k : IntKind} (h : kd Ty t = .int k) : ∃ i, Ty t = some i ∧ i.desc = .int k := by
  unfold kd at h
  repeat' split at h
  all_goals first | (cases h; done) | (cases h; exact ⟨_, by assumption, by assumption⟩)
theorem kd_string (h : kd Ty t = .string) : ∃ i, Ty t = some i ∧ i.desc = .string := by
  unfold kd at h
  repeat' split at h
  all_goals first | (cases h; done) | exact ⟨_, by assumption, by assumption⟩
theorem kd_slice {j : TI} (h : kd Ty t = .slice j) : ∃ i e, Ty t = some i ∧ i.desc = .slice e ∧ Ty e = some j := by
  unfold kd at h
  repeat' split at h
  all_goals first | (cases h; done) | (cases h; exact ⟨_, _, by assumption, by assumption, by assumption⟩)
theorem kd_arr {n : Nat} {j : TI} (h : kd Ty t = .arr n j) : ∃ i e, Ty t = some i ∧ i.desc = .array n e ∧ Ty e = some j := by
  unfold kd at h
  repeat' split at h
  all_goals first | (cases h; done) | (cases h; exact ⟨_, _, by assumption, by assumption, by assumption⟩)
theorem kd_struct {l : List (Nat × TI)} (h : kd Ty t = .struct l) : ∃ i fs, Ty t = some i ∧ i.desc = .struct fs ∧ fieldsA Ty fs.toList = some l := by
  unfold kd at h
  repeat' split at h
  all_goals first | (cases h; done) | (cases h; exact ⟨_, _, by assumption, by assumption, by assumption⟩)
theorem fieldsA_get : ∀ {fs : List Field} {l : List (Nat × TI)}, fieldsA Ty fs = some l → ∀ {f off : Nat} {j : TI}, l[f]? = some (off, j) → ∃ fl, fs[f]? = some fl ∧ fl.offset = off ∧ Ty fl.type = some j
  | [], l, h, f, off, j, hf => by simp only [fieldsA, Option.some.injEq] at h; subst h; simp at hf
  | x :: fs, l, h, f, off, j, hf => by
    simp only [fieldsA] at h
    split at h
    · rename_i i l' hi hl
      cases h
      cases f with
      | zero => simp at hf; exact ⟨x, rfl, hf.1, by rw [← hf.2]; exact hi⟩
      | succ f => exact fieldsA_get hl (f := f) (by simpa using hf)
    · cases h
theorem fieldsA_places : ∀ {fs : List Field} {l : List (Nat × TI)}, fieldsA Ty fs = some l → ∀ {P : Program}, TypesOk P Ty → fs.mapM (fun f => (P.info? f.type).map fun i => (f.offset, i.size)) = some (l.map fun p => (p.1, p.2.size))
  | [], l, h, P, hT => by simp only [fieldsA, Option.some.injEq] at h; subst h; rfl
  | x :: fs, l, h, P, hT => by
    simp only [fieldsA] at h
    split at h
    · rename_i i l' hi hl
      cases h
      obtain ⟨_, info, zv, hinfo, hsz, _⟩ := hT _ _ hi
      simp [List.mapM_cons, hinfo, hsz, fieldsA_places hl hT]
    · cases h
end

def ptrAdd : AVal → Nat → AVal
  | .ptr id g i off, k => .ptr id g i (off + k)
  | .iptr fr cs, k => .iptr fr (cs.drop k)
  | x, _ => x

def partA (i : TI) (cs : List AVal) (off : Nat) : Option AVal :=
  if i.isAgg then (if off + i.size ≤ cs.length then some (.agg ((cs.drop off).take i.size)) else none) else cs[off]?

def live (H : Heap) (id : Id) (g : Nat) : Option Ob :=
  match H id with
  | some o => if o.els.length = g then some o else none
  | none => none

def fillA (place : Nat → Option (Nat × Nat)) (cells : List AVal) : List (Nat × AVal) → Option (List AVal)
  | [] => some cells
  | (i, x) :: rest =>
    match place i, cellsA x with
    | some (off, size), some new => if new.length = size ∧ off + new.length ≤ cells.length then fillA place (splice cells off new) rest else none
    | _, _ => none

def buildF (Ty : Types) (t : TypeId) (parts : List (Nat × AVal)) : Option AVal :=
  match Ty t, kd Ty t with
  | some i, .struct fs => (fillA ((fs.map fun p => (p.1, p.2.size))[·]?) (i.zero.map .v) parts).map .agg
  | some i, .arr _ j => (fillA (fun k => some (k * j.size, j.size)) (i.zero.map .v) parts).map .agg
  | _, _ => none

/-- Cells in rows of 'size'. -/
def chunks (size len : Nat) (cs : List AVal) : List (List AVal) := (List.range len).map fun i => (cs.drop (i * size)).take size

def intBin (op : BinOp) (k : IntKind) (a b : Int) : Option AVal :=
  match op with
  | .add => some (.v (.int k (k.wrap (a + b))))
  | .sub => some (.v (.int k (k.wrap (a - b))))
  | .mul => some (.v (.int k (k.wrap (a * b))))
  | .quo => if b = 0 then none else some (.v (.int k (k.wrap (a.tdiv b))))
  | .rem => if b = 0 then none else some (.v (.int k (a.tmod b)))
  | .eql => some (.v (.bool (a == b)))
  | .neq => some (.v (.bool (a != b)))
  | .lss => some (.v (.bool (a < b)))
  | .leq => some (.v (.bool (a ≤ b)))
  | .gtr => some (.v (.bool (a > b)))
  | .geq => some (.v (.bool (a ≥ b)))
  | _ => none

def strBin (op : BinOp) (a b : ByteArray) : Option AVal :=
  match op with
  | .add => if a.size + b.size < 4611686018427387904 then some (.v (.string (a ++ b))) else none
  | .eql => some (.v (.bool (a.toList == b.toList)))
  | .neq => some (.v (.bool !(a.toList == b.toList)))
  | .lss => some (.v (.bool (Op.bytesLess a.toList b.toList)))
  | .leq => some (.v (.bool (Op.bytesLess a.toList b.toList || a.toList == b.toList)))
  | .gtr => some (.v (.bool !(Op.bytesLess a.toList b.toList || a.toList == b.toList)))
  | .geq => some (.v (.bool !(Op.bytesLess a.toList b.toList)))
  | _ => none

def boolBin (op : BinOp) (a b : Bool) : Option AVal :=
  match op with
  | .eql => some (.v (.bool (a == b)))
  | .neq => some (.v (.bool (!(a == b))))
  | _ => none

def binF (Ty : Types) (op : BinOp) (t : TypeId) (x y : AVal) : Option AVal :=
  match x, y with
  | .v (.int k a), .v (.int k' b) => if k = k' then intBin op k a b else none
  | .v (.string a), .v (.string b) => strBin op a b
  | .v (.bool a), .v (.bool b) => match kd Ty t with
    | .bool => boolBin op a b
    | _ => none
  | _, _ => none

def unF (op : UnOp) (x : AVal) : Option AVal :=
  match op, x with
  | .neg, .v (.int k a) => some (.v (.int k (k.wrap (0 - a))))
  | .not, .v (.bool b) => some (.v (.bool (!b)))
  | _, _ => none

def convF (Ty : Types) (s d : TypeId) (x : AVal) : Option AVal :=
  match Ty s, kd Ty d, x with
  | some _, .int k, .v (.int _ a) => some (.v (.int k (k.wrap a)))
  | some _, .string, .v (.string b) => some (.v (.string b))
  | _, _, _ => none

def lenF (Ty : Types) (H : Heap) (t : TypeId) (x : AVal) : Option AVal :=
  match kd Ty t, x with
  | .string, .v (.string s) => some (.v (.int .i64 s.size))
  | .slice _, .list _ els => some (.v (.int .i64 els.length))
  | .slice _, .v (.slice _ m _) => some (.v (.int .i64 m))
  | .slice _, .arr id g _ len => match live H id g with
    | some _ => some (.v (.int .i64 len))
    | none => none
  | .arr m _, _ => some (.v (.int .i64 m))
  | _, _ => none

def indexAddrF (Ty : Types) (H : Heap) (t : TypeId) (x ix : AVal) : Option AVal :=
  match ix with
  | .v (.int _ m) => match kd Ty t, x with
    | .slice j, .list fr els => if 0 ≤ m ∧ m < els.length ∧ (els.getD m.toNat []).length = j.size then some (.iptr fr (els.getD m.toNat [])) else none
    | .slice j, .arr id g off len => match live H id g with
      | some o => if 0 ≤ m ∧ m < len ∧ o.size = j.size then some (.ptr id g (off + m.toNat) 0) else none
      | none => none
    | .arr len j, p => match viewOf H p with
      | some _ => if 0 ≤ m ∧ m < len then some (ptrAdd p (m.toNat * j.size)) else none
      | none => none
    | _, _ => none
  | _ => none

def indexF (Ty : Types) (t : TypeId) (x ix : AVal) : Option AVal :=
  match ix with
  | .v (.int _ m) => match kd Ty t, x with
    | .arr len j, .agg cs => if 0 ≤ m ∧ m < len then partA j cs (m.toNat * j.size) else none
    | .string, .v (.string s) => if 0 ≤ m ∧ m < s.size then some (.v (.int .u8 (s.data.getD m.toNat 0).toNat)) else none
    | _, _ => none
  | _ => none

def boundOf (x : Option AVal) (dflt : Nat) : Option Int :=
  match x with
  | none => some dflt
  | some (.v (.int _ m)) => some m
  | _ => none

def sliceF (Ty : Types) (H : Heap) (t : TypeId) (x : AVal) (lo hi : Option AVal) : Option AVal :=
  match kd Ty t, x with
  | .string, .v (.string s) => match boundOf lo 0, boundOf hi s.size with
    | some l, some h => if 0 ≤ l ∧ l ≤ h ∧ h ≤ s.size then some (.v (.string (s.extract l.toNat h.toNat))) else none
    | _, _ => none
  | .slice j, .list fr els => match boundOf lo 0, boundOf hi els.length with
    | some l, some h => if 0 ≤ l ∧ l ≤ h ∧ h ≤ els.length ∧ els.all (·.length == j.size) then some (.list fr ((els.take h.toNat).drop l.toNat)) else none
    | _, _ => none
  | .slice j, .arr id g off len => match live H id g, boundOf lo 0, boundOf hi len with
    | some o, some l, some h => if 0 ≤ l ∧ l ≤ h ∧ h ≤ len ∧ o.size = j.size then some (.arr id g (off + l.toNat) (h.toNat - l.toNat)) else none
    | _, _, _ => none
  | .slice _, .v (.slice none 0 0) => match boundOf lo 0, boundOf hi 0 with
    | some l, some h => if l = 0 ∧ h = 0 then some (.v (.slice none 0 0)) else none
    | _, _ => none
  | _, _ => none

def storeF (i : Option TI) (p : AVal) (cs : Option (List AVal)) (H : Heap) : Option Heap :=
  match i, p, cs with
  | some i, .ptr id g idx off, some new => match live H id g with
    | some o => if new.length = i.size ∧ idx < g ∧ off + new.length ≤ o.size ∧ new.all one1 = true then some (H.set id (o.write idx off new)) else none
    | none => none
  | _, _, _ => none

def srcOf (H : Heap) : AVal → Option (List (List AVal))
  | .list _ els => some els
  | .arr id g off len => match live H id g with
    | some o => some ((o.els.drop off).take len)
    | none => none
  | .v (.slice none 0 0) => some []
  | _ => none

def appendF (Ty : Types) (d : Option Nat) (t : TypeId) (s x : AVal) (H : Heap) (n : Nat) : Option (AVal × Heap × Nat) :=
  match kd Ty t, srcOf H x, d with
  | .slice j, some els, some d =>
    if j.zero.length = j.size ∧ j.bytes ≤ 131072 ∧ els.all (fun e => e.length == j.size) = true ∧ els.all (fun e => e.all one1) = true then
      match s with
      | .arr id g off len => match live H id g with
        | some o => if off = 0 ∧ len = g ∧ o.size = j.size ∧ g + els.length ≤ 1073741824 then some (.arr id (g + els.length) 0 (g + els.length), H.set id ⟨j.size, o.els ++ els⟩, n) else none
        | none => none
      | .v (.slice none 0 0) => if els.length = 0 then some (.v (.slice none 0 0), H, n) else if els.length ≤ 1073741824 then some (.arr (n, d) els.length 0 els.length, H.set (n, d) ⟨j.size, els⟩, n + 1) else none
      | _ => none
    else none
  | _, _, _ => none

def makeF (Ty : Types) (d : Option Nat) (t : TypeId) (l c : AVal) (H : Heap) (n : Nat) : Option (AVal × Heap × Nat) :=
  match kd Ty t, l, c, d with
  | .slice j, .v (.int _ m), .v (.int _ m'), some d =>
    if m = m' ∧ 0 ≤ m ∧ m ≤ 1073741824 ∧ j.bytes ≤ 131072 ∧ j.zero.length = j.size ∧ j.size ≠ 0 then
      some (.arr (n, d) m.toNat 0 m.toNat, H.set (n, d) ⟨j.size, List.replicate m.toNat (j.zero.map .v)⟩, n + 1) else none
  | _, _, _, _ => none

/-- What an operation comes to: a value, the heap, the stamp. -/
def stepF (Ty : Types) (d : Option Nat) (op : Op) (ρ : Env) (H : Heap) (n : Nat) : Option (AVal × Heap × Nat) :=
  match op with
  | .move x | .assign x => some (ρ.ev x, H, n)
  | .pick c a b => match ρ.ev c with
    | .v (.bool t) => some (if t then ρ.ev a else ρ.ev b, H, n)
    | _ => none
  | .alloc t => match d, Ty t with
    | some d, some i => some (.ptr (n, d) 1 0 0, H.set (n, d) ⟨i.zero.length, [i.zero.map .v]⟩, n + 1)
    | _, _ => none
  | .box _ x => match d, cellsA (ρ.ev x) with
    | some d, some cs => some (.ptr (n, d) 1 0 0, H.set (n, d) ⟨cs.length, [cs]⟩, n + 1)
    | _, _ => none
  | .load t a => match Ty t, viewOf H (ρ.ev a) with
    | some i, some cs => match loadA i cs with
      | some x => some (x, H, n)
      | none => none
    | _, _ => none
  | .store t a x => match storeF (Ty t) (ρ.ev a) (cellsA (ρ.ev x)) H with
    | some H' => some (.undef, H', n)
    | none => none
  | .fieldAddr t a f => match kd Ty t, viewOf H (ρ.ev a) with
    | .struct fs, some _ => match fs[f]? with
      | some (off, j) => if j.size = 0 then none else some (ptrAdd (ρ.ev a) off, H, n)
      | none => none
    | _, _ => none
  | .field t x f => match kd Ty t, ρ.ev x with
    | .struct fs, .agg cs => match fs[f]? with
      | some (off, j) => (partA j cs off).map fun y => (y, H, n)
      | none => none
    | _, _ => none
  | .indexAddr t x ix => (indexAddrF Ty H t (ρ.ev x) (ρ.ev ix)).map fun y => (y, H, n)
  | .index t x ix => (indexF Ty t (ρ.ev x) (ρ.ev ix)).map fun y => (y, H, n)
  | .build t ps => (buildF Ty t (ps.toList.map fun p => (p.1, ρ.ev p.2))).map fun y => (y, H, n)
  | .buildSlice t len ps => match kd Ty t, d with
    | .slice j, some d =>
      if len = 0 then (if ps.toList.isEmpty then some (.arr (n, d) 0 0 0, H.set (n, d) ⟨j.size, []⟩, n + 1) else none)
      else if len * j.size ≤ 16777216 ∧ j.size ≠ 0 ∧ j.zero.length = j.size then
        (fillA (fun k => some (k * j.size, j.size)) ((List.replicate len (j.zero.map AVal.v)).flatten) (ps.toList.map fun p => (p.1, ρ.ev p.2))).map fun cs => (.list true (chunks j.size len cs), H, n)
      else none
    | _, _ => none
  | .binOp op t x y _ => (binF Ty op t (ρ.ev x) (ρ.ev y)).map fun z => (z, H, n)
  | .unOp op _ x => (unF op (ρ.ev x)).map fun z => (z, H, n)
  | .convert s t x => (convF Ty s t (ρ.ev x)).map fun z => (z, H, n)
  | .makeFunc f first cap => some (.fn f (first.toList.map ρ.ev) (cap.toList.map ρ.ev), H, n)
  | .slice t x lo hi none => (sliceF Ty H t (ρ.ev x) (lo.map ρ.ev) (hi.map ρ.ev)).map fun z => (z, H, n)
  | .extract t ix => match ρ.ev t with
    | .tup vs => (vs[ix]?).map fun z => (z, H, n)
    | _ => none
  | .nilCheck x => match viewOf H (ρ.ev x) with
    | some _ => some (ρ.ev x, H, n)
    | none => none
  | .makeSlice t l c => makeF Ty d t (ρ.ev l) (ρ.ev c) H n
  | .call ⟨.builtin .append, args, ats⟩ => match args.toList, ats.toList with
    | [s, x], [t, t'] => if t = t' then appendF Ty d t (ρ.ev s) (ρ.ev x) H n else none
    | _, _ => none
  | .call ⟨.builtin .len, args, ats⟩ => match args.toList, ats.toList with
    | [x], [t] => (lenF Ty H t (ρ.ev x)).map fun z => (z, H, n)
    | _, _ => none
  | _ => none

end Go.Ab
