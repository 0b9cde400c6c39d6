/- A part of the proof: steps of the walk and laws that the claim's theorem rests on; each lemma states its own conditions. -/
import Derived.Test.YtddkkmdbolgnlaaDoorWalkC
set_option linter.unusedVariables false
set_option linter.unusedSimpArgs false
namespace Go.Proofs.YtddkkmdbolgnlaaDoor.Fw
def Rg (n : Int) : Prop := -9223372036854775808 ≤ n ∧ n ≤ 9223372036854775807
/-- A list's elements lie from an address on. -/
def SlAt {α : Type} (R : Mem → α → List Value → Prop) (sz : Nat) (I : Mem) (xs : List α) (A : Option Addr) : Prop :=
  ∀ (i : Nat) (x : α), xs[i]? = some x → ∃ b off vs, A = some ⟨b, off, none⟩ ∧ vs.length = sz ∧ I.row b (off + i * sz) vs ∧ R I x vs
/-- A slice's value. -/
def SlV {α : Type} (R : Mem → α → List Value → Prop) (sz : Nat) (I : Mem) (xs : List α) (v : Value) : Prop :=
  ∃ A cap, v = .slice A xs.length cap ∧ xs.length ≤ 9223372036854775807 ∧ xs.length ≤ cap ∧ SlAt R sz I xs A

theorem Mem.le.row {I J : Mem} (h : I.le J) {b off : Nat} {vs : List Value} (hr : I.row b off vs) : J.row b off vs := fun i v hi => Mem.le.cell h (hr i v hi)
def MonoR {α : Type} (R : Mem → α → List Value → Prop) : Prop := ∀ (I J : Mem) (x : α) (vs : List Value), I.le J → R I x vs → R J x vs
theorem SlAt.mono {α : Type} {R : Mem → α → List Value → Prop} (hR : MonoR R) {sz : Nat} {I J : Mem} {xs : List α} {A : Option Addr} (hIJ : I.le J) (h : SlAt R sz I xs A) : SlAt R sz J xs A := fun i x hx => by
  obtain ⟨b, off, vs, h1, h2, h3, h4⟩ := h i x hx
  exact ⟨b, off, vs, h1, h2, Mem.le.row hIJ h3, hR I J x vs hIJ h4⟩
theorem SlV.mono {α : Type} {R : Mem → α → List Value → Prop} (hR : MonoR R) {sz : Nat} {I J : Mem} {xs : List α} {v : Value} (hIJ : I.le J) (h : SlV R sz I xs v) : SlV R sz J xs v := by
  obtain ⟨A, cap, h1, h2, h3, h4⟩ := h
  exact ⟨A, cap, h1, h2, h3, h4.mono hR hIJ⟩

/-- The first place at which something is so; -1. -/
def idx {α : Type} (p : α → Bool) : List α → Int → Int
  | [], _ => -1
  | x :: r, i => if p x then i else idx p r (i + 1)
theorem idx_nonneg {α : Type} (p : α → Bool) (xs : List α) (i : Int) (hi : 0 ≤ i) : (0 ≤ idx p xs i) = (xs.any p = true) := by
  induction xs generalizing i with
  | nil => simp [idx]
  | cons x r ih =>
    simp only [idx, List.any_cons, Bool.or_eq_true]
    split
    · rename_i h; simp [h, hi]
    · rename_i h; rw [ih (i + 1) (by omega)]; simp [h]
theorem idx_at {α : Type} (p : α → Bool) (xs : List α) (k : Nat) (h : ∀ i x, i < k → xs[i]? = some x → p x = false) (hk : k ≤ xs.length) : idx p xs 0 = idx p (xs.drop k) k := by
  have key : ∀ (k : Nat) (xs : List α) (j : Int), (∀ i x, i < k → xs[i]? = some x → p x = false) → k ≤ xs.length → idx p xs j = idx p (xs.drop k) (j + k) := by
    intro k
    induction k with
    | zero => intro xs j _ _; simp
    | succ k ih =>
      intro xs j h hk
      cases xs with
      | nil => simp at hk
      | cons x r =>
        have h0 := h 0 x (by omega) rfl
        simp only [idx, h0, List.drop_succ_cons]
        rw [ih r (j + 1) (fun i y hi hy => h (i + 1) y (by omega) (by simpa using hy)) (by simpa using hk)]
        simp only [Bool.false_eq_true, if_false]
        congr 1; omega
  have := key k xs 0 h hk
  simpa using this
theorem idx_hit {α : Type} (p : α → Bool) (xs : List α) (k : Nat) (h : ∀ i x, i < k → xs[i]? = some x → p x = false) {x : α} (hx : xs[k]? = some x) (hp : p x = true) : idx p xs 0 = k := by
  have hk : k < xs.length := (List.getElem?_eq_some_iff.1 hx).1
  rw [idx_at p xs k h (by omega)]
  have : xs.drop k = x :: xs.drop (k + 1) := by
    rw [List.drop_eq_getElem_cons hk]
    congr 1
    exact (List.getElem?_eq_some_iff.1 hx).2
  rw [this]; simp [idx, hp]
theorem idx_miss {α : Type} (p : α → Bool) (xs : List α) (h : ∀ i x, i < xs.length → xs[i]? = some x → p x = false) : idx p xs 0 = -1 := by
  rw [idx_at p xs xs.length h (Nat.le_refl _)]
  simp [idx]
end Go.Proofs.YtddkkmdbolgnlaaDoor.Fw

namespace Go.Proofs.YtddkkmdbolgnlaaDoor.Fw
structure BoxD where
  at_ : Int
  cls : Int
  shp : Int
def BoxR (_ : Mem) (x : BoxD) (vs : List Value) : Prop := vs = [.int .i64 x.at_, .int .i64 x.cls, .int .i64 x.shp] ∧ Rg x.at_ ∧ Rg x.cls ∧ Rg x.shp
structure ShapeD where
  words : Int
  boxes : List BoxD
def ShapeR (I : Mem) (x : ShapeD) (vs : List Value) : Prop := ∃ A cap, vs = [.int .i64 x.words, .slice A x.boxes.length cap] ∧ x.boxes.length ≤ 9223372036854775807 ∧ x.boxes.length ≤ cap ∧ SlAt BoxR 3 I x.boxes A ∧ Rg x.words
theorem BoxR_mono : MonoR BoxR := fun _ _ _ _ _ h => h
theorem ShapeR_mono : MonoR ShapeR := fun I J x vs h hx => by
  obtain ⟨A, cap, h1, h2, h3, h4, h5⟩ := hx
  exact ⟨A, cap, h1, h2, h3, h4.mono BoxR_mono h, h5⟩

/-! ### layout.Class, layout.May -/
def classP (n : Int) : Int × Int :=
  if 1 ≤ n ∧ n ≤ 1 then (0, 0) else if 1 ≤ n ∧ n ≤ 2 then (1, 0) else if 1 ≤ n ∧ n ≤ 4 then (2, 0) else if 1 ≤ n ∧ n ≤ 8 then (3, 0) else if 1 ≤ n ∧ n ≤ 16 then (4, 0) else (0, 2)
end Go.Proofs.YtddkkmdbolgnlaaDoor.Fw
namespace Go.Proofs.YtddkkmdbolgnlaaDoor.Fw
def badBox (len : Nat) (words last : Int) (b : BoxD) : Bool := b.at_ ≤ last || words ≤ b.at_ || b.cls < 0 || 5 ≤ b.cls || b.shp < -1 || (len : Int) ≤ b.shp
def wordsOf (ls : List ShapeD) (j : Int) : Int := match ls[j.toNat]? with
  | some s => s.words
  | none => 0
def badBoxes (ls : List ShapeD) (words : Int) : List BoxD → Int → Bool
  | [], _ => false
  | b :: r, last => if badBox ls.length words last b then true else if b.shp < 0 then badBoxes ls words r b.at_
    else if (classP (wordsOf ls b.shp)).2 ≠ 0 ∨ (classP (wordsOf ls b.shp)).1 ≠ b.cls then true else badBoxes ls words r b.at_
def badShape (ls : List ShapeD) (s : ShapeD) : Bool := badBoxes ls s.words s.boxes (-1) || s.words < 1 || 16 < s.words || s.boxes.length == 0
def mayShapes (ls : List ShapeD) : Bool := ls.length ≤ 4096 && !ls.any (badShape ls)
theorem drop_at {α : Type} {xs : List α} {k : Nat} {x : α} (h : xs[k]? = some x) : xs.drop k = x :: xs.drop (k + 1) := by
  have hk : k < xs.length := (List.getElem?_eq_some_iff.1 h).1
  rw [List.drop_eq_getElem_cons hk]
  congr 1
  exact (List.getElem?_eq_some_iff.1 h).2
theorem wordsOf_at {ls : List ShapeD} {j : Int} {s : ShapeD} (h : ls[j.toNat]? = some s) : wordsOf ls j = s.words := by simp [wordsOf, h]
end Go.Proofs.YtddkkmdbolgnlaaDoor.Fw
namespace Go.Proofs.YtddkkmdbolgnlaaDoor.Fw
structure FnD where
  begin_ : Int
  words : Int
  params : Int
def FnR (_ : Mem) (x : FnD) (vs : List Value) : Prop := vs = [.int .i64 x.begin_, .int .i64 x.words, .int .i64 x.params] ∧ Rg x.begin_ ∧ Rg x.words ∧ Rg x.params
theorem FnR_mono : MonoR FnR := fun _ _ _ _ _ h => h
structure InstrD where
  op : Int
  r : Int
  a : Int
  b : Int
  n : Int
def InstrR (_ : Mem) (x : InstrD) (vs : List Value) : Prop := vs = [.int .u8 x.op, .int .i64 x.r, .int .i64 x.a, .int .i64 x.b, .int .i64 x.n] ∧ (0 ≤ x.op ∧ x.op ≤ 255) ∧ Rg x.r ∧ Rg x.a ∧ Rg x.b ∧ Rg x.n
theorem InstrR_mono : MonoR InstrR := fun _ _ _ _ _ h => h
structure CodeD where
  shapes : List ShapeD
  fns : List FnD
  list : List InstrD
  main : Int
structure CodeC (I : Mem) (c : CodeD) (v1 v2 v3 : Value) : Prop where
  s1 : SlV ShapeR 2 I c.shapes v1
  s2 : SlV FnR 3 I c.fns v2
  s3 : SlV InstrR 5 I c.list v3
  rg : Rg c.main
theorem CodeC.mono {I J : Mem} {c : CodeD} {v1 v2 v3 : Value} (hIJ : I.le J) (h : CodeC I c v1 v2 v3) : CodeC J c v1 v2 v3 :=
  ⟨h.s1.mono ShapeR_mono hIJ, h.s2.mono FnR_mono hIJ, h.s3.mono InstrR_mono hIJ, h.rg⟩

def has0 (op : Int) : Bool := (1 ≤ op && op ≤ 6) || (8 ≤ op && op ≤ 17) || op == 22 || op == 24
def has1 (op : Int) : Bool := (3 ≤ op && op ≤ 17) || op == 19 || op == 23 || op == 25
def has2 (op : Int) : Bool := 8 ≤ op && op ≤ 15
def has3 (op : Int) : Bool := (1 ≤ op && op ≤ 7) || op == 18 || op == 19 || op == 20 || op == 22 || op == 23
def badPart (has : Bool) (v : Int) (reg : Bool) : Bool := (!has && v != 0) || (reg && (v < 0 || 15 < v))
def plainI (i : InstrD) : Bool := (1 ≤ i.op && i.op ≤ 25) && !badPart (has0 i.op) i.r true && !badPart (has1 i.op) i.a true && !badPart (has2 i.op) i.b true && !badPart (has3 i.op) i.n false
/-- The instruction behind a function's last one. -/
def endI (c : CodeD) (fn : Int) : Int := match c.fns[(fn + 1).toNat]? with
  | some f => f.begin_
  | none => c.list.length
end Go.Proofs.YtddkkmdbolgnlaaDoor.Fw
namespace Go.Proofs.YtddkkmdbolgnlaaDoor.Fw
def fnAt (c : CodeD) (fn : Int) : Option FnD := if fn < 0 then none else c.fns[fn.toNat]?
def btw (low high x : Int) : Bool := low ≤ x && x ≤ high
def withinI (c : CodeD) (fn : Int) (i : InstrD) : Bool :=
  if i.op = 2 then btw 0 (((fnAt c fn).map (·.words)).getD 0 - 1) i.n
  else if i.op = 3 ∨ i.op = 4 ∨ i.op = 5 then btw 0 16384 i.n
  else if i.op = 6 then btw 0 16 i.n
  else if i.op = 7 ∨ i.op = 23 then btw 0 ((c.shapes.length : Int) - 1) i.n
  else if i.op = 22 then btw 0 4 i.n
  else if i.op = 18 ∨ i.op = 19 then btw (((fnAt c fn).map (·.begin_)).getD 0) (endI c fn - 1) i.n
  else if i.op = 20 then btw 0 ((c.fns.length : Int) - 1) i.n
  else true
end Go.Proofs.YtddkkmdbolgnlaaDoor.Fw
namespace Go.Proofs.YtddkkmdbolgnlaaDoor.Fw
/-! ### words cut at spaces -/
def isSp (c : UInt8) : Bool := c == 32 || (9 ≤ c && c ≤ 13)
/-- The pieces of a list of bytes between spaces; 'cur': the piece at work, the last byte first. -/
def fieldsG : List UInt8 → List UInt8 → List (List UInt8)
  | [], cur => if cur.isEmpty then [] else [cur.reverse]
  | c :: r, cur => if isSp c then (if cur.isEmpty then fieldsG r [] else cur.reverse :: fieldsG r []) else fieldsG r (c :: cur)
def fieldsS (s : List UInt8) : List (List UInt8) := fieldsG s []
def opText : List UInt8 := [99, 111, 110, 115, 116, 32, 102, 114, 97, 109, 101, 32, 97, 100, 100, 32, 108, 111, 97, 100, 32, 115, 116, 111, 114, 101, 32, 99, 111, 112, 121, 32, 99, 108, 101, 97, 114, 32, 112, 108, 117, 115, 32, 109, 105, 110, 117, 115, 32, 116, 105, 109, 101, 115, 32, 111, 118, 101, 114, 32, 114, 101, 115, 116, 32, 115, 97, 109, 101, 32, 108, 101, 115, 115, 32, 97, 116, 109, 111, 115, 116, 32, 110, 101, 103, 32, 110, 111, 116, 32, 106, 117, 109, 112, 32, 105, 102, 32, 99, 97, 108, 108, 32, 114, 101, 116, 32, 97, 108, 108, 111, 99, 32, 100, 114, 111, 112, 32, 105, 110, 32, 111, 117, 116]
def wordL : List (List UInt8) := fieldsS opText
def wordS (op : Int) : ByteArray := if 1 ≤ op ∧ op ≤ 25 then ⟨(wordL.getD (op - 1).toNat []).toArray⟩ else ByteArray.empty
theorem wordL_len : wordL.length = 25 := by decide +kernel
theorem wordL_ne : ∀ x ∈ wordL, x ≠ [] := by decide +kernel
theorem wordS_ne {op : Int} (h1 : 1 ≤ op) (h2 : op ≤ 25) : (wordS op).toList ≠ [] := by
  unfold wordS
  rw [if_pos ⟨h1, h2⟩]
  have hlt : (op - 1).toNat < wordL.length := by rw [wordL_len]; omega
  have := wordL_ne (wordL.getD (op - 1).toNat []) (by
    rw [List.getD_eq_getElem?_getD, List.getElem?_eq_getElem hlt]; exact List.getElem_mem hlt)
  rw [ByteArray.toList_eq]
  simpa using this
theorem wordS_no {op : Int} (h : ¬ (1 ≤ op ∧ op ≤ 25)) : (wordS op).toList = [] := by
  unfold wordS
  rw [if_neg h, ByteArray.toList_eq]; rfl
theorem wordS_iff (op : Int) : ((wordS op).toList = []) ↔ ¬ (1 ≤ op ∧ op ≤ 25) :=
  ⟨fun h hh => wordS_ne hh.1 hh.2 h, wordS_no⟩
end Go.Proofs.YtddkkmdbolgnlaaDoor.Fw
namespace Go.Proofs.YtddkkmdbolgnlaaDoor.Fw
/-- How many functions begin below t, where they are sorted. -/
def cntLt (fns : List FnD) (t : Int) : Nat := (fns.takeWhile fun f => f.begin_ < t).length
theorem cntLt_le (fns : List FnD) (t : Int) : cntLt fns t ≤ fns.length := List.Sublist.length_le (List.takeWhile_sublist _)
theorem cntLt_at {fns : List FnD} {t : Int} {i : Nat} (hi : i ≤ fns.length) (h1 : ∀ k x, k < i → fns[k]? = some x → x.begin_ < t) (h2 : ∀ k x, i ≤ k → fns[k]? = some x → t ≤ x.begin_) : cntLt fns t = i := by
  unfold cntLt
  induction fns generalizing i with
  | nil => simp at hi; subst hi; rfl
  | cons f r ih =>
    cases i with
    | zero =>
      have := h2 0 f (Nat.le_refl _) rfl
      rw [List.takeWhile_cons_of_neg (by simpa using this)]; rfl
    | succ i =>
      have := h1 0 f (by omega) rfl
      rw [List.takeWhile_cons_of_pos (by simpa using this), List.length_cons]
      rw [ih (i := i) (by simpa using hi) (fun k x hk hx => h1 (k + 1) x (by omega) (by simpa using hx)) (fun k x hk hx => h2 (k + 1) x (by omega) (by simpa using hx))]
def ofI (c : CodeD) (at_ : Int) : Int := (cntLt c.fns (at_ + 1) : Int) - 1
def sortedF (fns : List FnD) : Prop := ∀ (i j : Nat) (f g : FnD), i < j → fns[i]? = some f → fns[j]? = some g → f.begin_ < g.begin_
/-- The first number below n of which something is not so; -1. -/
def firstNot (p : Nat → Bool) (n : Nat) : Int := match (List.range n).find? (fun k => !p k) with
  | some k => k
  | none => -1
theorem firstNot_hit {p : Nat → Bool} {n k : Nat} (hk : k < n) (h : ∀ j, j < k → p j = true) (hp : p k = false) : firstNot p n = k := by
  unfold firstNot
  have : (List.range n).find? (fun k => !p k) = some k := by
    rw [List.find?_range_eq_some]
    simp only [Bool.not_eq_true', hp, List.mem_range, Bool.not_not, true_and]
    exact ⟨hk, fun j hj => by simpa using h j hj⟩
  rw [this]
theorem firstNot_miss {p : Nat → Bool} {n : Nat} (h : ∀ j, j < n → p j = true) : firstNot p n = -1 := by
  unfold firstNot
  have : (List.range n).find? (fun k => !p k) = none := by
    rw [List.find?_eq_none]
    intro j hj
    simp [h j (List.mem_range.1 hj)]
  rw [this]
end Go.Proofs.YtddkkmdbolgnlaaDoor.Fw

namespace Go.Proofs.YtddkkmdbolgnlaaDoor.Fw
def bI (b : Bool) : Int := if b then 1 else 0
def bN (b : Bool) : Nat := if b then 1 else 0
theorem bN_cast (b : Bool) : ((bN b : Nat) : Int) = bI b := by cases b <;> rfl
theorem andn_w (w s : Bool) : bitsV .and .i64 (bI w) (bitsV .xor .i64 (if IntKind.i64.signed then -1 else IntKind.i64.max) (bI s)) = ((bN (w && !s) : Nat) : Int) := by
  cases w <;> cases s <;> decide +kernel
theorem wrap_u8 {m : Nat} (h : m < 256) : IntKind.u8.wrap (m : Int) = m := IntWalk.u8_in _ (by omega)
theorem or_u8 {a c : Int} (ha : 0 ≤ a ∧ a < 128) (hc : 0 ≤ c ∧ c < 128) : 0 ≤ bitsV .or .u8 a c ∧ bitsV .or .u8 a c < 128 := by
  obtain ⟨a, rfl⟩ := Int.eq_ofNat_of_zero_le ha.1
  obtain ⟨c, rfl⟩ := Int.eq_ofNat_of_zero_le hc.1
  have h1 : a ||| c < 128 := Nat.or_lt_two_pow (n := 7) (by omega) (by omega)
  have h2 : bitsV .or .u8 (a : Int) (c : Int) = ((a ||| c : Nat) : Int) := by
    show IntKind.u8.wrap ((BitVec.ofInt 8 (a : Int) ||| BitVec.ofInt 8 (c : Int)).toNat : Int) = _
    rw [BitVec.ofInt_natCast, BitVec.ofInt_natCast, BitVec.toNat_or, BitVec.toNat_ofNat, BitVec.toNat_ofNat, Nat.mod_eq_of_lt (by omega), Nat.mod_eq_of_lt (by omega)]
    exact wrap_u8 (by omega)
  rw [h2]; omega

/-- How many pieces begin; 'w': a space stood before. -/
def cntG : List UInt8 → Bool → Nat
  | [], _ => 0
  | c :: r, w => bN (w && !isSp c) + cntG r (isSp c)
theorem cntG_len (l : List UInt8) : ∀ cur : List UInt8, (fieldsG l cur).length = cntG l cur.isEmpty + bN (!cur.isEmpty) := by
  induction l with
  | nil => intro cur; cases cur <;> simp [fieldsG, cntG, bN]
  | cons c r ih =>
    intro cur
    unfold fieldsG cntG
    cases hc : isSp c
    · simp only [Bool.false_eq_true, if_false, ih, List.isEmpty_cons]
      cases cur <;> simp [bN]
      omega
    · simp only [if_true]
      cases cur
      · simp only [List.isEmpty_nil, if_true, ih]; simp [bN]
      · simp only [List.isEmpty_cons, Bool.false_eq_true, if_false, List.length_cons, ih, List.isEmpty_nil]; simp [bN]
theorem fieldsG_ne {r cur : List UInt8} (h : cur ≠ []) : fieldsG r cur ≠ [] := by
  intro e
  have := cntG_len r cur
  rw [e] at this
  cases cur with
  | nil => exact h rfl
  | cons c l => simp [bN] at this
def seg (l : List UInt8) (a b : Nat) : List UInt8 := (l.drop a).take (b - a)
theorem seg_self (l : List UInt8) (a : Nat) : seg l a a = [] := by simp [seg]
theorem seg_succ {l : List UInt8} {a b : Nat} {c : UInt8} (h : a ≤ b) (hc : l[b]? = some c) : seg l a (b + 1) = seg l a b ++ [c] := by
  unfold seg
  rw [show b + 1 - a = (b - a) + 1 by omega, List.take_add_one, List.getElem?_drop, show a + (b - a) = b by omega, hc]
  rfl
theorem seg_ne {l : List UInt8} {a b : Nat} (h : a < b) (hb : b ≤ l.length) : seg l a b ≠ [] := by
  intro e
  have : (seg l a b).length = 0 := by rw [e]; rfl
  unfold seg at this
  rw [List.length_take, List.length_drop] at this
  omega
def strV (l : List UInt8) : Value := .string ⟨l.toArray⟩
theorem extract_eq (s : ByteArray) (a b : Nat) : s.extract a b = ⟨(seg s.data.toList a b).toArray⟩ := by
  apply ByteArray.ext
  rw [ByteArray.data_extract]
  apply Array.toList_inj.1
  simp [seg, Array.toList_extract]
theorem zerosL_one (z : Value) (n : Nat) : zerosL [z] n = List.replicate n z := by
  induction n with
  | zero => rfl
  | succ n ih => rw [zerosL, ih]; rfl
def StrR (_ : Mem) (x : List UInt8) (vs : List Value) : Prop := vs = [strV x]
theorem StrR_mono : MonoR StrR := fun _ _ _ _ _ h => h
/-- The table of the spaces. -/
def SpTab (g : Nat) (I : Mem) : Prop := ∀ c : UInt8, I.cell? ⟨g, c.toNat, none⟩ = some (.int .u8 (bI (isSp c)))
theorem SpTab.mono {g : Nat} {I J : Mem} (h : I.le J) (hs : SpTab g I) : SpTab g J := fun c => Mem.le.cell h (hs c)
theorem fieldsG_sp {c : UInt8} {r cur : List UInt8} (h : isSp c = true) (hc : cur ≠ []) : fieldsG (c :: r) cur = cur.reverse :: fieldsG r [] := by
  cases cur with
  | nil => exact absurd rfl hc
  | cons x y => rw [fieldsG, if_pos h]; rfl
theorem fieldsG_sp0 {c : UInt8} {r : List UInt8} (h : isSp c = true) : fieldsG (c :: r) [] = fieldsG r [] := by rw [fieldsG, if_pos h]; rfl
theorem fieldsG_no {c : UInt8} {r cur : List UInt8} (h : isSp c = false) : fieldsG (c :: r) cur = fieldsG r (c :: cur) := by rw [fieldsG, h]; rfl

/-- The pieces found, the room left. -/
def pieces (n : Nat) (done : List (List UInt8)) : List Value := done.map strV ++ List.replicate (n - done.length) (.string ByteArray.empty)
theorem pieces_set {n : Nat} {done : List (List UInt8)} (x : List UInt8) (h : done.length < n) : setsL (pieces n done) done.length [strV x] = pieces n (done ++ [x]) := by
  unfold setsL pieces
  have h1 : (done.map strV).length = done.length := by simp
  rw [← h1, List.take_left, List.drop_append, h1]
  obtain ⟨m, hm⟩ : ∃ m, n - done.length = m + 1 := ⟨n - done.length - 1, by omega⟩
  rw [hm, show n - (done ++ [x]).length = m by rw [List.length_append]; simp; omega]
  simp [List.drop_of_length_le, List.replicate_succ]
theorem pieces_len {n : Nat} {done : List (List UInt8)} (h : done.length ≤ n) : (pieces n done).length = n := by simp [pieces]; omega
theorem pieces_all {n : Nat} {done : List (List UInt8)} (h : done.length = n) : pieces n done = done.map strV := by simp [pieces, h]

section
variable {mo : Md} {P : Program} {ops : Array Oper} {Q : Exit → Act → World → Prop} {rest : List Oper} {n : Nat} {ds : List Deferred} {l : List (Nat × Value)} {Γ : Env} {I : Mem} {L : List Chunk}
variable {d : Nat} {t : TypeId} {pos : String} {af : Array Edge}
theorem WL.byte {T : TypeId} {x y : Operand} {s : ByteArray} {k : IntKind} {j : Nat} {c : UInt8} (hx : ev l x = some (.string s)) (hy : ev l y = some (.int k (j : Int))) (hT : strT P T = true) (hd : Nat.ble (d + 1) n = true) (hc : s.data.toList[j]? = some c)
    (h : WL mo P ops Q rest n ds ((d, .int .u8 (c.toNat : Int)) :: l) Γ I L) : WL mo P ops Q (⟨some d, .index T x y, t, pos, af, none⟩ :: rest) n ds l Γ I L :=
  WL.index_str hx hy hT hd ⟨by omega, by
    have := (List.getElem?_eq_some_iff.1 hc).1
    have e : s.data.toList.length = s.size := rfl
    omega⟩ (by
    rw [Int.toNat_natCast, List.getD_eq_getElem?_getD, hc]; exact h)
end
end Go.Proofs.YtddkkmdbolgnlaaDoor.Fw
namespace Go.Proofs.YtddkkmdbolgnlaaDoor.Fw
theorem bI_ne (b : Bool) : (bI b != 0) = b := by cases b <;> rfl
theorem bI_eq (b : Bool) : (bI b == 0) = !b := by cases b <;> rfl
theorem bI_rg (b : Bool) : 0 ≤ bI b ∧ bI b ≤ 1 := by cases b <;> decide
def spAt (bs : List UInt8) (i : Nat) : Bool := match bs[i]? with
  | some c => isSp c
  | none => false
theorem spAt_some {bs : List UInt8} {i : Nat} {c : UInt8} (h : bs[i]? = some c) : spAt bs i = isSp c := by simp [spAt, h]
theorem spAt_none {bs : List UInt8} {i : Nat} (h : bs.length ≤ i) : spAt bs i = false := by simp [spAt, List.getElem?_eq_none h]
theorem spAt_lt {bs : List UInt8} {i : Nat} (h : spAt bs i = true) : i < bs.length := Nat.lt_of_not_le fun h2 => by rw [spAt_none h2] at h; cases h
theorem cntG_le (l : List UInt8) : ∀ w, cntG l w ≤ l.length := by
  induction l with
  | nil => intro w; simp [cntG]
  | cons c r ih => intro w; simp only [cntG, List.length_cons]; have := ih (isSp c); have : bN (w && !isSp c) ≤ 1 := by unfold bN; split <;> omega
                   omega
theorem fieldsS_len (bs : List UInt8) : (fieldsS bs).length = cntG bs true := by
  have := cntG_len bs []
  simpa [fieldsS, bN] using this
theorem seg_drop {bs : List UInt8} {a : Nat} : seg bs a bs.length = bs.drop a := by unfold seg; rw [List.take_of_length_le (by simp)]
theorem fieldsG_end {bs : List UInt8} {a : Nat} (h : a < bs.length) : fieldsG (bs.drop bs.length) (seg bs a bs.length).reverse = [seg bs a bs.length] := by
  rw [List.drop_length, fieldsG]
  have : (seg bs a bs.length).reverse ≠ [] := by simpa using seg_ne h (Nat.le_refl _)
  cases hh : (seg bs a bs.length).reverse with
  | nil => exact absurd hh this
  | cons x y => simp [← hh]; simpa using this
end Go.Proofs.YtddkkmdbolgnlaaDoor.Fw
namespace Go.Proofs.YtddkkmdbolgnlaaDoor.Fw
theorem bI_0 {b : Bool} (h : bI b = 0) : b = false := by cases b <;> simp_all [bI]
theorem bI_1 {b : Bool} (h : ¬ bI b = 0) : b = true := by cases b <;> simp_all [bI]
theorem bN_le (b : Bool) : bN b ≤ 1 := by cases b <;> decide
end Go.Proofs.YtddkkmdbolgnlaaDoor.Fw
namespace Go.Proofs.YtddkkmdbolgnlaaDoor.Fw
theorem pieces_step {n : Nat} {dn : List (List UInt8)} {s : ByteArray} {bs : List UInt8} {fs i : Nat} (hbs : bs = s.data.toList) (h : dn.length < n) :
    setsL (pieces n dn) (0 + ((dn.length : Nat) : Int).toNat * 1) [.string (s.extract ((fs : Nat) : Int).toNat ((i : Nat) : Int).toNat)] = pieces n (dn ++ [seg bs fs i]) := by
  rw [← pieces_set _ h, extract_eq, ← hbs]
  simp [strV]
theorem pieces_last {n : Nat} {dn : List (List UInt8)} {s : ByteArray} {bs : List UInt8} {fs : Nat} (hbs : bs = s.data.toList) (h : dn.length < n) :
    setsL (pieces n dn) (0 + ((dn.length : Nat) : Int).toNat * 1) [.string (s.extract ((fs : Nat) : Int).toNat s.size)] = pieces n (dn ++ [seg bs fs bs.length]) := by
  have := pieces_step (fs := fs) (i := s.size) hbs h
  have e : bs.length = s.size := by rw [hbs]; rfl
  rw [e, ← this, Int.toNat_natCast (n := s.size)]
theorem cells_str {I : Mem} {b : Nat} {E : TypeId} {fz : Nat × Nat} {xs : List (List UInt8)} (h : I b = some (.cells (xs.map strV).toArray E fz)) : SlAt StrR 1 I xs (some ⟨b, 0, none⟩) := fun i x hx => by
  refine ⟨b, 0, [strV x], rfl, rfl, fun j v hj => ?_, rfl⟩
  cases j with
  | succ j => simp at hj
  | zero =>
    simp at hj; subst hj
    refine Mem.cell_of h ?_
    rw [nth_eq]
    simp [hx]
theorem fieldsS_le (bs : List UInt8) : (fieldsS bs).length ≤ bs.length := by rw [fieldsS_len]; exact cntG_le bs true
end Go.Proofs.YtddkkmdbolgnlaaDoor.Fw
namespace Go.Proofs.YtddkkmdbolgnlaaDoor.Fw
theorem opText_small : ∀ c ∈ (⟨opText.toArray⟩ : ByteArray).data.toList, c.toNat < 128 := by decide +kernel
theorem opText_len : (⟨opText.toArray⟩ : ByteArray).size ≤ 8796093022208 := by
  have : (⟨opText.toArray⟩ : ByteArray).size = 119 + (opText.length - 119) := by decide +kernel
  have h2 : opText.length ≤ 1000 := by decide +kernel
  omega
end Go.Proofs.YtddkkmdbolgnlaaDoor.Fw

namespace Go.Proofs.YtddkkmdbolgnlaaDoor.Fw
theorem firstNot_neg {p : Nat → Bool} {n : Nat} : firstNot p n < 0 ↔ ∀ j, j < n → p j = true := by
  unfold firstNot
  cases h : (List.range n).find? (fun k => !p k) with
  | none =>
    rw [List.find?_eq_none] at h
    simp only [List.mem_range] at h
    exact ⟨fun _ j hj => by simpa using h j hj, fun _ => by simp⟩
  | some k =>
    rw [List.find?_range_eq_some] at h
    simp only [Bool.not_eq_true', List.mem_range] at h
    refine ⟨fun h2 => by simp only at h2; omega, fun h2 => ?_⟩
    have := h2 k h.2.1
    rw [h.1] at this; cases this
theorem firstNot_rg {p : Nat → Bool} {n : Nat} (hn : n ≤ 9223372036854775807) : -1 ≤ firstNot p n ∧ firstNot p n < 9223372036854775807 := by
  unfold firstNot
  cases h : (List.range n).find? (fun k => !p k) with
  | none => simp
  | some k =>
    rw [List.find?_range_eq_some] at h
    simp only [List.mem_range] at h
    constructor <;> simp only <;> omega
def lastOf (c : CodeD) (k : Nat) : Int := if k = 0 then -1 else match c.fns[k - 1]? with
  | some f => f.begin_
  | none => -1
def ok3 (c : CodeD) (i : Nat) : Bool := match c.fns[i]? with
  | some f => decide (lastOf c i < f.begin_) && (decide (0 < (i : Int)) || f.begin_ == 0) && decide (f.begin_ < c.list.length) && decide (0 ≤ f.words) && decide (f.words ≤ 16384) && decide (0 ≤ f.params) && decide (f.params ≤ f.words)
  | none => false
def ok4 (c : CodeD) (i : Nat) : Bool := match c.list[i]? with
  | some x => plainI x && withinI c (ofI c i) x
  | none => false
def ok5 (c : CodeD) (i : Nat) : Bool := match c.list[(endI c i - 1).toNat]? with
  | some x => x.op == 18 || x.op == 21
  | none => false
def ok1 (c : CodeD) : Bool := decide (1 ≤ (c.fns.length : Int)) && decide ((c.fns.length : Int) ≤ 32) && decide (0 ≤ c.main) && decide (c.main < c.fns.length)
def ok2 (c : CodeD) : Bool := decide (1 ≤ (c.list.length : Int)) && decide ((c.list.length : Int) ≤ 65536)
def asks (c : CodeD) : Nat → Int
  | 0 => firstNot (fun _ => mayShapes c.shapes) 1
  | 1 => firstNot (fun _ => ok1 c) 1
  | 2 => firstNot (fun _ => ok2 c) 1
  | 3 => firstNot (ok3 c) c.fns.length
  | 4 => firstNot (ok4 c) c.list.length
  | _ => firstNot (ok5 c) c.fns.length
/-- What Check answers. -/
def checkL (c : CodeD) : List Int :=
  if 0 ≤ asks c 0 then [1, asks c 0, 240] else if 0 ≤ asks c 1 then [2, asks c 1, 240] else if 0 ≤ asks c 2 then [3, asks c 2, 240]
  else if 0 ≤ asks c 3 then [4, asks c 3, 240] else if 0 ≤ asks c 4 then [5, asks c 4, 240] else if 0 ≤ asks c 5 then [6, asks c 5, 240] else [0, 0, 0]
def mayC (c : CodeD) : Bool := decide (asks c 0 < 0) && decide (asks c 1 < 0) && decide (asks c 2 < 0) && decide (asks c 3 < 0) && decide (asks c 4 < 0) && decide (asks c 5 < 0)
theorem checkL_may (c : CodeD) : ∃ a b e, checkL c = [a, b, e] ∧ (e == 0) = mayC c := by
  unfold checkL mayC
  split
  · exact ⟨_, _, _, rfl, by simp; omega⟩
  · split
    · exact ⟨_, _, _, rfl, by simp; omega⟩
    · split
      · exact ⟨_, _, _, rfl, by simp; omega⟩
      · split
        · exact ⟨_, _, _, rfl, by simp; omega⟩
        · split
          · exact ⟨_, _, _, rfl, by simp; omega⟩
          · split
            · exact ⟨_, _, _, rfl, by simp; omega⟩
            · exact ⟨_, _, _, rfl, by simp; omega⟩
structure WFc (c : CodeD) : Prop where
  n1 : 1 ≤ c.fns.length
  n32 : c.fns.length ≤ 32
  l1 : 1 ≤ c.list.length
  l2 : c.list.length ≤ 65536
  m0 : 0 ≤ c.main
  m1 : c.main < c.fns.length
  fn : ∀ (i : Nat) (f : FnD), c.fns[i]? = some f → 0 ≤ f.begin_ ∧ f.begin_ < c.list.length ∧ 0 ≤ f.words ∧ f.words ≤ 16384 ∧ 0 ≤ f.params ∧ f.params ≤ f.words
  first : ∀ (f : FnD), c.fns[0]? = some f → f.begin_ = 0
  sorted : sortedF c.fns
theorem WFc.of {c : CodeD} (h1 : ok1 c = true) (h2 : ok2 c = true) (h3 : ∀ i, i < c.fns.length → ok3 c i = true) : WFc c := by
  simp only [ok1, ok2, Bool.and_eq_true, decide_eq_true_eq] at h1 h2
  obtain ⟨⟨⟨h11, h12⟩, h13⟩, h14⟩ := h1
  have step : ∀ (i : Nat) (f : FnD), c.fns[i]? = some f → lastOf c i < f.begin_ ∧ (0 < (i : Int) ∨ f.begin_ = 0) ∧ f.begin_ < c.list.length ∧ 0 ≤ f.words ∧ f.words ≤ 16384 ∧ 0 ≤ f.params ∧ f.params ≤ f.words := fun i f hf => by
    have := h3 i (List.getElem?_eq_some_iff.1 hf).1
    simp only [ok3, hf, Bool.and_eq_true, Bool.or_eq_true, decide_eq_true_eq, beq_iff_eq] at this
    obtain ⟨⟨⟨⟨⟨⟨a1, a2⟩, a3⟩, a4⟩, a5⟩, a6⟩, a7⟩ := this
    exact ⟨a1, a2, a3, a4, a5, a6, a7⟩
  have hs : sortedF c.fns := by
    intro i j f g hij hf hg
    induction j generalizing g with
    | zero => omega
    | succ j ih =>
      have h := (step (j + 1) g hg).1
      have hlt : j < c.fns.length := by have := (List.getElem?_eq_some_iff.1 hg).1; omega
      have hj : c.fns[j]? = some c.fns[j] := List.getElem?_eq_getElem hlt
      rw [lastOf, if_neg (by omega), Nat.add_sub_cancel, hj] at h
      simp only at h
      rcases Nat.lt_or_ge i j with h2 | h2
      · exact Int.lt_trans (ih _ h2 hj) h
      · have : i = j := by omega
        subst this
        rw [hf] at hj; injection hj with hj; rw [hj]; exact h
  have h0 : ∀ (f : FnD), c.fns[0]? = some f → f.begin_ = 0 := fun f hf => by
    rcases (step 0 f hf).2.1 with h | h
    · omega
    · exact h
  refine ⟨by omega, by omega, by omega, by omega, h13, h14, fun i f hf => ?_, h0, hs⟩
  refine ⟨?_, (step i f hf).2.2⟩
  rcases Nat.eq_zero_or_pos i with e | e
  · subst e; rw [h0 f hf]; exact Int.le_refl _
  · have hlt : 0 < c.fns.length := by omega
    have hj : c.fns[0]? = some c.fns[0] := List.getElem?_eq_getElem hlt
    have := hs 0 i _ f e hj hf
    rw [h0 _ hj] at this; omega
theorem WFc.endI_rg {c : CodeD} (h : WFc c) {fn : Int} (h0 : 0 ≤ fn) : 1 ≤ endI c fn ∧ endI c fn ≤ c.list.length := by
  unfold endI
  split
  · rename_i f hf
    have h1 := h.fn _ f hf
    have hlt : 0 < c.fns.length := h.n1
    have hj : c.fns[0]? = some c.fns[0] := List.getElem?_eq_getElem hlt
    have := h.sorted 0 _ _ f (by omega) hj hf
    have := (h.fn _ _ hj).1
    omega
  · have := h.l1; omega
theorem WFc.of_rg {c : CodeD} (h : WFc c) {at_ : Int} (h0 : 0 ≤ at_) : 0 ≤ ofI c at_ ∧ ofI c at_ < c.fns.length := by
  have hle := cntLt_le c.fns (at_ + 1)
  have hlt : 0 < c.fns.length := h.n1
  have : 1 ≤ cntLt c.fns (at_ + 1) := by
    unfold cntLt
    cases hc : c.fns with
    | nil => rw [hc] at hlt; simp at hlt
    | cons f r =>
      have := h.first f (by rw [hc]; rfl)
      rw [List.takeWhile_cons_of_pos (by simp; omega)]
      simp
  unfold ofI
  omega
theorem WFc.fnOf {c : CodeD} (h : WFc c) {fn : Int} (h0 : 0 ≤ fn) (h1 : fn < c.fns.length) : ∃ f, c.fns[fn.toNat]? = some f ∧ 0 ≤ f.begin_ ∧ f.begin_ < c.list.length ∧ 0 ≤ f.words ∧ f.words ≤ 16384 ∧ 0 ≤ f.params ∧ f.params ≤ f.words :=
  ⟨_, List.getElem?_eq_getElem (by omega), h.fn _ _ (List.getElem?_eq_getElem (by omega))⟩
theorem WFc.asks {c : CodeD} (h1 : asks c 1 < 0) (h2 : asks c 2 < 0) (h3 : asks c 3 < 0) : WFc c :=
  WFc.of ((firstNot_neg (p := fun _ => ok1 c) (n := 1)).1 h1 0 (by omega)) ((firstNot_neg (p := fun _ => ok2 c) (n := 1)).1 h2 0 (by omega)) ((firstNot_neg (p := ok3 c)).1 h3)
/-- What a code that may be is. -/
structure MayW (c : CodeD) : Prop where
  wf : WFc c
  shapes : mayShapes c.shapes = true
  ok4 : ∀ i, i < c.list.length → ok4 c i = true
  ok5 : ∀ i, i < c.fns.length → ok5 c i = true
theorem MayW.of {c : CodeD} (h : mayC c = true) : MayW c := by
  simp only [mayC, Bool.and_eq_true, decide_eq_true_eq] at h
  obtain ⟨⟨⟨⟨⟨h0, h1⟩, h2⟩, h3⟩, h4⟩, h5⟩ := h
  exact ⟨WFc.asks h1 h2 h3, (firstNot_neg (p := fun _ => mayShapes c.shapes) (n := 1)).1 h0 0 (by omega), (firstNot_neg (p := Fw.ok4 c)).1 h4, (firstNot_neg (p := Fw.ok5 c)).1 h5⟩
theorem asks_rg (c : CodeD) (k : Nat) (h : c.fns.length ≤ 9223372036854775806) (h2 : c.list.length ≤ 9223372036854775806) : -1 ≤ Fw.asks c k ∧ Fw.asks c k < 9223372036854775807 := by
  unfold Fw.asks
  split <;> exact firstNot_rg (by omega)
def CodeAt (I : Mem) (b : Nat) (c : CodeD) : Prop := ∃ v1 v2 v3, I.row b 0 [v1, v2, v3, .int .i64 c.main] ∧ CodeC I c v1 v2 v3
theorem CodeAt.mono {I J : Mem} {b : Nat} {c : CodeD} (h : CodeAt I b c) (hIJ : I.le J) : CodeAt J b c := by
  obtain ⟨v1, v2, v3, hr, hc⟩ := h
  exact ⟨v1, v2, v3, Mem.le.row hIJ hr, hc.mono hIJ⟩
end Go.Proofs.YtddkkmdbolgnlaaDoor.Fw

namespace Go.Proofs.YtddkkmdbolgnlaaDoor.Fw
def ptrT (P : Program) (t : TypeId) : Bool := match P.underlying t with | some (.pointer _) => true | _ => false
section
variable {mo : Md} {P : Program} {ops : Array Oper} {Q : Exit → Act → World → Prop} {rest : List Oper} {n : Nat} {ds : List Deferred} {l : List (Nat × Value)} {Γ : Env} {I : Mem} {L : List Chunk}
variable {d : Nat} {t : TypeId} {pos : String} {af : Array Edge}
theorem run_equal_nilslice {T E : TypeId} (hT : sliceT P T = some E) (A : Option Addr) (m c : Nat) (w : World) : (Op.equal T (.slice A m c) (.slice none 0 0)).run P w = .ok A.isNone w := by
  unfold sliceT at hT
  split at hT
  · rename_i e hu
    show (Op.equalIn (9999 + 1) T (.slice A m c) (.slice none 0 0)).run P w = _
    unfold Op.equalIn
    rw [run_bind, run_underlying hu]
    cases A <;> rfl
  · simp at hT
theorem WL.slice_eqnil {T T' E : TypeId} {x : Operand} {A : Option Addr} {m c : Nat} (hx : ev l x = some (.slice A m c)) (hT : sliceT P T = some E) (hd : Nat.ble (d + 1) n = true)
    (h : WL mo P ops Q rest n ds ((d, .bool A.isNone) :: l) Γ I L) : WL mo P ops Q (⟨some d, .binOp .eql T x (.const (.slice none 0 0)) T', t, pos, af, none⟩ :: rest) n ds l Γ I L :=
  WL.val hd (fun a w hf _ => by
    have hc : a.eval (.const (.slice none 0 0)) = .slice none 0 0 := rfl
    simp only [execOp, hf.ev hx, hc]
    refine run_v ?_
    have := run_equal_nilslice (P := P) hT A m c w
    cases A <;> simp [eqGuard, binOp, this]) h
theorem run_equal_nilptr {T : TypeId} (hT : ptrT P T = true) (A : Option Addr) (w : World) : (Op.equal T (.pointer A) (.pointer none)).run P w = .ok A.isNone w := by
  unfold ptrT at hT
  split at hT
  · rename_i e hu
    show (Op.equalIn (9999 + 1) T (.pointer A) (.pointer none)).run P w = _
    unfold Op.equalIn
    rw [run_bind, run_underlying hu]
    cases A <;> rfl
  · simp at hT
theorem WL.ptr_nenil {T T' : TypeId} {x : Operand} {A : Option Addr} (hx : ev l x = some (.pointer A)) (hT : ptrT P T = true) (hd : Nat.ble (d + 1) n = true)
    (h : WL mo P ops Q rest n ds ((d, .bool A.isSome) :: l) Γ I L) : WL mo P ops Q (⟨some d, .binOp .neq T x (.const (.pointer none)) T', t, pos, af, none⟩ :: rest) n ds l Γ I L :=
  WL.val hd (fun a w hf _ => by
    have hc : a.eval (.const (.pointer none)) = .pointer none := rfl
    simp only [execOp, hf.ev hx, hc]
    refine run_v ?_
    have := run_equal_nilptr (P := P) hT A w
    cases A <;> simp [eqGuard, binOp, this]) h
theorem WL.ptr_eqnil {T T' : TypeId} {x : Operand} {A : Option Addr} (hx : ev l x = some (.pointer A)) (hT : ptrT P T = true) (hd : Nat.ble (d + 1) n = true)
    (h : WL mo P ops Q rest n ds ((d, .bool A.isNone) :: l) Γ I L) : WL mo P ops Q (⟨some d, .binOp .eql T x (.const (.pointer none)) T', t, pos, af, none⟩ :: rest) n ds l Γ I L :=
  WL.val hd (fun a w hf _ => by
    have hc : a.eval (.const (.pointer none)) = .pointer none := rfl
    simp only [execOp, hf.ev hx, hc]
    refine run_v ?_
    have := run_equal_nilptr (P := P) hT A w
    cases A <;> simp [eqGuard, binOp, this]) h

/-- '[]T{}'. -/
theorem WL.buildSlice0 {T E : TypeId} {sz : Nat} {z : Value} (hT : sliceT P T = some E) (hs : szT P E = some sz) (hz : zeroT P E = some z) (hd : Nat.ble (d + 1) n = true)
    (h : ∀ b, WL .seq P ops Q rest n ds ((d, .slice (some ⟨b, 0, none⟩) 0 0) :: l) Γ I ([(b, .cells #[] E (0, 0))] :: L)) : WL .seq P ops Q (⟨some d, .buildSlice T 0 #[], t, pos, af, none⟩ :: rest) n ds l Γ I L :=
  WL.buildSlice (ps := []) (vs := []) (c := []) rfl (fun w => by
    unfold sliceT at hT
    split at hT
    · rename_i e hu
      injection hT with hT; subst hT
      unfold Instr.buildSlice
      have h0 : Array.range 0 = #[] := rfl
      simp [run_underlying hu, run_sizeOf hs, newRow, h0, Instr.fill]
    · simp at hT) hd h
end

/-- Where a slice's cells stand: in what stays, nowhere, in a chunk of one block. -/
def SrcO (I : Mem) (C : Chunk) (A : Option Addr) (cs : List Value) : Prop :=
  (∃ b off, A = some ⟨b, off, none⟩ ∧ I.row b off cs) ∨ cs = [] ∨ ∃ b c E fz off, A = some ⟨b, off, none⟩ ∧ C = [(b, .cells c E fz)] ∧ ∀ (j : Nat) (v : Value), cs[j]? = some v → c.toList[off + j]? = some v
theorem SlO.srcO {sz : Nat} {cs : List Value} {A : Option Addr} {cap : Nat} {C : Chunk} (I : Mem) (h : SlO sz cs A cap C) : SrcO I C A cs := by
  rcases h with ⟨rfl, rfl, rfl, rfl⟩ | ⟨b, pad, E, rfl, rfl, hp, _⟩
  · exact .inr (.inl rfl)
  · refine .inr (.inr ⟨b, _, E, _, 0, rfl, rfl, fun j v hj => ?_⟩)
    have := (List.getElem?_eq_some_iff.1 hj).1
    rw [Nat.zero_add]
    show (cs ++ pad)[j]? = some v
    rw [List.getElem?_append_left this]; exact hj
theorem SrcO.src {P : Program} {Γ : Env} {I : Mem} {L : List Chunk} {k : Nat} {C : Chunk} {A : Option Addr} {cs : List Value} {T E : TypeId} {sz m cap : Nat} (h : SrcO I C A cs) (hk : nth L k = some C) (hT : sliceT P T = some E) (hl : cs.length = m * sz) (h1 : cs.all one1 = true) (hm : A = none → m = 0) : SrcW P Γ I L sz T (.slice A m cap) m cs := by
  rcases h with ⟨b, off, rfl, hr⟩ | rfl | ⟨b, c, E', fz, off, rfl, rfl, hc⟩
  · exact .slice hT (AtW.imm hr) hl h1
  · cases A with
    | none => have := hm rfl; subst this; exact .nil hT
    | some a => exact .slice hT (fun w _ j v hj => by simp at hj) hl h1
  · exact .slice hT (AtW.own hk hc) hl h1

/-- Rows one behind the other. -/
theorem flat_get {vss : List (List Value)} {sz : Nat} (h : ∀ vs ∈ vss, vs.length = sz) {i : Nat} {vs : List Value} (hi : vss[i]? = some vs) {j : Nat} {v : Value} (hj : vs[j]? = some v) : vss.flatten[i * sz + j]? = some v := by
  induction vss generalizing i with
  | nil => simp at hi
  | cons x r ih =>
    have hx := h x (by simp)
    rw [List.flatten_cons]
    cases i with
    | zero =>
      simp at hi; subst hi
      rw [Nat.zero_mul, Nat.zero_add, List.getElem?_append_left (List.getElem?_eq_some_iff.1 hj).1]; exact hj
    | succ i =>
      rw [List.getElem?_append_right (by rw [hx, Nat.add_mul]; omega), hx, show (i + 1) * sz + j - sz = i * sz + j by rw [Nat.add_mul]; omega]
      exact ih (fun vs hv => h vs (by simp [hv])) (by simpa using hi)
theorem flat_len {vss : List (List Value)} {sz : Nat} (h : ∀ vs ∈ vss, vs.length = sz) : vss.flatten.length = vss.length * sz := by
  induction vss with
  | nil => simp
  | cons x r ih => rw [List.flatten_cons, List.length_append, h x (by simp), ih (fun vs hv => h vs (by simp [hv])), List.length_cons, Nat.add_mul]; omega
theorem flat_at {vss : List (List Value)} {sz : Nat} (h : ∀ vs ∈ vss, vs.length = sz) {q : Nat} {v : Value} (hq : vss.flatten[q]? = some v) : ∃ i j vs, vss[i]? = some vs ∧ vs[j]? = some v ∧ q = i * sz + j := by
  induction vss generalizing q with
  | nil => simp at hq
  | cons x r ih =>
    have hx := h x (by simp)
    rw [List.flatten_cons] at hq
    rcases Nat.lt_or_ge q x.length with hlt | hge
    · rw [List.getElem?_append_left hlt] at hq
      exact ⟨0, q, x, rfl, hq, by omega⟩
    · rw [List.getElem?_append_right hge] at hq
      obtain ⟨i, j, vs, h1, h2, h3⟩ := ih (fun vs hv => h vs (by simp [hv])) hq
      exact ⟨i + 1, j, vs, by simpa using h1, h2, by rw [Nat.add_mul]; omega⟩
/-- The rows of a slice's elements. -/
structure Rows {α : Type} (R : Mem → α → List Value → Prop) (sz : Nat) (I : Mem) (xs : List α) (vss : List (List Value)) : Prop where
  len : vss.length = xs.length
  row : ∀ vs ∈ vss, vs.length = sz
  rel : ∀ (i : Nat) (x : α) (vs : List Value), xs[i]? = some x → vss[i]? = some vs → R I x vs
theorem Rows.flen {α : Type} {R : Mem → α → List Value → Prop} {sz : Nat} {I : Mem} {xs : List α} {vss : List (List Value)} (h : Rows R sz I xs vss) : vss.flatten.length = xs.length * sz := by rw [flat_len h.row, h.len]
theorem Rows.mono {α : Type} {R : Mem → α → List Value → Prop} (hR : MonoR R) {sz : Nat} {I J : Mem} {xs : List α} {vss : List (List Value)} (h : Rows R sz I xs vss) (hIJ : I.le J) : Rows R sz J xs vss :=
  ⟨h.len, h.row, fun i x vs h1 h2 => hR I J x vs hIJ (h.rel i x vs h1 h2)⟩
theorem Rows.snoc {α : Type} {R : Mem → α → List Value → Prop} {sz : Nat} {I : Mem} {xs : List α} {vss : List (List Value)} (h : Rows R sz I xs vss) {x : α} {vs : List Value} (hl : vs.length = sz) (hx : R I x vs) : Rows R sz I (xs ++ [x]) (vss ++ [vs]) := by
  refine ⟨by simp [h.len], fun us hu => ?_, fun i y us h1 h2 => ?_⟩
  · rcases List.mem_append.1 hu with hu | hu
    · exact h.row us hu
    · simp at hu; subst hu; exact hl
  · rcases Nat.lt_or_ge i xs.length with hlt | hge
    · rw [List.getElem?_append_left hlt] at h1
      rw [List.getElem?_append_left (by rw [h.len]; exact hlt)] at h2
      exact h.rel i y us h1 h2
    · rw [List.getElem?_append_right hge] at h1
      rw [List.getElem?_append_right (by rw [h.len]; exact hge), h.len] at h2
      cases hq : i - xs.length with
      | zero => rw [hq] at h1 h2; simp at h1 h2; subst h1; subst h2; exact hx
      | succ m => rw [hq] at h1; simp at h1
theorem Rows.nil {α : Type} {R : Mem → α → List Value → Prop} {sz : Nat} {I : Mem} : Rows (α := α) R sz I [] [] := ⟨rfl, by simp, by simp⟩
theorem SlAt.rows {α : Type} {R : Mem → α → List Value → Prop} {sz : Nat} {I : Mem} {xs : List α} {A : Option Addr} (h : SlAt R sz I xs A) : ∃ vss, Rows R sz I xs vss ∧ SrcO I [] A vss.flatten ∧ (A = none → xs = []) := by
  have pick : ∀ (i : Nat), ∃ vs, ∀ x, xs[i]? = some x → vs.length = sz ∧ R I x vs ∧ ∃ b off, A = some ⟨b, off, none⟩ ∧ I.row b (off + i * sz) vs := fun i => by
    cases hx : xs[i]? with
    | none => exact ⟨[], fun x e => by simp at e⟩
    | some x =>
      obtain ⟨b, off, vs, h1, h2, h3, h4⟩ := h i x hx
      exact ⟨vs, fun y e => by injection e with e; subst e; exact ⟨h2, h4, b, off, h1, h3⟩⟩
  let F : Nat → List Value := fun i => Classical.choose (pick i)
  have hF : ∀ i x, xs[i]? = some x → (F i).length = sz ∧ R I x (F i) ∧ ∃ b off, A = some ⟨b, off, none⟩ ∧ I.row b (off + i * sz) (F i) := fun i => Classical.choose_spec (pick i)
  have hrow : ∀ vs ∈ (List.range xs.length).map F, vs.length = sz := fun vs hv => by
    obtain ⟨i, hi, rfl⟩ := List.mem_map.1 hv
    exact (hF i _ (List.getElem?_eq_getElem (List.mem_range.1 hi))).1
  have hget : ∀ i vs, ((List.range xs.length).map F)[i]? = some vs → i < xs.length ∧ vs = F i := fun i vs hi => by
    rw [List.getElem?_map] at hi
    rcases Nat.lt_or_ge i xs.length with hlt | hge
    · rw [List.getElem?_range hlt] at hi; simp at hi; exact ⟨hlt, hi.symm⟩
    · rw [List.getElem?_eq_none (by simpa using hge)] at hi; simp at hi
  refine ⟨(List.range xs.length).map F, ⟨by simp, hrow, fun i x vs h1 h2 => ?_⟩, ?_, fun e => ?_⟩
  · rw [(hget i vs h2).2]; exact (hF i x h1).2.1
  · cases A with
    | none =>
      cases xs with
      | nil => exact .inr (.inl (by simp))
      | cons x r => obtain ⟨_, _, b, off, e, _⟩ := hF 0 x rfl; cases e
    | some a =>
      cases xs with
      | nil => exact .inr (.inl (by simp))
      | cons x r =>
        obtain ⟨_, _, b, off, e, _⟩ := hF 0 x rfl
        refine .inl ⟨b, off, e, fun q v hq => ?_⟩
        obtain ⟨i, j, vs, h1, h2, h3⟩ := flat_at hrow hq
        obtain ⟨hlt, rfl⟩ := hget i vs h1
        obtain ⟨_, _, b', off', e', hr⟩ := hF i _ (List.getElem?_eq_getElem hlt)
        rw [e] at e'; injection e' with e'; injection e' with e1 e2; subst e1; subst e2
        have := hr j v h2
        rw [h3, ← Nat.add_assoc]; exact this
  · subst e
    cases xs with
    | nil => rfl
    | cons x r => obtain ⟨_, _, b, off, e, _⟩ := hF 0 x rfl; cases e
/-- A slice that is laid aside. -/
theorem Rows.slAt {α : Type} {R : Mem → α → List Value → Prop} {sz : Nat} {I : Mem} {xs : List α} {vss : List (List Value)} (h : Rows R sz I xs vss) {b : Nat} {pad : List Value} {E : TypeId} {fz : Nat × Nat} (hb : I b = some (.cells (vss.flatten ++ pad).toArray E fz)) : SlAt R sz I xs (some ⟨b, 0, none⟩) := fun i x hx => by
  have hlt : i < vss.length := by rw [h.len]; exact (List.getElem?_eq_some_iff.1 hx).1
  have hv : vss[i]? = some vss[i] := List.getElem?_eq_getElem hlt
  refine ⟨b, 0, vss[i], rfl, h.row _ (List.getElem_mem hlt), fun j v hj => ?_, h.rel i x _ hx hv⟩
  refine Mem.cell_of hb ?_
  rw [nth_eq]
  have := flat_get h.row hv hj
  rw [Nat.zero_add, List.getElem?_append_left (List.getElem?_eq_some_iff.1 this).1]
  exact this
end Go.Proofs.YtddkkmdbolgnlaaDoor.Fw

