/- A part of the proof: steps of the walk and laws that the claim's theorem rests on; each lemma states its own conditions. -/
import Derived.Test.YtddkkmdbolgnlaaDoorWalkD
set_option linter.unusedVariables false
set_option linter.unusedSimpArgs false
namespace Go.Proofs.YtddkkmdbolgnlaaDoor.Fw
structure ArD where
  taken : Nat
  most : Int
def arCells (a : ArD) : List Value := [.int .u16 (a.taken : Int), .int .i64 a.most]
def hpCells (h : List ArD) : List Value := .bool true :: (h.map arCells).flatten
theorem ar_len : ∀ {h : List ArD}, ∀ vs ∈ h.map arCells, vs.length = 2 := fun vs hv => by
  obtain ⟨a, _, rfl⟩ := List.mem_map.1 hv; rfl
theorem hp_at {h : List ArD} {k : Nat} {a : ArD} (hk : h[k]? = some a) (j : Nat) (hj : j < 2) : (hpCells h)[1 + (k * 2 + j)]? = (arCells a)[j]? := by
  unfold hpCells
  rw [Nat.add_comm, List.getElem?_cons_succ]
  have hv : (arCells a)[j]? = some ((arCells a)[j]'(by simpa [arCells] using hj)) := List.getElem?_eq_getElem _
  rw [hv]
  exact flat_get ar_len (by rw [List.getElem?_map, hk]; rfl) hv
theorem hp_t {h : List ArD} {k off : Nat} {a : ArD} (hk : h[k]? = some a) (ho : off = 1 + k * 2) : nth (hpCells h) off = some (.int .u16 (a.taken : Int)) := by
  subst ho; rw [nth_eq]; exact hp_at hk 0 (by omega)
theorem hp_m {h : List ArD} {k off : Nat} {a : ArD} (hk : h[k]? = some a) (ho : off = 1 + k * 2 + 1) : nth (hpCells h) off = some (.int .i64 a.most) := by
  subst ho; rw [nth_eq, Nat.add_assoc]; exact hp_at hk 1 (by omega)
theorem hp_len (h : List ArD) : (hpCells h).length = 1 + h.length * 2 := by
  unfold hpCells; rw [List.length_cons, flat_len ar_len, List.length_map, Nat.add_comm]
theorem setsL_one {α : Type} {c : List α} {off : Nat} {v : α} (h : off < c.length) : setsL c off [v] = c.set off v := by
  unfold setsL; rw [List.set_eq_take_append_cons_drop, if_pos h]; simp
theorem flat_set {vss : List (List Value)} {sz : Nat} (h : ∀ vs ∈ vss, vs.length = sz) {i j : Nat} {vs : List Value} (hi : vss[i]? = some vs) (hj : j < sz) (v : Value) : vss.flatten.set (i * sz + j) v = (vss.set i (vs.set j v)).flatten := by
  induction vss generalizing i with
  | nil => simp at hi
  | cons x r ih =>
    have hx := h x (by simp)
    cases i with
    | zero =>
      simp at hi; subst hi
      rw [Nat.zero_mul, Nat.zero_add, List.set_cons_zero, List.flatten_cons, List.flatten_cons, List.set_append, if_pos (by omega)]
    | succ i =>
      rw [List.set_cons_succ, List.flatten_cons, List.flatten_cons, List.set_append, if_neg (by rw [hx, Nat.add_mul]; omega), hx, show (i + 1) * sz + j - sz = i * sz + j by rw [Nat.add_mul]; omega, ih (fun vs hv => h vs (by simp [hv])) (by simpa using hi)]
theorem hp_set {h : List ArD} {k : Nat} {a : ArD} (hk : h[k]? = some a) (j : Nat) (hj : j < 2) (v : Value) (a' : ArD) (ha : (arCells a).set j v = arCells a') : setsL (hpCells h) (1 + (k * 2 + j)) [v] = hpCells (h.set k a') := by
  have hlt := (List.getElem?_eq_some_iff.1 hk).1
  rw [setsL_one (by rw [hp_len]; omega)]
  unfold hpCells
  rw [Nat.add_comm 1, List.set_cons_succ, flat_set ar_len (vs := arCells a) (by rw [List.getElem?_map, hk]; rfl) hj, ha, List.map_set]
theorem hp_setT {h : List ArD} {k off : Nat} {a : ArD} (hk : h[k]? = some a) (ho : off = 1 + k * 2) (v : Nat) : setsL (hpCells h) off [.int .u16 (v : Int)] = hpCells (h.set k { a with taken := v }) := by
  subst ho; exact hp_set hk 0 (by omega) _ _ rfl
theorem hp_setM {h : List ArD} {k off : Nat} {a : ArD} (hk : h[k]? = some a) (ho : off = 1 + k * 2 + 1) (v : Int) : setsL (hpCells h) off [.int .i64 v] = hpCells (h.set k { a with most := v }) := by
  subst ho; rw [Nat.add_assoc]; exact hp_set hk 1 (by omega) _ _ rfl

/-! ### Bits -/
theorem u16_bits (op : BinOp) (f : BitVec 16 → BitVec 16 → BitVec 16) (h : ∀ x y : Int, bitsV op .u16 x y = IntKind.u16.wrap ((f (BitVec.ofInt 16 x) (BitVec.ofInt 16 y)).toNat : Int)) (a b : Nat) : bitsV op .u16 (a : Int) (b : Int) = ((f (BitVec.ofNat 16 a) (BitVec.ofNat 16 b)).toNat : Int) := by
  rw [h, BitVec.ofInt_natCast, BitVec.ofInt_natCast]
  exact IntWalk.u16_in _ (by have := (f (BitVec.ofNat 16 a) (BitVec.ofNat 16 b)).isLt; omega)
theorem or_u16 {a b : Nat} (ha : a < 65536) (hb : b < 65536) : bitsV .or .u16 (a : Int) (b : Int) = ((a ||| b : Nat) : Int) := by
  rw [u16_bits .or (· ||| ·) (fun _ _ => rfl)]
  simp only [BitVec.toNat_or, BitVec.toNat_ofNat]
  rw [Nat.mod_eq_of_lt (by omega), Nat.mod_eq_of_lt (by omega)]
theorem and_u16 {a b : Nat} (ha : a < 65536) (hb : b < 65536) : bitsV .and .u16 (a : Int) (b : Int) = ((a &&& b : Nat) : Int) := by
  rw [u16_bits .and (· &&& ·) (fun _ _ => rfl)]
  simp only [BitVec.toNat_and, BitVec.toNat_ofNat]
  rw [Nat.mod_eq_of_lt (by omega), Nat.mod_eq_of_lt (by omega)]
def clrB (a b : Nat) : Nat := (BitVec.ofNat 16 a &&& ~~~ BitVec.ofNat 16 b).toNat
theorem andNot_u16 (a b : Nat) : bitsV .andNot .u16 (a : Int) (b : Int) = (clrB a b : Int) := u16_bits .andNot (fun x y => x &&& ~~~y) (fun _ _ => rfl) a b
theorem fdiv_nat (a b : Nat) : ((a : Int).fdiv (b : Int)) = ((a / b : Nat) : Int) := (Int.ofNat_fdiv a b).symm
/-- Is a block taken? -/
def bit (t i : Nat) : Bool := t / 2 ^ i % 2 == 1
theorem shr_and {t i : Nat} (ht : t < 65536) (hi : i < 16) : bitsV .and .u16 ((t : Int).fdiv (2 ^ (min ((i : Nat) : Int).toNat IntKind.u16.bits))) 1 = bI (bit t i) := by
  have h1 : min ((i : Nat) : Int).toNat IntKind.u16.bits = i := by
    show min ((i : Nat) : Int).toNat 16 = i
    rw [Int.toNat_natCast]; omega
  rw [h1, show ((2 : Int) ^ i) = ((2 ^ i : Nat) : Int) from (Int.natCast_pow 2 i).symm, fdiv_nat]
  have h2 : t / 2 ^ i < 65536 := Nat.lt_of_le_of_lt (Nat.div_le_self _ _) ht
  rw [show (1 : Int) = ((1 : Nat) : Int) from rfl, and_u16 h2 (by omega), Nat.and_one_is_mod]
  unfold bit bI
  rcases Nat.mod_two_eq_zero_or_one (t / 2 ^ i) with e | e <;> rw [e] <;> rfl
theorem shl_u16 {i : Nat} (hi : i < 12) : IntKind.u16.wrap (1 * 2 ^ (min ((i : Nat) : Int).toNat IntKind.u16.bits)) = ((2 ^ i : Nat) : Int) := by
  have h1 : min ((i : Nat) : Int).toNat IntKind.u16.bits = i := by
    show min ((i : Nat) : Int).toNat 16 = i
    rw [Int.toNat_natCast]; omega
  rw [h1, Int.one_mul, show ((2 : Int) ^ i) = ((2 ^ i : Nat) : Int) from (Int.natCast_pow 2 i).symm]
  have : 2 ^ i < 2 ^ 12 := Nat.pow_lt_pow_right (by omega) hi
  refine IntWalk.u16_in _ ⟨Int.natCast_nonneg _, ?_⟩
  omega
/-- The first block that is free. -/
def freeI (t : Nat) : Option Nat := (List.range 12).find? fun i => !bit t i
theorem freeI_some {t i : Nat} (hi : i < 12) (h : ∀ j, j < i → bit t j = true) (hb : bit t i = false) : freeI t = some i := by
  unfold freeI
  rw [List.find?_range_eq_some]
  simp only [hb, Bool.not_false, List.mem_range, Bool.not_not, true_and]
  exact ⟨hi, fun j hj => by simpa using h j hj⟩
theorem freeI_none {t : Nat} (h : ∀ j, j < 12 → bit t j = true) : freeI t = none := by
  unfold freeI
  rw [List.find?_eq_none]
  intro j hj
  simp [h j (List.mem_range.1 hj)]
theorem freeI_lt {t i : Nat} (h : freeI t = some i) : i < 12 ∧ bit t i = false := by
  unfold freeI at h
  rw [List.find?_range_eq_some] at h
  simp only [Bool.not_eq_true', List.mem_range] at h
  exact ⟨h.2.1, h.1⟩

/-! ### How many are taken -/
def popTab : List UInt8 := [0, 1, 1, 2, 1, 2, 2, 3, 1, 2, 2, 3, 2, 3, 3, 4, 1, 2, 2, 3, 2, 3, 3, 4, 2, 3, 3, 4, 3, 4, 4, 5, 1, 2, 2, 3, 2, 3, 3, 4, 2, 3, 3, 4, 3, 4, 4, 5, 2, 3, 3, 4, 3, 4, 4, 5, 3, 4, 4, 5, 4, 5, 5, 6, 1, 2, 2, 3, 2, 3, 3, 4, 2, 3, 3, 4, 3, 4, 4, 5, 2, 3, 3, 4, 3, 4, 4, 5, 3, 4, 4, 5, 4, 5, 5, 6, 2, 3, 3, 4, 3, 4, 4, 5, 3, 4, 4, 5, 4, 5, 5, 6, 3, 4, 4, 5, 4, 5, 5, 6, 4, 5, 5, 6, 5, 6, 6, 7, 1, 2, 2, 3, 2, 3, 3, 4, 2, 3, 3, 4, 3, 4, 4, 5, 2, 3, 3, 4, 3, 4, 4, 5, 3, 4, 4, 5, 4, 5, 5, 6, 2, 3, 3, 4, 3, 4, 4, 5, 3, 4, 4, 5, 4, 5, 5, 6, 3, 4, 4, 5, 4, 5, 5, 6, 4, 5, 5, 6, 5, 6, 6, 7, 2, 3, 3, 4, 3, 4, 4, 5, 3, 4, 4, 5, 4, 5, 5, 6, 3, 4, 4, 5, 4, 5, 5, 6, 4, 5, 5, 6, 5, 6, 6, 7, 3, 4, 4, 5, 4, 5, 5, 6, 4, 5, 5, 6, 5, 6, 6, 7, 4, 5, 5, 6, 5, 6, 6, 7, 5, 6, 6, 7, 6, 7, 7, 8]
def pop8 (x : Nat) : Nat := (popTab.getD x 0).toNat
def pop (t : Nat) : Nat := pop8 (t / 256) + pop8 (t % 256)
theorem pop_le : ∀ t, t < 4096 → pop t ≤ 12 := by
  have : (List.range 4096).all (fun t => pop t ≤ 12) = true := by decide +kernel
  intro t ht
  simpa using List.all_eq_true.1 this t (List.mem_range.2 ht)
theorem pop8_le (x : Nat) : pop8 x ≤ 8 := by
  have : (List.range 256).all (fun t => pop8 t ≤ 8) = true := by decide +kernel
  rcases Nat.lt_or_ge x 256 with h | h
  · simpa using List.all_eq_true.1 this x (List.mem_range.2 h)
  · have h2 : popTab.length = 256 := by decide +kernel
    unfold pop8; rw [List.getD_eq_getElem?_getD, List.getElem?_eq_none (by omega)]; decide
def baseV (k : Nat) : Int := 1 + 12 * (2 ^ k - 1)
structure WFh (h : List ArD) : Prop where
  len : h.length = 5
  ok : ∀ a ∈ h, a.taken < 4096 ∧ 0 ≤ a.most ∧ a.most ≤ 12
theorem or_lt {t i : Nat} (ht : t < 4096) (hi : i < 12) : t ||| 2 ^ i < 4096 := by
  have : 2 ^ i < 2 ^ 12 := Nat.pow_lt_pow_right (by omega) hi
  exact Nat.or_lt_two_pow (n := 12) ht (by omega)
theorem clrB_lt {t : Nat} (i : Nat) (ht : t < 4096) : clrB t i < 4096 := by
  unfold clrB
  rw [BitVec.toNat_and, BitVec.toNat_ofNat, Nat.mod_eq_of_lt (by omega)]
  exact Nat.lt_of_le_of_lt Nat.and_le_left ht
def takeA (a : ArD) (i : Nat) : ArD := ⟨a.taken ||| 2 ^ i, if a.most < (pop (a.taken ||| 2 ^ i) : Int) then (pop (a.taken ||| 2 ^ i) : Int) else a.most⟩
/-- Take: the heap behind it, the address, the error. -/
def takeH (h : List ArD) (k : Nat) : List ArD × Int × Int := match h[k]? with
  | some a => match freeI a.taken with
    | some i => (h.set k (takeA a i), baseV k + (i : Int) * 2 ^ k, 0)
    | none => (h, 0, 260)
  | none => (h, 0, 2)
theorem WFh.set {h : List ArD} (hw : WFh h) (k : Nat) {a : ArD} (ha : a.taken < 4096 ∧ 0 ≤ a.most ∧ a.most ≤ 12) : WFh (h.set k a) :=
  ⟨by rw [List.length_set]; exact hw.len, fun b hb => by
    rcases List.mem_or_eq_of_mem_set hb with h1 | h1
    · exact hw.ok b h1
    · subst h1; exact ha⟩
theorem takeA_ok {a : ArD} {i : Nat} (h : a.taken < 4096 ∧ 0 ≤ a.most ∧ a.most ≤ 12) (hi : i < 12) : (takeA a i).taken < 4096 ∧ 0 ≤ (takeA a i).most ∧ (takeA a i).most ≤ 12 := by
  have h1 := or_lt h.1 hi
  have h2 := pop_le _ h1
  refine ⟨h1, ?_, ?_⟩ <;> (simp only [takeA]; split <;> omega)
theorem takeH_wf {h : List ArD} (hw : WFh h) (k : Nat) : WFh (takeH h k).1 := by
  unfold takeH
  split
  · rename_i a ha
    split
    · rename_i i hi
      exact hw.set k (takeA_ok (hw.ok a (List.mem_of_getElem? ha)) (freeI_lt hi).1)
    · exact hw
  · exact hw
end Go.Proofs.YtddkkmdbolgnlaaDoor.Fw
namespace Go.Proofs.YtddkkmdbolgnlaaDoor.Fw
def clsI (at_ : Int) : Nat := if 181 ≤ at_ then 4 else if 85 ≤ at_ then 3 else if 37 ≤ at_ then 2 else if 13 ≤ at_ then 1 else 0
def firstV (at_ : Int) : Int := at_ - Int.tmod (at_ - baseV (clsI at_)) (2 ^ (clsI at_))
def inH (at_ : Int) : Bool := decide (1 ≤ at_) && decide (at_ ≤ 372)
theorem baseV_0 : baseV 0 = 1 := by decide
theorem baseV_1 : baseV 1 = 13 := by decide
theorem baseV_2 : baseV 2 = 37 := by decide
theorem baseV_3 : baseV 3 = 85 := by decide
theorem baseV_4 : baseV 4 = 181 := by decide
theorem baseV_5 : baseV 5 = 373 := by decide
end Go.Proofs.YtddkkmdbolgnlaaDoor.Fw
namespace Go.Proofs.YtddkkmdbolgnlaaDoor.Fw
theorem pow5 {k : Nat} (h : k ≤ 5) : 1 ≤ (2 : Int) ^ k ∧ (2 : Int) ^ k ≤ 32 := by
  obtain rfl | rfl | rfl | rfl | rfl | rfl : k = 0 ∨ k = 1 ∨ k = 2 ∨ k = 3 ∨ k = 4 ∨ k = 5 := by omega
  all_goals decide
end Go.Proofs.YtddkkmdbolgnlaaDoor.Fw
namespace Go.Proofs.YtddkkmdbolgnlaaDoor.Fw
theorem tmod_rg {x m : Int} (hx : 0 ≤ x) (hm : 0 < m) : 0 ≤ x.tmod m ∧ x.tmod m ≤ x ∧ x.tmod m < m := by
  rw [Int.tmod_eq_emod_of_nonneg hx]
  have h1 := Int.emod_nonneg x (show m ≠ 0 by omega)
  refine ⟨h1, ?_, Int.emod_lt_of_pos x hm⟩
  have h2 := Int.mul_ediv_add_emod x m
  have h3 : 0 ≤ m * (x / m) := Int.mul_nonneg (by omega) (Int.ediv_nonneg hx (by omega))
  omega
end Go.Proofs.YtddkkmdbolgnlaaDoor.Fw
namespace Go.Proofs.YtddkkmdbolgnlaaDoor.Fw
/-- The class of an address, 0 where it is none's. -/
def clsN (at_ : Int) : Nat := if inH at_ then clsI at_ else 0
def fstN (at_ : Int) : Int := if inH at_ then firstV at_ else 0
def blkN (at_ : Int) : Int := (IntKind.i64.wrap (at_ - baseV (clsN at_))).fdiv (2 ^ (min ((clsN at_ : Nat) : Int).toNat IntKind.i64.bits))
def blkOk (at_ : Int) : Bool := inH at_ && fstN at_ == at_
theorem clsI_le (at_ : Int) : clsI at_ ≤ 4 := by unfold clsI; (repeat' split) <;> omega
theorem clsN_le (at_ : Int) : clsN at_ ≤ 4 := by unfold clsN; split; exact clsI_le at_; omega
def blkI (at_ : Int) : Nat := (at_ - baseV (clsI at_)).toNat / 2 ^ clsI at_
theorem blkN_in {at_ : Int} (h : inH at_ = true) : blkN at_ = (blkI at_ : Int) ∧ blkI at_ < 12 := by
  have hr : 1 ≤ at_ ∧ at_ ≤ 372 := by simpa [inH] using h
  unfold blkN blkI clsN
  rw [h]
  simp only [if_true]
  have key : ∀ k : Nat, k ≤ 4 → 0 ≤ at_ - baseV k → at_ - baseV k < 12 * 2 ^ k → (IntKind.i64.wrap (at_ - baseV k)).fdiv (2 ^ (min ((k : Nat) : Int).toNat IntKind.i64.bits)) = (((at_ - baseV k).toNat / 2 ^ k : Nat) : Int) ∧ (at_ - baseV k).toNat / 2 ^ k < 12 := by
    intro k hk h0 h1
    have hb := pow5 (k := k) (by omega)
    have e1 : min ((k : Nat) : Int).toNat IntKind.i64.bits = k := by
      show min ((k : Nat) : Int).toNat 64 = k
      rw [Int.toNat_natCast]; omega
    rw [IntWalk.i64_in _ (by omega), e1, show ((2 : Int) ^ k) = ((2 ^ k : Nat) : Int) from (Int.natCast_pow 2 k).symm]
    obtain ⟨m, hm⟩ := Int.eq_ofNat_of_zero_le h0
    rw [hm]
    have h2 : m < 12 * 2 ^ k := by
      rw [hm, show ((2 : Int) ^ k) = ((2 ^ k : Nat) : Int) from (Int.natCast_pow 2 k).symm] at h1
      omega
    refine ⟨by rw [Int.toNat_natCast]; exact fdiv_nat m (2 ^ k), ?_⟩
    rw [Int.toNat_natCast]
    exact Nat.div_lt_of_lt_mul (by rw [Nat.mul_comm]; exact h2)
  refine key (clsI at_) (clsI_le at_) ?_ ?_
  · unfold clsI; (repeat' split) <;> simp only [baseV_0, baseV_1, baseV_2, baseV_3, baseV_4] <;> omega
  · unfold clsI; (repeat' split) <;> simp only [baseV_0, baseV_1, baseV_2, baseV_3, baseV_4] <;> omega

section
variable {mo : Md} {P : Program} {ops : Array Oper} {Q : Exit → Act → World → Prop} {rest : List Oper} {n : Nat} {ds : List Deferred} {l : List (Nat × Value)} {Γ : Env} {I : Mem} {L : List Chunk}
variable {d : Nat} {t : TypeId} {pos : String} {af : Array Edge}
theorem WL.shr_nat {T T' : TypeId} {x y : Operand} {k k' : IntKind} {m j : Nat} (hx : ev l x = some (.int k (m : Int))) (hy : ev l y = some (.int k' (j : Int))) (hd : Nat.ble (d + 1) n = true) (hj : j ≤ k.bits)
    (h : WL mo P ops Q rest n ds ((d, .int k ((m / 2 ^ j : Nat) : Int)) :: l) Γ I L) : WL mo P ops Q (⟨some d, .binOp .shr T x y T', t, pos, af, none⟩ :: rest) n ds l Γ I L :=
  WL.shr hx hy hd (by omega) (by
    rw [Int.toNat_natCast, Nat.min_eq_left hj, show ((2 : Int) ^ j) = ((2 ^ j : Nat) : Int) from (Int.natCast_pow 2 j).symm, fdiv_nat]; exact h)
theorem and255 {a : Nat} (ha : a < 4294967296) : bitsV .and .u32 (a : Int) 255 = ((a % 256 : Nat) : Int) := by
  show IntKind.u32.wrap ((BitVec.ofInt 32 (a : Int) &&& BitVec.ofInt 32 (255 : Int)).toNat : Int) = _
  rw [BitVec.ofInt_natCast, show BitVec.ofInt 32 (255 : Int) = BitVec.ofNat 32 255 from rfl, BitVec.toNat_and, BitVec.toNat_ofNat, BitVec.toNat_ofNat, Nat.mod_eq_of_lt ha, Nat.mod_eq_of_lt (by omega : 255 < 2 ^ 32),
    show (255 : Nat) = 2 ^ 8 - 1 from rfl, Nat.and_two_pow_sub_one_eq_mod]
  exact IntWalk.u32_in _ (by omega)
theorem WL.pop8 {T : TypeId} {x y : Operand} {s : ByteArray} {k : IntKind} {j : Nat} (hx : ev l x = some (.string s)) (hy : ev l y = some (.int k (j : Int))) (hT : strT P T = true) (hd : Nat.ble (d + 1) n = true) (hs : s.data.toList = popTab) (hj : j < 256)
    (h : WL mo P ops Q rest n ds ((d, .int .u8 (Fw.pop8 j : Int)) :: l) Γ I L) : WL mo P ops Q (⟨some d, .index T x y, t, pos, af, none⟩ :: rest) n ds l Γ I L :=
  WL.index_str hx hy hT hd ⟨by omega, by
    have e : s.size = popTab.length := by rw [← hs]; rfl
    have : popTab.length = 256 := by decide +kernel
    omega⟩ (by rw [hs, Int.toNat_natCast]; exact h)
/-- A part of an array by value, over several cells. -/
theorem WL.index_arr_agg {T E : TypeId} {x y : Operand} {k : IntKind} {j : Int} {m sz : Nat} {cs vs : List Value} (hx : ev l x = some (.agg cs.toArray)) (hy : ev l y = some (.int k j)) (hT : arrT P T = some (m, E)) (hs : szT P E = some sz) (ha : aggT P E = some true) (hd : Nat.ble (d + 1) n = true) (hj : 0 ≤ j ∧ j < (m : Int)) (hv : takeO sz (dropN (j.toNat * sz) cs) = some vs)
    (h : WL mo P ops Q rest n ds ((d, .agg vs.toArray) :: l) Γ I L) : WL mo P ops Q (⟨some d, .index T x y, t, pos, af, none⟩ :: rest) n ds l Γ I L :=
  WL.val hd (fun a w hf _ => by
    simp only [execOp, hf.ev hx, hf.ev hy]
    refine run_v ?_
    unfold arrT at hT
    split at hT
    · rename_i m' e hu
      injection hT with hT; injection hT with h1 h2; subst h1; subst h2
      unfold Instr.index
      simp only [run_bind, run_asIntOf, run_underlying hu, if_pos hj, run_sizeOf hs]
      unfold part
      have h3 := takeO_eq hv
      rw [dropN_eq] at h3
      have h4 := (takeO_some hv).1
      simp only [run_bind, run_isAgg ha]
      subst h3
      simp [run_sizeOf hs]
    · simp at hT) h
end
end Go.Proofs.YtddkkmdbolgnlaaDoor.Fw
namespace Go.Proofs.YtddkkmdbolgnlaaDoor.Fw
def takenV (h : List ArD) (at_ : Int) : Bool := match h[clsN at_]? with
  | some a => blkOk at_ && bit a.taken (blkI at_)
  | none => false
def giveH (h : List ArD) (at_ : Int) : List ArD := if takenV h at_ then (match h[clsN at_]? with
  | some a => h.set (clsN at_) { a with taken := clrB a.taken (2 ^ blkI at_) }
  | none => h) else h
def giveE (h : List ArD) (at_ : Int) : Int := if blkOk at_ then (if takenV h at_ then 0 else 261) else 2
theorem giveH_wf {h : List ArD} (hw : WFh h) (at_ : Int) : WFh (giveH h at_) := by
  unfold giveH
  split
  · split
    · rename_i a ha
      have := hw.ok a (List.mem_of_getElem? ha)
      exact hw.set _ ⟨clrB_lt _ this.1, this.2⟩
    · exact hw
  · exact hw
theorem blkOk_in {at_ : Int} (h : blkOk at_ = true) : inH at_ = true := by
  unfold blkOk at h; simp only [Bool.and_eq_true] at h; exact h.1
theorem bI_one (b : Bool) : (bI b == 1) = b := by cases b <;> rfl
end Go.Proofs.YtddkkmdbolgnlaaDoor.Fw
namespace Go.Proofs.YtddkkmdbolgnlaaDoor.Fw
theorem set_get {α : Type} {h : List α} {k : Nat} {a b : α} (hk : h[k]? = some a) : (h.set k b)[k]? = some b := by
  have := (List.getElem?_eq_some_iff.1 hk).1
  simp [this]
theorem pow12 {i : Nat} (hi : i < 12) : 2 ^ i < 65536 := Nat.lt_of_lt_of_le (Nat.pow_lt_pow_right (by omega) hi : 2 ^ i < 2 ^ 12) (by decide)
theorem shl_i64 {i k : Nat} (hi : i < 12) (hk : k < 5) : IntKind.i64.wrap ((i : Int) * 2 ^ (min ((k : Nat) : Int).toNat IntKind.i64.bits)) = (i : Int) * 2 ^ k := by
  have e : min ((k : Nat) : Int).toNat IntKind.i64.bits = k := by
    show min ((k : Nat) : Int).toNat 64 = k
    rw [Int.toNat_natCast]; omega
  rw [e]
  have := pow5 (k := k) (by omega)
  obtain rfl | rfl | rfl | rfl | rfl : k = 0 ∨ k = 1 ∨ k = 2 ∨ k = 3 ∨ k = 4 := by omega
  all_goals exact IntWalk.i64_in _ (by simp; omega)
theorem shl_rg {i k : Nat} (hi : i < 12) (hk : k < 5) : 0 ≤ (i : Int) * 2 ^ k ∧ (i : Int) * 2 ^ k ≤ 192 := by
  obtain rfl | rfl | rfl | rfl | rfl : k = 0 ∨ k = 1 ∨ k = 2 ∨ k = 3 ∨ k = 4 := by omega
  all_goals (simp; omega)
theorem baseV_rg {k : Nat} (hk : k ≤ 5) : 1 ≤ baseV k ∧ baseV k ≤ 373 := by
  have := pow5 hk
  unfold baseV; omega
theorem five {α : Type} {h : List α} (hl : h.length = 5) : ∃ a b c d e, h = [a, b, c, d, e] := by
  match h, hl with
  | [a, b, c, d, e], _ => exact ⟨a, b, c, d, e, rfl⟩
end Go.Proofs.YtddkkmdbolgnlaaDoor.Fw
namespace Go.Proofs.YtddkkmdbolgnlaaDoor.Fw
def heap0 : List ArD := List.replicate 5 ⟨0, 0⟩
theorem heap0_wf : WFh heap0 := ⟨rfl, fun a ha => by
  have := List.eq_of_mem_replicate ha
  subst this; decide⟩
def countsL (h : List ArD) : List Value := h.map fun a => .int .i64 (pop a.taken : Int)
theorem AtW.lit {Γ : Env} {I : Mem} {L : List Chunk} {k b : Nat} {cs : List Value} {E : TypeId} {fz : Nat × Nat} (hk : nth L k = some [(b, .cells cs.toArray E fz)]) : AtW Γ I L ⟨b, 0, none⟩ cs :=
  AtW.own hk (fun j v hj => by rw [Nat.zero_add]; exact hj)
end Go.Proofs.YtddkkmdbolgnlaaDoor.Fw

namespace Go.Proofs.YtddkkmdbolgnlaaDoor.Fw
def pan (v : Value) : List PanicEntry := [{ v, recovered := false }]
/-- A contract that tells what is returned, or with what the call panics. -/
def SpecE (P : Program) (f : FuncId) (args : List Value) (I : Mem) (C : Chunk) (R Rp : Value → Mem → Chunk → Prop) : Prop :=
  ∀ w0, I.le (memOf w0) → Own w0 (C.map Prod.fst) I C w0 → Calls P f args.toArray w0 (fun e w => ∃ v I' C', Ext w0 I (C.map Prod.fst) I' w ∧ Own w0 (C.map Prod.fst) I' C' w ∧ ((e = .returned v ∧ R v I' C') ∨ (e = .panicked (pan v) ∧ Rp v I' C')))
def RetE (Γ : Env) (R Rp : Value → Mem → Chunk → Prop) (e : Ending) (w : World) : Prop :=
  ∃ v I' C', Ext Γ.w0 Γ.I0 Γ.M I' w ∧ Own Γ.w0 Γ.M I' C' w ∧ ((e = .returned v ∧ R v I' C') ∨ (e = .panicked (pan v) ∧ Rp v I' C'))
theorem Own.top {w0 w : World} {M : List Nat} {I : Mem} {C : Chunk} {D : List Chunk} (this : Own w0 M I (C :: D).flatten w) : Own w0 M I C w := by
  simp only [List.flatten_cons] at this
  refine ⟨fun p hp => this.has p (List.mem_append_left _ hp), fun p hp => this.out p (List.mem_append_left _ hp), ?_, fun p hp => this.from_ p (List.mem_append_left _ hp)⟩
  have h1 := this.apart
  rw [List.map_append] at h1
  exact (List.nodup_append.1 h1).1

section
variable {mo : Md} {P : Program} {ops : Array Oper} {Q : Exit → Act → World → Prop} {rest : List Oper} {n : Nat} {ds : List Deferred} {l : List (Nat × Value)} {Γ : Env} {I : Mem} {L L' : List Chunk}
variable {d : Nat} {t : TypeId} {pos : String} {af : Array Edge}
theorem SpecE.intro {f : FuncId} {fn : Func} {c : Code} {args : List Value} {C : Chunk} {R Rp : Value → Mem → Chunk → Prop} (hok : P.funcs[f]? = some fn) (hb : fn.body = some c) (hn : Nat.ble args.length fn.ntmps = true)
    (h : ∀ Γ : Env, WC P c (bodyPost P fn (RetE Γ R Rp)) fn.ntmps [] (argL 0 args) Γ I [C]) : SpecE P f args I C R Rp := fun w0 hi ho => by
  refine calls_of_wp hok hb ?_
  refine h ⟨w0, I, C.map Prod.fst⟩ _ _ (Fr.start args fn.ntmps hn) ⟨Ext.start w0 I _ hi, ?_⟩
  simpa using ho
theorem WE.retE {fn : Func} {v' : Value} {R Rp : Value → Mem → Chunk → Prop} {C : Chunk} {rs : List ResultVar} {vs : List Value} (hres : fn.results = rs.toArray) (hx : ResVs P l (C :: L) rs vs) (hv : tupleOf vs = v') (h : R v' I C) :
    WE (bodyPost P fn (RetE Γ R Rp)) .ret n [] l Γ I (C :: L) := fun a w hf hs =>
  ⟨hf.defers, _, hx.run hres hf hs, v', I, C, hs.ext, hs.own.top, .inl ⟨by rw [hv], h⟩⟩
theorem WE.endE {fn : Func} {v' : Value} {R Rp : Value → Mem → Chunk → Prop} {C : Chunk} {rs : List ResultVar} {vs : List Value} (hres : fn.results = rs.toArray) (hx : ResVs P l (C :: L) rs vs) (hv : tupleOf vs = v') (h : R v' I C) :
    WE (bodyPost P fn (RetE Γ R Rp)) .normal n [] l Γ I (C :: L) := fun a w hf hs => WE.retE hres hx hv h a w hf hs
theorem WE.panicE {fn : Func} {v : Value} {R Rp : Value → Mem → Chunk → Prop} {C : Chunk} (h : Rp v I C) : WE (bodyPost P fn (RetE Γ R Rp)) (.panic (pan v)) n [] l Γ I (C :: L) := fun a w hf hs =>
  ⟨hf.defers, v, I, C, hs.ext, hs.own.top, .inr ⟨rfl, h⟩⟩
theorem WE.then_panic {c : List PanicEntry} {nx : Act → World → Prop} (h : WE Q (.panic c) n ds l Γ I L) : WE (Exit.then nx Q) (.panic c) n ds l Γ I L := h
theorem WE.block_panic {c : List PanicEntry} {id : Nat} (h : WE Q (.panic c) n ds l Γ I L) : WE (Exit.inBlock id Q) (.panic c) n ds l Γ I L := h

/-- A call that may panic. -/
theorem WL.callE {dd : Option Nat} {f : FuncId} {fn : Func} {args : List Value} {xs : List Operand} {Ts : Array TypeId} {C : Chunk} {R Rp : Value → Mem → Chunk → Prop} (hok : okFn P f fn)
    (ha : evs l xs = some args) (hd : okD n dd = true) (hspec : SpecE P f args I C R Rp)
    (h : ∀ v I' C', I.le I' → R v I' C' → WL .seq P ops Q rest n ds (putL l dd v) Γ I' (C' :: L))
    (hp : ∀ v I' C', I.le I' → Rp v I' C' → WE Q (.panic (pan v)) n ds l Γ I' (C' :: L)) : WL .seq P ops Q (⟨dd, .call { callee := .value (.func f), args := xs.toArray, argTypes := Ts }, t, pos, af, none⟩ :: rest) n ds l Γ I (C :: L) := fun a w hf hs => by
  refine wpList_plain rfl fun K hK => ?_
  unfold Oper.wp
  simp only [execOp]
  rw [run_callValue (first := []) (cap := []) (args := args) (x := .func f) hok rfl rfl (hf.evs ha)]
  simp only [List.nil_append, List.append_nil]
  refine (hspec w hs.ext.imm hs.own.head).mono fun e w' ⟨v, I', C', hx', ho', hr⟩ => ?_
  rcases hr with ⟨rfl, hr⟩ | ⟨rfl, hr⟩
  · exact hK _ _ (h v I' C' hx'.le0 hr _ _ (hf.putO hd v) (hs.call hx' ho'))
  · exact hp v I' C' hx'.le0 hr _ _ hf (hs.call hx' ho')
/-- A call of which nothing is kept, or something. -/
theorem WL.callS {dd : Option Nat} {f : FuncId} {fn : Func} {args : List Value} {xs : List Operand} {Ts : Array TypeId} {C : Chunk} {R : Value → Mem → Chunk → Prop} (hok : okFn P f fn)
    (ha : evs l xs = some args) (hd : okD n dd = true) (hspec : Spec P f args I C R)
    (h : ∀ v I' C', I.le I' → R v I' C' → WL .seq P ops Q rest n ds (putL l dd v) Γ I' (C' :: L)) : WL .seq P ops Q (⟨dd, .call { callee := .value (.func f), args := xs.toArray, argTypes := Ts }, t, pos, af, none⟩ :: rest) n ds l Γ I (C :: L) := fun a w hf hs => by
  refine wpList_plain rfl fun K hK => ?_
  unfold Oper.wp
  simp only [execOp]
  rw [run_callValue (first := []) (cap := []) (args := args) (x := .func f) hok rfl rfl (hf.evs ha)]
  simp only [List.nil_append, List.append_nil]
  refine (hspec w hs.ext.imm hs.own.head).mono fun e w' ⟨v, I', C', he, hx', ho', hr⟩ => ?_
  subst he
  exact hK _ _ (h v I' C' hx'.le0 hr _ _ (hf.putO hd v) (hs.call hx' ho'))
/-- 'panic(x)'. -/
theorem WL.panic {x : Operand} {T : TypeId} {v : Value} (hx : ev l x = some (.iface T v)) (h : WE Q (.panic (pan (.iface T v))) n ds l Γ I L) : WL .seq P ops Q (⟨none, .panic x, t, pos, af, none⟩ :: rest) n ds l Γ I L := fun a w hf hs => by
  refine wpList_plain rfl fun K hK => ?_
  unfold Oper.wp
  have : (execOp a.eval ⟨none, .panic x, t, pos, af, none⟩).run P w = .halt (.panic (.iface T v)) w := by
    simp only [execOp, hf.ev hx]
    rfl
  rw [this]
  exact h a w hf hs
def notIface (P : Program) (T : TypeId) : Bool := match P.underlying T with
  | some (.interface _) => false
  | some _ => true
  | none => false
theorem WL.iface {T : TypeId} {x : Operand} {v : Value} (hx : ev l x = some v) (hT : notIface P T = true) (hd : Nat.ble (d + 1) n = true) (h : WL mo P ops Q rest n ds ((d, .iface T v) :: l) Γ I L) :
    WL mo P ops Q (⟨some d, .makeInterface T x, t, pos, af, none⟩ :: rest) n ds l Γ I L :=
  WL.val hd (fun a w hf _ => by
    simp only [execOp, hf.ev hx]
    refine run_v ?_
    unfold notIface at hT
    unfold Instr.makeInterface
    split at hT
    · simp at hT
    · rename_i u hne hu
      rw [run_bind, run_underlying hu]
      cases u <;> first | rfl | (rename_i m; exact absurd rfl (hne m))
    · simp at hT) h

/-! ### Chunks regrouped -/
theorem St.eq_of_flat (h : L'.flatten = L.flatten) : St Γ I L' = St Γ I L := by
  funext w
  refine propext ⟨fun hs => ⟨hs.ext, h ▸ hs.own⟩, fun hs => ⟨hs.ext, h ▸ hs.own⟩⟩
theorem WL.regroup (L' : List Chunk) (hf : L'.flatten = L.flatten) (h : WL mo P ops Q rest n ds l Γ I L') : WL mo P ops Q rest n ds l Γ I L := by
  have e := St.eq_of_flat (Γ := Γ) (I := I) hf
  unfold WL at h ⊢
  rw [← e]
  exact h
theorem WC.regroup {c : Code} (L' : List Chunk) (hf : L'.flatten = L.flatten) (h : WC P c Q n ds l Γ I L') : WC P c Q n ds l Γ I L := by
  have e := St.eq_of_flat (Γ := Γ) (I := I) hf
  unfold WC at h ⊢
  rw [← e]
  exact h
theorem WE.regroup {e : Exit} (L' : List Chunk) (hf : L'.flatten = L.flatten) (h : WE Q e n ds l Γ I L') : WE Q e n ds l Γ I L := by
  have e := St.eq_of_flat (Γ := Γ) (I := I) hf
  unfold WE at h ⊢
  rw [← e]
  exact h
end
end Go.Proofs.YtddkkmdbolgnlaaDoor.Fw

namespace Go.Proofs.YtddkkmdbolgnlaaDoor.Fw
/-- A machine's cells. -/
structure MV where
  v1 : Value
  v2 : Value
  v3 : Value
  main : Value
  hp : Value
  wv : Value
  regs : List Value
  at_ : Value
  fn : Value
  frame : Value
  cv : Value
  iv : Value
  kind : Value
  ans : Value
  trap : Value
  why : Value
  pv : Value
  steps : Value
def mc (x : MV) : List Value := [x.v1, x.v2, x.v3, x.main, x.hp, x.wv] ++ (x.regs ++ [x.at_, x.fn, x.frame, x.cv, x.iv, x.kind, x.ans, x.trap, x.why, x.pv, x.steps])
theorem mc_len {x : MV} (h : x.regs.length = 16) : (mc x).length = 33 := by simp [mc, h]
theorem mc_lo {x : MV} {o : Nat} (h : o < 6) : nth (mc x) o = nth [x.v1, x.v2, x.v3, x.main, x.hp, x.wv] o := by
  rw [nth_eq, nth_eq]; unfold mc; rw [List.getElem?_append_left (by simpa using h)]
theorem mc_hi {x : MV} (hr : x.regs.length = 16) (j : Nat) : nth (mc x) (22 + j) = nth [x.at_, x.fn, x.frame, x.cv, x.iv, x.kind, x.ans, x.trap, x.why, x.pv, x.steps] j := by
  rw [nth_eq, nth_eq]; unfold mc
  rw [List.getElem?_append_right (by simp; omega), List.getElem?_append_right (by simp [hr]; omega)]
  congr 1; simp [hr]; omega
theorem mc_reg {x : MV} (hr : x.regs.length = 16) {i : Nat} (hi : i < 16) : nth (mc x) (6 + i) = x.regs[i]? := by
  rw [nth_eq]; unfold mc
  rw [List.getElem?_append_right (by simp), List.getElem?_append_left (by simp [hr]; omega)]
  congr 1; simp
theorem mcs_lo {x : MV} {o : Nat} {v : Value} (h : o < 6) (hr : x.regs.length = 16) : setsL (mc x) o [v] = [x.v1, x.v2, x.v3, x.main, x.hp, x.wv].set o v ++ (x.regs ++ [x.at_, x.fn, x.frame, x.cv, x.iv, x.kind, x.ans, x.trap, x.why, x.pv, x.steps]) := by
  rw [setsL_one (by rw [mc_len hr]; omega)]; unfold mc; rw [List.set_append_left _ _ (by simpa using h)]
theorem mcs_hi {x : MV} (j : Nat) {v : Value} (hj : j < 11) (hr : x.regs.length = 16) : setsL (mc x) (22 + j) [v] = [x.v1, x.v2, x.v3, x.main, x.hp, x.wv] ++ (x.regs ++ [x.at_, x.fn, x.frame, x.cv, x.iv, x.kind, x.ans, x.trap, x.why, x.pv, x.steps].set j v) := by
  rw [setsL_one (by rw [mc_len hr]; omega)]; unfold mc
  rw [List.set_append_right _ _ (by simp; omega), List.set_append_right _ _ (by simp [hr]; omega)]
  congr 3; simp [hr]; omega
theorem mcs_reg {x : MV} {i : Nat} {v : Value} (hi : i < 16) (hr : x.regs.length = 16) : setsL (mc x) (6 + i) [v] = mc { x with regs := x.regs.set i v } := by
  rw [setsL_one (by rw [mc_len hr]; omega)]; unfold mc
  rw [List.set_append_right _ _ (by simp), List.set_append_left _ _ (by simp [hr]; omega)]
  congr 3; simp
section
variable {x : MV} {v : Value} (hr : x.regs.length = 16)
include hr
theorem mcs5 : setsL (mc x) 5 [v] = mc { x with wv := v } := by rw [mcs_lo (by omega) hr]; rfl
theorem mcs22 : setsL (mc x) 22 [v] = mc { x with at_ := v } := by rw [mcs_hi 0 (by omega) hr]; rfl
theorem mcs23 : setsL (mc x) 23 [v] = mc { x with fn := v } := by rw [mcs_hi 1 (by omega) hr]; rfl
theorem mcs24 : setsL (mc x) 24 [v] = mc { x with frame := v } := by rw [mcs_hi 2 (by omega) hr]; rfl
theorem mcs25 : setsL (mc x) 25 [v] = mc { x with cv := v } := by rw [mcs_hi 3 (by omega) hr]; rfl
theorem mcs26 : setsL (mc x) 26 [v] = mc { x with iv := v } := by rw [mcs_hi 4 (by omega) hr]; rfl
theorem mcs27 : setsL (mc x) 27 [v] = mc { x with kind := v } := by rw [mcs_hi 5 (by omega) hr]; rfl
theorem mcs28 : setsL (mc x) 28 [v] = mc { x with ans := v } := by rw [mcs_hi 6 (by omega) hr]; rfl
theorem mcs29 : setsL (mc x) 29 [v] = mc { x with trap := v } := by rw [mcs_hi 7 (by omega) hr]; rfl
theorem mcs31 : setsL (mc x) 31 [v] = mc { x with pv := v } := by rw [mcs_hi 9 (by omega) hr]; rfl
theorem mcs32 : setsL (mc x) 32 [v] = mc { x with steps := v } := by rw [mcs_hi 10 (by omega) hr]; rfl
theorem mc22 : nth (mc x) 22 = some x.at_ := mc_hi hr 0
theorem mc23 : nth (mc x) 23 = some x.fn := mc_hi hr 1
theorem mc24 : nth (mc x) 24 = some x.frame := mc_hi hr 2
theorem mc25 : nth (mc x) 25 = some x.cv := mc_hi hr 3
theorem mc26 : nth (mc x) 26 = some x.iv := mc_hi hr 4
theorem mc27 : nth (mc x) 27 = some x.kind := mc_hi hr 5
theorem mc28 : nth (mc x) 28 = some x.ans := mc_hi hr 6
theorem mc29 : nth (mc x) 29 = some x.trap := mc_hi hr 7
theorem mc31 : nth (mc x) 31 = some x.pv := mc_hi hr 9
theorem mc32 : nth (mc x) 32 = some x.steps := mc_hi hr 10
omit hr
theorem mc0 : nth (mc x) 0 = some x.v1 := rfl
theorem mc1 : nth (mc x) 1 = some x.v2 := rfl
theorem mc2 : nth (mc x) 2 = some x.v3 := rfl
theorem mc3 : nth (mc x) 3 = some x.main := rfl
theorem mc4 : nth (mc x) 4 = some x.hp := rfl
theorem mc5 : nth (mc x) 5 = some x.wv := rfl
end

/-! ### The machine as data -/
structure MachD where
  words : List Int
  regs : List Int
  at_ : Int
  fn : Int
  frame : Int
  calls : List (Int × Int × Int)
  input : List Int
  kind : Int
  answer : Int
  trap : Int
  printed : List Int
  steps : Int
  heap : List ArD
def ints (l : List Int) : List Value := l.map (Value.int .i64)
theorem ints_len (l : List Int) : (ints l).length = l.length := by simp [ints]
theorem ints_one (l : List Int) : (ints l).all one1 = true := by
  rw [List.all_eq_true]; intro v hv; obtain ⟨i, _, rfl⟩ := List.mem_map.1 hv; rfl
def callRow (c : Int × Int × Int) : List Value := [.int .i64 c.1, .int .i64 c.2.1, .int .i64 c.2.2]
def callCells (l : List (Int × Int × Int)) : List Value := (l.map callRow).flatten
theorem callCells_row {l : List (Int × Int × Int)} : ∀ vs ∈ l.map callRow, vs.length = 3 := fun vs hv => by
  obtain ⟨c, _, rfl⟩ := List.mem_map.1 hv; rfl
theorem callCells_len (l : List (Int × Int × Int)) : (callCells l).length = l.length * 3 := by
  unfold callCells; rw [flat_len callCells_row, List.length_map]
theorem callCells_one (l : List (Int × Int × Int)) : (callCells l).all one1 = true := by
  rw [List.all_eq_true]; intro v hv
  obtain ⟨vs, h1, h2⟩ := List.mem_flatten.1 hv
  obtain ⟨c, _, rfl⟩ := List.mem_map.1 h1
  simp only [callRow, List.mem_cons, List.not_mem_nil, or_false] at h2
  rcases h2 with rfl | rfl | rfl <;> rfl

/-- The values that lead to a machine's parts. -/
structure MH where
  v1 : Value
  v2 : Value
  v3 : Value
  bh : Nat
  Aw : Option Addr
  kw : Nat
  Ac : Option Addr
  kc : Nat
  Ai : Option Addr
  ki : Nat
  Ap : Option Addr
  kp : Nat
def mvOf (h : MH) (main : Int) (m : MachD) : MV :=
  ⟨h.v1, h.v2, h.v3, .int .i64 main, .pointer (some ⟨h.bh, 0, none⟩), .slice h.Aw m.words.length h.kw, ints m.regs, .int .i64 m.at_, .int .i64 m.fn, .int .i64 m.frame, .slice h.Ac m.calls.length h.kc, .slice h.Ai m.input.length h.ki,
   .int .u8 m.kind, .int .i64 m.answer, .int .u8 m.trap, .int .u8 0, .slice h.Ap m.printed.length h.kp, .int .i64 m.steps⟩
/-- A machine's five chunks. -/
structure MC5 (I : Mem) (c : CodeD) (h : MH) (m : MachD) (Cw Cc Cp : Chunk) : Prop where
  code : CodeC I c h.v1 h.v2 h.v3
  words : SlO 1 (ints m.words) h.Aw h.kw Cw
  calls : SlO 3 (callCells m.calls) h.Ac h.kc Cc
  printed : SlO 1 (ints m.printed) h.Ap h.kp Cp
  input : SrcO I [] h.Ai (ints m.input)
  inNil : h.Ai = none → m.input = []
  inLen : m.input.length ≤ h.ki
/-- What holds of every machine. -/
structure WFm (c : CodeD) (m : MachD) : Prop where
  may : MayW c
  regs : m.regs.length = 16
  rg : ∀ r ∈ m.regs, Rg r
  wrg : ∀ r ∈ m.words, Rg r
  wlen : m.words.length ≤ 524661
  at0 : 0 ≤ m.at_
  at1 : m.at_ < c.list.length
  fn0 : 0 ≤ m.fn
  fn1 : m.fn < c.fns.length
  inFn : m.kind = 1 → ∀ f, c.fns[m.fn.toNat]? = some f → f.begin_ ≤ m.at_ ∧ m.at_ < endI c m.fn
  clen : m.calls.length ≤ 31
  frame0 : 373 ≤ m.frame
  frame1 : m.frame ≤ 373 + m.calls.length * 16384
  call : ∀ (i : Nat) (x : Int × Int × Int), m.calls[i]? = some x → (373 ≤ x.2.1 ∧ x.2.1 ≤ 373 + (i : Int) * 16384) ∧ (0 ≤ x.2.2 ∧ x.2.2 < c.fns.length) ∧ (∀ f, c.fns[x.2.2.toNat]? = some f → f.begin_ ≤ x.1 ∧ x.1 < endI c x.2.2)
  irg : ∀ r ∈ m.input, Rg r
  ilen : m.input.length ≤ 4096
  prg : ∀ r ∈ m.printed, Rg r
  plen : (m.printed.length : Int) ≤ m.steps
  kind : m.kind = 1 ∨ m.kind = 2 ∨ m.kind = 3
  arg : Rg m.answer
  trap : 0 ≤ m.trap ∧ m.trap ≤ 255
  steps0 : 0 ≤ m.steps
  heap : WFh m.heap
def mcObj (bm E : Nat) (x : MV) : Chunk := [(bm, .cells (mc x).toArray E (0, 0))]
def hpObj (bh E : Nat) (h : List ArD) : Chunk := [(bh, .cells (hpCells h).toArray E (0, 0))]
/-- All of a machine's memory, as one chunk. -/
def MC (I : Mem) (c : CodeD) (m : MachD) (bm Em Eh : Nat) (C : Chunk) : Prop :=
  ∃ h Cw Cc Cp, MC5 I c h m Cw Cc Cp ∧ C = mcObj bm Em (mvOf h c.main m) ++ (Cw ++ (hpObj h.bh Eh m.heap ++ (Cc ++ Cp)))
end Go.Proofs.YtddkkmdbolgnlaaDoor.Fw

namespace Go.Proofs.YtddkkmdbolgnlaaDoor.Fw
section
variable {mo : Md} {P : Program} {ops : Array Oper} {Q : Exit → Act → World → Prop} {rest : List Oper} {n : Nat} {ds : List Deferred} {l : List (Nat × Value)} {Γ : Env} {I : Mem} {L L' : List Chunk}
variable {d : Nat} {t : TypeId} {pos : String} {af : Array Edge}
/-- A store to a machine's field. -/
theorem WL.store_mc (k : Nat) {T : TypeId} {x y : Operand} {b off : Nat} {m m' : MV} {E : TypeId} {v : Value} (hx : ev l x = some (.pointer (some ⟨b, off, none⟩))) (hy : ev l y = some v) (hk : nth L k = some [(b, .cells (mc m).toArray E (0, 0))])
    (hvs : cellsO v = some [v]) (hm : szT P T = some 1) (hone : one1 v = true) (hr : m.regs.length = 16) (hoff : Nat.ble (off + 1) 33 = true) (hset : setsL (mc m) off [v] = mc m')
    (hL : setO L k [(b, .cells (mc m').toArray E (0, 0))] = some L') (h : WL .seq P ops Q rest n ds l Γ I L') : WL .seq P ops Q (⟨none, .store T x y, t, pos, af, none⟩ :: rest) n ds l Γ I L :=
  WL.store_at k hx hy hk hvs hm rfl (by simp [hone]) (by rw [mc_len hr]; have := Nat.le_of_ble_eq_true hoff; simpa using this) (by rw [hset]; exact hL) h
end
/-- A word; 0 where none was written. -/
def wordM (ws : List Int) (a : Int) : Int := if a < 1 ∨ (ws.length : Int) ≤ a then 0 else ws.getD a.toNat 0
def setM (ws : List Int) (a v : Int) : List Int :=
  if a < 1 ∨ 524661 ≤ a ∨ (v = 0 ∧ (ws.length : Int) ≤ a) then ws
  else if (ws.length : Int) ≤ a then ws ++ List.replicate (a.toNat - ws.length) 0 ++ [v] else ws.set a.toNat v
theorem ints_get {ws : List Int} {i : Nat} {v : Int} (h : ws[i]? = some v) (pad : List Value) : nth (ints ws ++ pad) i = some (.int .i64 v) := by
  rw [nth_eq, List.getElem?_append_left (by rw [ints_len]; exact (List.getElem?_eq_some_iff.1 h).1)]
  simp [ints, h]
theorem zerosL_int (m : Nat) : zerosL [Value.int .i64 0] m = ints (List.replicate m 0) := by rw [zerosL_one]; simp [ints]
theorem ints_app (a b : List Int) : ints (a ++ b) = ints a ++ ints b := by simp [ints]
end Go.Proofs.YtddkkmdbolgnlaaDoor.Fw
namespace Go.Proofs.YtddkkmdbolgnlaaDoor.Fw
theorem sliceV_at {b cap lo hi : Nat} (h : lo < cap) : sliceV (some ⟨b, 0, none⟩) cap 1 lo hi = .slice (some ⟨b, lo, none⟩) (hi - lo) (cap - lo) := by
  unfold sliceV
  rw [if_neg (by omega), Option.map_some, add_at, Nat.zero_add, Nat.mul_one]
theorem clear_eq {ws : List Int} {pad : List Value} {q : Nat} (h : q ≤ pad.length) : setsL (ints ws ++ pad) ws.length (zerosL [Value.int .i64 0] q) = ints (ws ++ List.replicate q 0) ++ pad.drop q := by
  rw [zerosL_int]
  unfold setsL
  have h1 : (ints ws).length = ws.length := ints_len ws
  rw [ints_app, ints_len, List.length_replicate]
  rw [← h1, List.take_left, List.drop_append, List.drop_of_length_le (by omega), List.nil_append]
  congr 2; omega
theorem set_ints {ws : List Int} {pad : List Value} {i : Nat} {v : Int} (h : i < ws.length) : setsL (ints ws ++ pad) i [Value.int .i64 v] = ints (ws.set i v) ++ pad := by
  rw [setsL_one (by rw [List.length_append, ints_len]; omega), List.set_append_left _ _ (by rw [ints_len]; exact h)]
  congr 1
  simp [ints, List.map_set]
theorem setM_grow {ws : List Int} {a v : Int} (h1 : 1 ≤ a) (h2 : a < 524661) (h3 : ¬ (v = 0 ∧ (ws.length : Int) ≤ a)) (h4 : (ws.length : Int) ≤ a) : (ws ++ List.replicate (a.toNat + 1 - ws.length) 0).set a.toNat v = setM ws a v := by
  unfold setM
  rw [if_neg (by omega), if_pos h4, List.set_append_right _ _ (by omega), List.append_assoc]
  congr 1
  rw [show a.toNat + 1 - ws.length = (a.toNat - ws.length) + 1 by omega, List.replicate_succ', List.set_append_right _ _ (by simp)]
  simp
theorem setM_in {ws : List Int} {a v : Int} (h1 : 1 ≤ a) (h2 : a < 524661) (h4 : a < (ws.length : Int)) : ws.set a.toNat v = setM ws a v := by
  unfold setM
  rw [if_neg (by omega), if_neg (by omega)]
theorem setM_no {ws : List Int} {a v : Int} (h : a < 1 ∨ 524661 ≤ a ∨ (v = 0 ∧ (ws.length : Int) ≤ a)) : setM ws a v = ws := by unfold setM; rw [if_pos h]
theorem SlO.mk_ints {ws : List Int} {b : Nat} {pad : List Value} {E cap : Nat} (h : ws.length + pad.length = cap) (hc : cap ≤ 9223372036854775807) : SlO 1 (ints ws) (some ⟨b, 0, none⟩) cap [(b, .cells (ints ws ++ pad).toArray E (0, 0))] :=
  .inr ⟨b, pad, E, rfl, rfl, by rw [ints_len]; omega, hc⟩
end Go.Proofs.YtddkkmdbolgnlaaDoor.Fw
namespace Go.Proofs.YtddkkmdbolgnlaaDoor.Fw
theorem setM_len_grow {ws : List Int} {a v : Int} (h1 : 1 ≤ a) (h2 : a < 524661) (h3 : ¬ (v = 0 ∧ (ws.length : Int) ≤ a)) (h4 : (ws.length : Int) ≤ a) : (setM ws a v).length = a.toNat + 1 := by
  rw [← setM_grow h1 h2 h3 h4]; simp; omega
theorem setM_len_in {ws : List Int} {a v : Int} (h1 : 1 ≤ a) (h2 : a < 524661) (h4 : a < (ws.length : Int)) : (setM ws a v).length = ws.length := by
  rw [← setM_in h1 h2 h4]; simp
end Go.Proofs.YtddkkmdbolgnlaaDoor.Fw
namespace Go.Proofs.YtddkkmdbolgnlaaDoor.Fw
/-- What wrapping does to a number that is not far out of range. -/
theorem wrap64 {x : Int} (h : -18446744073709551616 ≤ x ∧ x ≤ 18446744073709551615) : ∃ c, IntKind.i64.wrap x = c ∧ (-9223372036854775808 ≤ c ∧ c ≤ 9223372036854775807) ∧ (c = x ∨ c = x - 18446744073709551616 ∨ c = x + 18446744073709551616) := by
  refine ⟨_, rfl, ?_⟩
  have h1 : IntKind.i64.wrap x = if x < -9223372036854775808 then x + 18446744073709551616 else if 9223372036854775807 < x then x - 18446744073709551616 else x := by
    split
    · have := IntWalk.i64_in (x + 18446744073709551616) (by omega)
      rw [← this]
      simp only [IntKind.wrap, IntKind.bits, IntKind.signed]
      simp
    · split
      · have := IntWalk.i64_in (x - 18446744073709551616) (by omega)
        rw [← this]
        simp only [IntKind.wrap, IntKind.bits, IntKind.signed]
        simp
      · exact IntWalk.i64_in x (by omega)
  rw [h1]
  split
  · omega
  · split <;> omega
end Go.Proofs.YtddkkmdbolgnlaaDoor.Fw

namespace Go.Proofs.YtddkkmdbolgnlaaDoor.Fw
/-- What a trap panics with. -/
def stopV (T : TypeId) (t : Int) : Value := .iface T (.agg [.int .u8 t].toArray)
/-- What a call that may trap says: the number, or the trap. -/
def OkR (v0 : Value) : Value → Mem → Mem → Chunk → Prop := fun v I I' C' => v = v0 ∧ I' = I ∧ C' = []
end Go.Proofs.YtddkkmdbolgnlaaDoor.Fw
namespace Go.Proofs.YtddkkmdbolgnlaaDoor.Fw
theorem tdiv_rg {a b : Int} (ha : Rg a) (hb : b ≠ 0) (h : ¬ (b = -1 ∧ a = -9223372036854775808)) : Rg (a.tdiv b) := by
  unfold Rg at *
  rcases Int.lt_trichotomy b 0 with hlt | he | hgt
  · rcases (by omega : b < -1 ∨ -1 ≤ b) with h1 | h1
    · have h2 : (a.tdiv b).natAbs = a.natAbs / b.natAbs := Int.natAbs_tdiv a b
      have h3 : a.natAbs / b.natAbs ≤ a.natAbs / 2 := Nat.div_le_div_left (by omega) (by omega)
      omega
    · have : b = -1 := by omega
      subst this
      have h2 : (a.tdiv (-1)).natAbs = a.natAbs / 1 := Int.natAbs_tdiv a (-1)
      rw [Nat.div_one] at h2
      omega
  · exact absurd he hb
  · have h2 : (a.tdiv b).natAbs = a.natAbs / b.natAbs := Int.natAbs_tdiv a b
    have h3 : a.natAbs / b.natAbs ≤ a.natAbs := Nat.div_le_self _ _
    rcases (by omega : a < 0 ∨ 0 ≤ a) with h4 | h4
    · have h5 : a.tdiv b ≤ 0 := by
        have : 0 ≤ (-a).tdiv b := Int.tdiv_nonneg (by omega) (by omega)
        rw [Int.neg_tdiv] at this
        omega
      omega
    · have h5 : 0 ≤ a.tdiv b := Int.tdiv_nonneg h4 (by omega)
      omega
end Go.Proofs.YtddkkmdbolgnlaaDoor.Fw

namespace Go.Proofs.YtddkkmdbolgnlaaDoor.Fw
theorem and_u64 {a : Nat} (ha : a < 18446744073709551616) : bitsV .and .u64 (a : Int) 4294967295 = ((a % 4294967296 : Nat) : Int) := by
  show IntKind.u64.wrap ((BitVec.ofInt 64 (a : Int) &&& BitVec.ofInt 64 (4294967295 : Int)).toNat : Int) = _
  rw [BitVec.ofInt_natCast, show BitVec.ofInt 64 (4294967295 : Int) = BitVec.ofNat 64 4294967295 from rfl, BitVec.toNat_and, BitVec.toNat_ofNat, BitVec.toNat_ofNat, Nat.mod_eq_of_lt ha, Nat.mod_eq_of_lt (by omega : 4294967295 < 2 ^ 64),
    show (4294967295 : Nat) = 2 ^ 32 - 1 from rfl, Nat.and_two_pow_sub_one_eq_mod]
  exact IntWalk.u64_in _ (by omega)
theorem mul32 {a b : Nat} (ha : a < 4294967296) (hb : b < 4294967296) : a * b ≤ 18446744065119617025 := Nat.le_trans (Nat.mul_le_mul (by omega : a ≤ 4294967295) (by omega : b ≤ 4294967295)) (by decide)
theorem mul_u64 {a b : Nat} (ha : a < 4294967296) (hb : b < 4294967296) : IntKind.u64.wrap ((a : Int) * (b : Int)) = ((a * b : Nat) : Int) := by
  have := mul32 ha hb
  rw [← Int.natCast_mul]
  exact IntWalk.u64_in _ (by omega)
theorem add_u64 {a b : Nat} (h : a + b < 18446744073709551616) : IntKind.u64.wrap ((a : Int) + (b : Int)) = ((a + b : Nat) : Int) := by
  rw [← Int.natCast_add]
  exact IntWalk.u64_in _ (by omega)
theorem mulW_u64 (a b : Nat) : IntKind.u64.wrap ((a : Int) * (b : Int)) = ((a * b % 18446744073709551616 : Nat) : Int) := by
  rw [← Int.natCast_mul]
  simp only [IntKind.wrap, IntKind.bits, IntKind.signed]
  simp
theorem mul64_hi {x y : Nat} : (x / 4294967296) * (y / 4294967296) + ((x / 4294967296) * (y % 4294967296) + (x % 4294967296) * (y % 4294967296) / 4294967296) / 4294967296 + (((x / 4294967296) * (y % 4294967296) + (x % 4294967296) * (y % 4294967296) / 4294967296) % 4294967296 + (x % 4294967296) * (y / 4294967296)) / 4294967296 = x * y / 18446744073709551616 := by
  have e : x * y = ((x / 4294967296) * (y / 4294967296)) * 18446744073709551616 + ((x / 4294967296) * (y % 4294967296) + (x % 4294967296) * (y / 4294967296)) * 4294967296 + (x % 4294967296) * (y % 4294967296) := by
    have hx : x = x / 4294967296 * 4294967296 + x % 4294967296 := by omega
    have hy : y = y / 4294967296 * 4294967296 + y % 4294967296 := by omega
    generalize x / 4294967296 = x1 at *
    generalize x % 4294967296 = x0 at *
    generalize y / 4294967296 = y1 at *
    generalize y % 4294967296 = y0 at *
    subst hx; subst hy
    simp only [Nat.add_mul, Nat.mul_add]
    have a1 : x1 * 4294967296 * (y1 * 4294967296) = x1 * y1 * 18446744073709551616 := by
      rw [Nat.mul_mul_mul_comm]
    have a2 : x0 * (y1 * 4294967296) = x0 * y1 * 4294967296 := by rw [Nat.mul_assoc]
    have a3 : x1 * 4294967296 * y0 = x1 * y0 * 4294967296 := by rw [Nat.mul_assoc, Nat.mul_comm 4294967296, ← Nat.mul_assoc]
    omega
  rw [e]
  generalize (x / 4294967296) * (y / 4294967296) = p11
  generalize (x / 4294967296) * (y % 4294967296) = p10
  generalize (x % 4294967296) * (y / 4294967296) = p01
  generalize (x % 4294967296) * (y % 4294967296) = p00
  omega
end Go.Proofs.YtddkkmdbolgnlaaDoor.Fw
namespace Go.Proofs.YtddkkmdbolgnlaaDoor.Fw
theorem natAbs_lt {a : Int} (h : Rg a) : a.natAbs < 18446744073709551616 := by unfold Rg at h; omega
theorem mulAbs (a b : Int) : ∃ (N : Nat) (p : Int), a.natAbs * b.natAbs = N ∧ a * b = p ∧ ((decide (a < 0) != decide (b < 0)) = true → p = -(N : Int)) ∧ ((decide (a < 0) != decide (b < 0)) = false → p = N) := by
  refine ⟨_, _, rfl, rfl, fun h => ?_, fun h => ?_⟩
  · rw [← Int.natAbs_mul]
    have : a * b ≤ 0 := by
      rcases (by omega : a < 0 ∨ 0 ≤ a) with h1 | h1 <;> rcases (by omega : b < 0 ∨ 0 ≤ b) with h2 | h2
      · simp [h1, h2] at h
      · exact Int.mul_nonpos_of_nonpos_of_nonneg (by omega) h2
      · exact Int.mul_nonpos_of_nonneg_of_nonpos h1 (by omega)
      · have h3 : ¬ a < 0 := by omega
        have h4 : ¬ b < 0 := by omega
        simp [h3, h4] at h
    omega
  · rw [← Int.natAbs_mul]
    have : 0 ≤ a * b := by
      rcases (by omega : a < 0 ∨ 0 ≤ a) with h1 | h1 <;> rcases (by omega : b < 0 ∨ 0 ≤ b) with h2 | h2
      · exact Int.mul_nonneg_of_nonpos_of_nonpos (by omega) (by omega)
      · have h4 : ¬ b < 0 := by omega
        simp [h1, h4] at h
      · have h3 : ¬ a < 0 := by omega
        simp [h3, h2] at h
      · exact Int.mul_nonneg h1 h2
    omega
end Go.Proofs.YtddkkmdbolgnlaaDoor.Fw

namespace Go.Proofs.YtddkkmdbolgnlaaDoor.Fw
theorem mulAbs2 (a b : Int) : ∃ (N : Nat) (p : Int), a.natAbs * b.natAbs = N ∧ a * b = p ∧ (((a < 0 ↔ b < 0) ∧ p = N) ∨ (¬ (a < 0 ↔ b < 0) ∧ p = -(N : Int))) := by
  obtain ⟨N, p, h1, h2, h3, h4⟩ := mulAbs a b
  refine ⟨N, p, h1, h2, ?_⟩
  rcases (by omega : a < 0 ∨ 0 ≤ a) with k1 | k1 <;> rcases (by omega : b < 0 ∨ 0 ≤ b) with k2 | k2
  · exact .inl ⟨by omega, h4 (by simp [k1, k2])⟩
  · exact .inr ⟨by omega, h3 (by simp [k1]; omega)⟩
  · exact .inr ⟨by omega, h3 (by simp [k2]; omega)⟩
  · exact .inl ⟨by omega, h4 (by have e1 : ¬ a < 0 := by omega
                                 have e2 : ¬ b < 0 := by omega
                                 simp [e1, e2])⟩
end Go.Proofs.YtddkkmdbolgnlaaDoor.Fw
namespace Go.Proofs.YtddkkmdbolgnlaaDoor.Fw
theorem mc_drop {x : MV} (hr : x.regs.length = 16) : dropN 22 (mc x) = [x.at_, x.fn, x.frame, x.cv, x.iv, x.kind, x.ans, x.trap, x.why, x.pv, x.steps] := by
  rw [dropN_eq]; unfold mc
  rw [List.drop_append, List.drop_of_length_le (by simp), List.nil_append, List.drop_append, List.drop_of_length_le (by simp [hr]), List.nil_append]
  simp [hr]
theorem dropN_add {α : Type} (a b : Nat) (l : List α) : dropN (a + b) l = dropN b (dropN a l) := by
  rw [dropN_eq, dropN_eq, dropN_eq, List.drop_drop]
theorem mc_out {x : MV} (hr : x.regs.length = 16) {k a t w p : Value} (hk : x.kind = k) (ha : x.ans = a) (ht : x.trap = t) (hw : x.why = w) (hp : x.pv = p) : takeO 5 (dropN 27 (mc x)) = some [k, a, t, w, p] := by
  rw [show 27 = 22 + 5 from rfl, dropN_add, mc_drop hr]
  subst hk ha ht hw hp
  rfl
theorem SlO.nil_len {l : List Int} {A : Option Addr} {cap : Nat} {C : Chunk} (h : SlO 1 (ints l) A cap C) (hA : A = none) : l.length = 0 := by
  rcases h with ⟨_, h2, _, _⟩ | ⟨b, _, _, h1, _⟩
  · have := congrArg List.length h2; rw [ints_len] at this; exact this
  · rw [hA] at h1; cases h1
end Go.Proofs.YtddkkmdbolgnlaaDoor.Fw
namespace Go.Proofs.YtddkkmdbolgnlaaDoor.Fw
theorem St.join3 {Γ : Env} {I : Mem} {A B C : Chunk} {L : List Chunk} {w : World} (h : St Γ I (A :: B :: C :: L) w) : St Γ I ((A ++ (B ++ C)) :: L) w := ⟨h.ext, by simpa using h.own⟩
theorem St.join4 {Γ : Env} {I : Mem} {A B C D : Chunk} {L : List Chunk} {w : World} (h : St Γ I (A :: B :: C :: D :: L) w) : St Γ I ((A ++ (B ++ (C ++ D))) :: L) w := ⟨h.ext, by simpa using h.own⟩
theorem St.join5 {Γ : Env} {I : Mem} {A B C D E : Chunk} {L : List Chunk} {w : World} (h : St Γ I (A :: B :: C :: D :: E :: L) w) : St Γ I ((A ++ (B ++ (C ++ (D ++ E)))) :: L) w := ⟨h.ext, by simpa using h.own⟩
theorem St.part5 {Γ : Env} {I : Mem} {A B C D E : Chunk} {L : List Chunk} {w : World} (h : St Γ I ((A ++ (B ++ (C ++ (D ++ E)))) :: L) w) : St Γ I (A :: B :: C :: D :: E :: L) w := ⟨h.ext, by simpa using h.own⟩
end Go.Proofs.YtddkkmdbolgnlaaDoor.Fw

namespace Go.Proofs.YtddkkmdbolgnlaaDoor.Fw
def regs0 : List Int := List.replicate 16 0
theorem mcs_regs {x : MV} {vs : List Value} (hv : vs.length = 16) (hr : x.regs.length = 16) : setsL (mc x) 6 vs = mc { x with regs := vs } := by
  unfold setsL mc
  rw [List.take_append, List.take_of_length_le (by simp), show 6 - [x.v1, x.v2, x.v3, x.main, x.hp, x.wv].length = 0 from rfl, List.take_zero, List.append_nil,
    List.drop_append, List.drop_of_length_le (by simp), List.nil_append, hv, show 6 + 16 - [x.v1, x.v2, x.v3, x.main, x.hp, x.wv].length = 16 from rfl, List.drop_append, List.drop_of_length_le (by omega), List.nil_append, hr]
  simp
theorem callCells_snoc (l : List (Int × Int × Int)) (x : Int × Int × Int) : callCells (l ++ [x]) = callCells l ++ callRow x := by simp [callCells]
theorem callCells_get {l : List (Int × Int × Int)} {i : Nat} {x : Int × Int × Int} (h : l[i]? = some x) (pad : List Value) : takeO 3 (dropN (0 + i * 3) (callCells l ++ pad)) = some (callRow x) := by
  rw [Nat.zero_add, dropN_eq]
  have hl := (List.getElem?_eq_some_iff.1 h).1
  have e : ∀ j, j < 3 → (callCells l ++ pad)[i * 3 + j]? = (callRow x)[j]? := fun j hj => by
    have hv : (callRow x)[j]? = some ((callRow x)[j]'(by simpa [callRow] using hj)) := List.getElem?_eq_getElem _
    rw [List.getElem?_append_left (by rw [callCells_len]; omega), hv]
    exact flat_get callCells_row (by rw [List.getElem?_map, h]; rfl) hv
  have e0 := e 0 (by omega); have e1 := e 1 (by omega); have e2 := e 2 (by omega)
  generalize callCells l ++ pad = cs at *
  have h3 : i * 3 + 2 < cs.length := (List.getElem?_eq_some_iff.1 e2).1
  rw [List.drop_eq_getElem_cons (by omega), List.drop_eq_getElem_cons (by omega), List.drop_eq_getElem_cons (by omega)]
  simp only [takeO]
  rw [List.getElem?_eq_getElem (by omega)] at e0 e1 e2
  simp only [Nat.add_zero] at e0
  injection e0 with e0; injection e1 with e1; injection e2 with e2
  simp [callRow, e0, e1, e2]
/-- A call is over: the machine behind it, what comes next. -/
def paramsOf (c : CodeD) : Int := match c.fns[c.main.toNat]? with
  | some f => f.params
  | none => 0
def leaveM (c : CodeD) (m : MachD) : MachD := match m.calls.getLast? with
  | none => { m with kind := 2, answer := wordM m.words (m.frame + paramsOf c) }
  | some x => { m with calls := m.calls.dropLast, frame := x.2.1, fn := x.2.2, regs := regs0 }
def leaveN (m : MachD) : Int := match m.calls.getLast? with
  | none => 0
  | some x => x.1
end Go.Proofs.YtddkkmdbolgnlaaDoor.Fw
namespace Go.Proofs.YtddkkmdbolgnlaaDoor.Fw
section
variable {P : Program} {ops : Array Oper} {Q : Exit → Act → World → Prop} {rest : List Oper} {n : Nat} {ds : List Deferred} {l : List (Nat × Value)} {Γ : Env} {I : Mem} {L L' : List Chunk}
variable {t : TypeId} {pos : String} {af : Array Edge}
/-- A store to several of a machine's cells. -/
theorem WL.store_mcs (k : Nat) {T : TypeId} {x y : Operand} {b off sz : Nat} {m m' : MV} {E : TypeId} {v : Value} {vs : List Value} (hx : ev l x = some (.pointer (some ⟨b, off, none⟩))) (hy : ev l y = some v) (hk : nth L k = some [(b, .cells (mc m).toArray E (0, 0))])
    (hvs : cellsO v = some vs) (hm : szT P T = some sz) (hl : Nat.beq vs.length sz = true) (hone : vs.all one1 = true) (hr : m.regs.length = 16) (hoff : Nat.ble (off + vs.length) 33 = true) (hset : setsL (mc m) off vs = mc m')
    (hL : setO L k [(b, .cells (mc m').toArray E (0, 0))] = some L') (h : WL .seq P ops Q rest n ds l Γ I L') : WL .seq P ops Q (⟨none, .store T x y, t, pos, af, none⟩ :: rest) n ds l Γ I L :=
  WL.store_at k hx hy hk hvs hm hl hone (by rw [mc_len hr]; exact Nat.le_of_ble_eq_true hoff) (by rw [hset]; exact hL) h
end
end Go.Proofs.YtddkkmdbolgnlaaDoor.Fw
namespace Go.Proofs.YtddkkmdbolgnlaaDoor.Fw
/-- Words from k on, so many, set to 0. -/
def clrW (ws : List Int) (base : Int) : Nat → Int → List Int
  | 0, _ => ws
  | q + 1, k => clrW (setM ws (base + k) 0) base q (k + 1)
def fnOf (c : CodeD) (i : Int) : FnD := match c.fns[i.toNat]? with
  | some f => f
  | none => ⟨0, 0, 0⟩
/-- A call begins. -/
def enterM (c : CodeD) (m : MachD) (fn : Int) : MachD :=
  let fr := m.frame + (fnOf c m.fn).words
  { m with calls := m.calls ++ [(m.at_ + 1, m.frame, m.fn)], frame := fr, fn := fn, regs := regs0,
           words := clrW m.words fr ((fnOf c fn).words - (fnOf c fn).params).toNat (fnOf c fn).params }
theorem clrW_len {ws : List Int} {base : Int} (q : Nat) (k : Int) (h : ws.length ≤ 524661) : (clrW ws base q k).length ≤ 524661 := by
  induction q generalizing ws k with
  | zero => exact h
  | succ q ih =>
    refine ih _ ?_
    unfold setM
    split
    · exact h
    · split
      · simp; omega
      · simp; exact h
end Go.Proofs.YtddkkmdbolgnlaaDoor.Fw

