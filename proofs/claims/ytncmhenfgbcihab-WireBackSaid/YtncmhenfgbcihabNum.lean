/- Numbers, plain: what num.Long, num.Int and the rest compute, and that the references compute the same. No program is named here. -/
import Derived.WalkKit
namespace Go.Proofs.Ytncmhenfgbcihab
open Go.RowKit
namespace Num

/-- within 64 bits -/
def Ok (n : Int) : Prop := -9223372036854775808 ≤ n ∧ n ≤ 9223372036854775807

theorem Ok.of_wf {n : Int} (h : (Lit.int .i64 n).wf = true) : Ok n := by
  simp [Lit.wf, IntKind.min, IntKind.max, IntKind.signed, IntKind.bits] at h; unfold Ok; omega

theorem wrap64_ok (n : Int) : Ok (wrap64 n) := by unfold Ok wrap64; omega
theorem wrap64_id {n : Int} (h : Ok n) : wrap64 n = n := by unfold Ok at h; unfold wrap64; omega
theorem wrap32_ok (n : Int) : Ok (wrap32 n) := by unfold Ok wrap32; omega
theorem bits_ok (op : BinOp) (a b : Int) : Ok (bits op .i64 a b) := Ok.of_wf (by
  unfold bits; split <;> exact (by simp [Lit.wf, IntKind.wrap, IntKind.min, IntKind.max, IntKind.signed, IntKind.bits]; try split <;> omega))

/-- what an operation makes of two longs -/
def long (op a b : Int) : Int × Bool :=
  if op = 1 then (wrap64 (a + b), true)
  else if op = 2 then (wrap64 (a - b), true)
  else if op = 3 then (wrap64 (a * b), true)
  else if op = 4 then (if b = 0 then (0, false) else if b = -1 then (wrap64 (-a), true) else (a.tdiv b, true))
  else if op = 5 then (if b = 0 then (0, false) else if b = -1 then (0, true) else (a.tmod b, true))
  else if op = 6 then (bits .and .i64 a b, true)
  else if op = 7 then (bits .or .i64 a b, true)
  else if op = 8 then (bits .xor .i64 a b, true)
  else (0, false)

/-- what it makes of two ints -/
def int (op a b : Int) : Int × Bool := (wrap32 (long op (wrap32 a) (wrap32 b)).1, (long op (wrap32 a) (wrap32 b)).2)

def cmp (a b : Int) : Int := if a < b then -1 else if b < a then 1 else 0

def holds (c a : Int) : Bool :=
  if c = 1 then decide (a = 0) else if c = 2 then decide (a < 0) else if c = 3 then decide (a ≠ 0) else if c = 4 then decide (0 < a) else false

theorem tdiv_ok {a b : Int} (ha : Ok a) (h1 : b ≠ -1) : Ok (a.tdiv b) := by
  unfold Ok at *
  have h := Int.natAbs_tdiv_le_natAbs a b
  by_cases e : a = -9223372036854775808
  · by_cases h0 : b = 0
    · subst h0; simp
    by_cases e1 : b = 1
    · subst e1; simp; omega
    · have h2 : 2 ≤ b.natAbs := by omega
      have : (a.tdiv b).natAbs = a.natAbs / b.natAbs := Int.natAbs_tdiv a b
      have h3 : a.natAbs / b.natAbs ≤ a.natAbs / 2 := Nat.div_le_div_left h2 (by omega)
      omega
  · omega

theorem tmod_ok {a b : Int} (ha : Ok a) : Ok (a.tmod b) := by
  unfold Ok at *
  have h := Int.natAbs_tmod a b
  have h2 := Nat.mod_le a.natAbs b.natAbs
  have h3 : 0 ≤ a → 0 ≤ a.tmod b := fun h => Int.tmod_nonneg b h
  by_cases h0 : 0 ≤ a
  · have := h3 h0; omega
  · have : 0 ≤ (-a).tmod b := Int.tmod_nonneg b (by omega)
    rw [Int.neg_tmod] at this
    omega

theorem long_ok (op a b : Int) (ha : Ok a) : Ok (long op a b).1 := by
  unfold long
  repeat' split
  all_goals dsimp only
  all_goals first | with_reducible exact wrap64_ok _ | with_reducible exact bits_ok _ _ _ | with_reducible exact tdiv_ok ha ‹_› | with_reducible exact tmod_ok ha | exact ⟨by omega, by omega⟩
theorem int_ok (op a b : Int) : Ok (int op a b).1 := wrap32_ok _

/-! ### the reference's bits -/

/-- the reference's 'bit': its k-th, by halving -/
def bitN : Nat → Int → Int
  | 0, n => n
  | k + 1, n => bitN k ((n - n % 2) / 2)
def bit (n : Int) (k : Nat) : Bool := decide (bitN k n % 2 = 1)

theorem bitN_eq (k : Nat) : ∀ n : Int, bitN k n = n / 2 ^ k := by
  induction k with
  | zero => intro n; simp [bitN]
  | succ k ih =>
    intro n
    rw [bitN, ih, show (n - n % 2) / 2 = n / 2 by omega, Int.pow_succ, Int.mul_comm, Int.ediv_ediv_of_nonneg (by omega)]

theorem bitN_ok (k : Nat) {n : Int} (h : Ok n) : Ok (bitN k n) := by
  induction k generalizing n with
  | zero => exact h
  | succ k ih => unfold Ok at *; rw [bitN]; exact ih (by omega)

def opBit (op : Int) (x y : Bool) : Bool := (decide (op = 6) && x && y) || (decide (op = 7) && (x || y)) || (decide (op = 8) && (x != y))

/-- the reference's sum, over the first k bits -/
def sumN (op a b : Int) : Nat → Int
  | 0 => 0
  | k + 1 => sumN op a b k + if opBit op (bit a k) (bit b k) then 2 ^ k else 0

theorem odd_tmod (n : Int) : n.tmod 2 = if 0 ≤ n then n % 2 else -((-n) % 2) := by
  split
  · exact Int.tmod_eq_emod_of_nonneg ‹_›
  · rw [← Int.tmod_eq_emod_of_nonneg (show 0 ≤ -n by omega), Int.neg_tmod, Int.neg_neg]

theorem sumN_range (op a b : Int) : ∀ k, 0 ≤ sumN op a b k ∧ sumN op a b k < 2 ^ k := by
  intro k
  induction k with
  | zero => simp [sumN]
  | succ k ih =>
    rw [sumN, Int.pow_succ]
    have : (0:Int) < 2 ^ k := Int.pow_pos (by omega)
    split <;> omega

/-- bit k of the 64-bit pattern -/
theorem bit_testBit (n : Int) (k : Nat) (hk : k < 64) : bit n k = (BitVec.ofInt 64 n).toNat.testBit k := by
  have hp : (2:Int) ^ k * 2 ^ (64 - k) = 18446744073709551616 := by
    rw [← Int.pow_add, show k + (64 - k) = 64 by omega]; rfl
  have h2 : (2:Int) ^ (64 - k) = 2 * 2 ^ (63 - k) := by
    rw [show 64 - k = (63 - k) + 1 by omega, Int.pow_succ, Int.mul_comm]
  have hpos : (0:Int) < 2 ^ k := Int.pow_pos (by omega)
  rw [bit, bitN_eq]
  have e1 : ((BitVec.ofInt 64 n).toNat : Int) = n % 18446744073709551616 := by
    rw [BitVec.toNat_ofInt]; rw [Int.toNat_of_nonneg (by omega)]; rfl
  have e2 : (n / 2 ^ k) % 2 = (n % 18446744073709551616 / 2 ^ k) % 2 := by
    have hn : n = n % 18446744073709551616 + 2 ^ k * (2 * 2 ^ (63 - k) * (n / 18446744073709551616)) := by
      rw [← Int.mul_assoc, ← h2, hp]; omega
    have : n / 2 ^ k = n % 18446744073709551616 / 2 ^ k + 2 * 2 ^ (63 - k) * (n / 18446744073709551616) := by
      conv => lhs; rw [hn]
      exact Int.add_mul_ediv_left _ _ (by omega)
    rw [this, Int.mul_assoc]; omega
  rw [e2, ← e1, Nat.testBit_eq_decide_div_mod_eq]
  have : ((BitVec.ofInt 64 n).toNat : Int) / 2 ^ k % 2 = (((BitVec.ofInt 64 n).toNat / 2 ^ k % 2 : Nat) : Int) := by
    simp
  rw [this]
  congr 1
  simp only [eq_iff_iff]; omega

/-- the number whose first k bits p tells -/
def natN (p : Nat → Bool) : Nat → Nat
  | 0 => 0
  | k + 1 => natN p k + if p k then 2 ^ k else 0
theorem natN_lt (p : Nat → Bool) (k : Nat) : natN p k < 2 ^ k := by
  induction k with
  | zero => simp [natN]
  | succ k ih => rw [natN, Nat.pow_succ]; split <;> omega
theorem natN_testBit (m k : Nat) : natN m.testBit k = m % 2 ^ k := by
  induction k with
  | zero => simp [natN, Nat.mod_one]
  | succ k ih =>
    rw [natN, ih, Nat.testBit_eq_decide_div_mod_eq, Nat.pow_succ, Nat.mod_mul]
    have : m / 2 ^ k % 2 = 0 ∨ m / 2 ^ k % 2 = 1 := by omega
    rcases this with h | h <;> simp [h]
theorem natN_congr {p q : Nat → Bool} (k : Nat) (h : ∀ j, j < k → p j = q j) : natN p k = natN q k := by
  induction k with
  | zero => rfl
  | succ k ih => rw [natN, natN, ih (fun j hj => h j (by omega)), h k (by omega)]
theorem sumN_nat (op a b : Int) (k : Nat) : sumN op a b k = (natN (fun j => opBit op (bit a j) (bit b j)) k : Nat) := by
  induction k with
  | zero => rfl
  | succ k ih => rw [sumN, natN, ih]; split <;> simp

theorem wrap_i64 (n : Int) : IntKind.i64.wrap n = wrap64 n := by
  rw [IntKind.wrap_i64]; unfold wrap64; omega

theorem sumN_bits (op a b : Int) (o : BinOp) (f : Bool → Bool → Bool) (g : Nat → Nat → Nat)
    (hg : ∀ x y i, (g x y).testBit i = f (x.testBit i) (y.testBit i)) (hlt : ∀ x y, x < 2 ^ 64 → y < 2 ^ 64 → g x y < 2 ^ 64)
    (hop : ∀ x y, opBit op x y = f x y)
    (ho : bits o .i64 a b = IntKind.i64.wrap ((g (BitVec.ofInt 64 a).toNat (BitVec.ofInt 64 b).toNat : Nat) : Int)) :
    wrap64 (sumN op a b 64) = bits o .i64 a b := by
  rw [ho, sumN_nat, wrap_i64]
  have : natN (fun j => opBit op (bit a j) (bit b j)) 64 = natN (g (BitVec.ofInt 64 a).toNat (BitVec.ofInt 64 b).toNat).testBit 64 :=
    natN_congr 64 (fun j hj => by rw [hop, bit_testBit a j hj, bit_testBit b j hj, hg])
  rw [this, natN_testBit, Nat.mod_eq_of_lt (hlt _ _ (BitVec.isLt _) (BitVec.isLt _))]

theorem sumN_and (a b : Int) : wrap64 (sumN 6 a b 64) = bits .and .i64 a b :=
  sumN_bits 6 a b .and (fun x y => x && y) (fun x y => x &&& y) (fun x y i => Nat.testBit_and x y i) (fun x y _ hy => Nat.and_lt_two_pow _ hy)
    (by intro x y; cases x <;> cases y <;> rfl) (by show IntKind.i64.wrap ((BitVec.toNat (BitVec.ofInt 64 a &&& BitVec.ofInt 64 b) : Nat) : Int) = _; rw [BitVec.toNat_and])
theorem sumN_or (a b : Int) : wrap64 (sumN 7 a b 64) = bits .or .i64 a b :=
  sumN_bits 7 a b .or (fun x y => x || y) (fun x y => x ||| y) (fun x y i => Nat.testBit_or x y i) (fun x y hx hy => Nat.or_lt_two_pow hx hy)
    (by intro x y; cases x <;> cases y <;> rfl) (by show IntKind.i64.wrap ((BitVec.toNat (BitVec.ofInt 64 a ||| BitVec.ofInt 64 b) : Nat) : Int) = _; rw [BitVec.toNat_or])
theorem sumN_xor (a b : Int) : wrap64 (sumN 8 a b 64) = bits .xor .i64 a b :=
  sumN_bits 8 a b .xor (fun x y => x != y) (fun x y => x ^^^ y) (fun x y i => Nat.testBit_xor x y i) (fun x y hx hy => Nat.xor_lt_two_pow hx hy)
    (by intro x y; cases x <;> cases y <;> rfl) (by show IntKind.i64.wrap ((BitVec.toNat (BitVec.ofInt 64 a ^^^ BitVec.ofInt 64 b) : Nat) : Int) = _; rw [BitVec.toNat_xor])

/-- the reference's 'bits' -/
def refBits (op a b : Int) : Int := wrap64 (sumN op a b 64)

/-- the reference's Long -/
def refLong (op a b : Int) : Int × Bool :=
  if op = 1 then (wrap64 (a + b), true)
  else if op = 2 then (wrap64 (a - b), true)
  else if op = 3 then (wrap64 (a * b), true)
  else if op = 6 ∨ op = 7 ∨ op = 8 then (refBits op a b, true)
  else if (op ≠ 4 ∧ op ≠ 5) ∨ b = 0 then (0, false)
  else if op = 4 then (if b ≠ -1 then a.tdiv b else wrap64 (0 - a), true)
  else (wrap64 (a - wrap64 ((if b ≠ -1 then a.tdiv b else wrap64 (0 - a)) * b)), true)

theorem rem_eq (a b : Int) (ha : Ok a) (_hb : b ≠ 0) : wrap64 (a - wrap64 ((if b ≠ -1 then a.tdiv b else wrap64 (0 - a)) * b)) = if b = -1 then 0 else a.tmod b := by
  by_cases h : b = -1
  · subst h; unfold Ok at ha; simp [wrap64]; omega
  · rw [if_pos h, if_neg h]
    have e := Int.tdiv_mul_add_tmod a b
    have h1 := tmod_ok (b := b) ha
    have : wrap64 (a - wrap64 (a.tdiv b * b)) = wrap64 (a - a.tdiv b * b) := by unfold wrap64; omega
    rw [this, show a - a.tdiv b * b = a.tmod b by omega, wrap64_id h1]

theorem refLong_eq (op a b : Int) (ha : Ok a) : refLong op a b = long op a b := by
  unfold refLong long
  by_cases h1 : op = 1
  · simp [h1]
  by_cases h2 : op = 2
  · simp [h2]
  by_cases h3 : op = 3
  · simp [h3]
  by_cases h4 : op = 4
  · subst h4; by_cases hb : b = 0
    · simp [hb]
    · by_cases hb1 : b = -1 <;> simp [hb, hb1, wrap64]
  by_cases h5 : op = 5
  · subst h5; by_cases hb : b = 0
    · simp [hb]
    · have := rem_eq a b ha hb
      simp only [show ¬((5:Int) = 1) by omega, show ¬((5:Int) = 2) by omega, show ¬((5:Int) = 3) by omega, show ¬((5:Int) = 4) by omega, show ¬((5:Int) = 6 ∨ (5:Int) = 7 ∨ (5:Int) = 8) by omega, if_false, if_true, hb]
      rw [if_neg (by simp), this]
      split <;> rfl
  by_cases h6 : op = 6
  · subst h6; simp [refBits, sumN_and]
  by_cases h7 : op = 7
  · subst h7; simp [refBits, sumN_or]
  by_cases h8 : op = 8
  · subst h8; simp [refBits, sumN_xor]
  simp [h1, h2, h3, h4, h5, h6, h7, h8]

/-- the reference's Narrow -/
def refNarrow (a : Int) : Int :=
  let n := a.tmod 4294967296
  let n := if n < 0 then n + 4294967296 else n
  if 2147483648 ≤ n then n - 4294967296 else n
theorem refNarrow_eq (a : Int) : refNarrow a = wrap32 a := by
  unfold refNarrow wrap32
  by_cases h : 0 ≤ a
  · rw [Int.tmod_eq_emod_of_nonneg h]; simp only []; split <;> split <;> omega
  · have e : a.tmod 4294967296 = -((-a) % 4294967296) := by
      rw [← Int.tmod_eq_emod_of_nonneg (show 0 ≤ -a by omega), Int.neg_tmod, Int.neg_neg]
    rw [e]; simp only []; split <;> split <;> omega
end Num
end Go.Proofs.Ytncmhenfgbcihab
