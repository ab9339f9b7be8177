/- Small laws of bits. -/
import Derived.Test.YtnhgnidpoiolgaaRUni
namespace Go.Proofs.Ytnhgnidpoiolgaa.X
open Go Go.RX Go.RowKit Go.Proofs
theorem wraps_i64 (n : Int) (h₀ : 0 ≤ n) (h₁ : n < 2 ^ 63) : IntKind.i64.wrap n = n := by rw [IntKind.wrap_i64]; omega
theorem and_nat (a b : Nat) (ha : a < 2 ^ 63) (hb : b < 2 ^ 63) : Go.bits .and .i64 a b = ((a &&& b : Nat) : Int) := (bits_nat .i64 63 (by decide) wraps_i64 a b ha hb).1
theorem or_nat (a b : Nat) (ha : a < 2 ^ 63) (hb : b < 2 ^ 63) : Go.bits .or .i64 a b = ((a ||| b : Nat) : Int) := (bits_nat .i64 63 (by decide) wraps_i64 a b ha hb).2
theorem andNot_nat (a b : Nat) (ha : a < 2 ^ 63) (hb : b < 2 ^ 63) : Go.bits .andNot .i64 a b = ((a &&& (2 ^ 64 - (b + 1)) : Nat) : Int) := by
  have hp : (2 : Nat) ^ 63 < 2 ^ 64 := by decide
  have ha' : a % 2 ^ IntKind.i64.bits = a := Nat.mod_eq_of_lt (Nat.lt_trans ha hp)
  have hb' : b % 2 ^ IntKind.i64.bits = b := Nat.mod_eq_of_lt (Nat.lt_trans hb hp)
  have e : Go.bits .andNot .i64 a b = IntKind.i64.wrap (((a &&& (2 ^ 64 - 1 - b) : Nat)) : Int) := by
    simp only [Go.bits, BitVec.ofInt_natCast, BitVec.toNat_and, BitVec.toNat_not, BitVec.toNat_ofNat, ha', hb']
    rfl
  rw [e, show 2 ^ 64 - 1 - b = 2 ^ 64 - (b + 1) by omega]
  exact wraps_i64 _ (by omega) (by have := Nat.and_le_left (n := a) (m := 2 ^ 64 - (b + 1)); omega)
theorem xor_nat (a b : Nat) (ha : a < 2 ^ 63) (hb : b < 2 ^ 63) : Go.bits .xor .i64 a b = ((a ^^^ b : Nat) : Int) := by
  have hp : (2 : Nat) ^ 63 < 2 ^ 64 := by decide
  have ha' : a % 2 ^ IntKind.i64.bits = a := Nat.mod_eq_of_lt (Nat.lt_trans ha hp)
  have hb' : b % 2 ^ IntKind.i64.bits = b := Nat.mod_eq_of_lt (Nat.lt_trans hb hp)
  have hx : a ^^^ b < 2 ^ 63 := Nat.xor_lt_two_pow ha hb
  have e : Go.bits .xor .i64 a b = IntKind.i64.wrap (((a ^^^ b : Nat)) : Int) := by
    simp only [Go.bits, BitVec.ofInt_natCast, BitVec.toNat_xor, BitVec.toNat_ofNat, ha', hb']
  rw [e]
  exact wraps_i64 _ (by omega) (by omega)
theorem testBit_not (b i : Nat) (hb : b < 2 ^ 63) (hi : i < 64) : (2 ^ 64 - (b + 1)).testBit i = !b.testBit i := by
  rw [Nat.testBit_two_pow_sub_succ (by omega)]
  simp [hi]
theorem andNot_lowN (a k : Nat) (ha : a < 2 ^ 63) (hk : k ≤ 62) : Go.bits .andNot .i64 a ((2 ^ k - 1 : Nat) : Int) = ((2 ^ k * (a / 2 ^ k) : Nat) : Int) := by
  have hp : 2 ^ k ≤ 2 ^ 62 := Nat.pow_le_pow_right (by omega) hk
  rw [andNot_nat a _ ha (by omega)]
  congr 1
  apply Nat.eq_of_testBit_eq
  intro i
  rw [Nat.testBit_and, Nat.testBit_two_pow_sub_succ (by omega), Nat.testBit_two_pow_sub_one, Nat.testBit_two_pow_mul, Nat.testBit_div_two_pow]
  by_cases h : i < k
  · simp [h, show ¬ (k ≤ i) by omega]
  · by_cases h' : i < 64
    · simp [h, h', show k ≤ i by omega, show i - k + k = i by omega]
    · have : a.testBit i = false := Nat.testBit_lt_two_pow (Nat.lt_of_lt_of_le ha (Nat.pow_le_pow_right (by omega) (by omega)))
      simp [h, h', show k ≤ i by omega, show i - k + k = i by omega, this]
theorem and_lowN (a k : Nat) (ha : a < 2 ^ 63) (hk : k ≤ 62) : Go.bits .and .i64 a ((2 ^ k - 1 : Nat) : Int) = ((a % 2 ^ k : Nat) : Int) := by
  have hp : 2 ^ k ≤ 2 ^ 62 := Nat.pow_le_pow_right (by omega) hk
  rw [and_nat a _ ha (by omega), Nat.and_two_pow_sub_one_eq_mod]
theorem or_addN (a b k : Nat) (hb : b < 2 ^ k) (ha : 2 ^ k * a < 2 ^ 62) (hk : k ≤ 62) : Go.bits .or .i64 ((2 ^ k * a : Nat) : Int) (b : Int) = ((2 ^ k * a + b : Nat) : Int) := by
  have hp : 2 ^ k ≤ 2 ^ 62 := Nat.pow_le_pow_right (by omega) hk
  rw [or_nat _ b (by omega) (by omega), ← Nat.two_pow_add_eq_or_of_lt hb]
theorem and_pow (m i : Nat) : m &&& 2 ^ i = if m / 2 ^ i % 2 = 1 then 2 ^ i else 0 := by
  apply Nat.eq_of_testBit_eq
  intro j
  rw [Nat.testBit_and, Nat.testBit_two_pow]
  by_cases c : m / 2 ^ i % 2 = 1
  · rw [if_pos c, Nat.testBit_two_pow]
    by_cases d : i = j
    · subst d; rw [Nat.testBit_eq_decide_div_mod_eq, decide_eq_true c]; rfl
    · simp [d]
  · rw [if_neg c, Nat.zero_testBit]
    by_cases d : i = j
    · subst d; rw [Nat.testBit_eq_decide_div_mod_eq, decide_eq_false c]; rfl
    · simp [d]
end Go.Proofs.Ytnhgnidpoiolgaa.X
