/- What the printed functions of the package ident come to, in plain numbers. -/
import Derived.Test.YtemajoafhamhgaaDoorQx8
import Derived.Test.YtemajoafhamhgaaDoorQx19
set_option linter.unusedVariables false
set_option linter.unusedSimpArgs false
namespace Go.Proofs.YtemajoafhamhgaaDoor.Id
open Go.RowKit Go.Proofs.YtemajoafhamhgaaDoor.Q Go.Proofs.YtemajoafhamhgaaDoorW.PrintWords Go.Proofs.YtemajoafhamhgaaDoorW.PrintLast Go.Proofs.YtemajoafhamhgaaDoorW.PrintMore

theorem wraps_i64 (n : Int) (h₀ : 0 ≤ n) (h₁ : n < 2 ^ 63) : IntKind.i64.wrap n = n := by rw [IntKind.wrap_i64]; omega
theorem and_nat (a b : Nat) (ha : a < 2 ^ 63) (hb : b < 2 ^ 63) : Go.bits .and .i64 a b = ((a &&& b : Nat) : Int) := (bits_nat .i64 63 (by decide) wraps_i64 a b ha hb).1
theorem or_nat (a b : Nat) (ha : a < 2 ^ 63) (hb : b < 2 ^ 63) : Go.bits .or .i64 a b = ((a ||| b : Nat) : Int) := (bits_nat .i64 63 (by decide) wraps_i64 a b ha hb).2
theorem w64 (x : Int) (h : -9223372036854775808 ≤ x) (h' : x < 9223372036854775808) : wrap64 x = x := by unfold wrap64; omega
theorem andNot_nat (a b : Nat) (ha : a < 2 ^ 63) (hb : b < 2 ^ 63) : Go.bits .andNot .i64 a b = ((a &&& (2 ^ 64 - (b + 1)) : Nat) : Int) := by
  have hp : (2 : Nat) ^ 63 < 2 ^ 64 := by decide
  have ha' : a % 2 ^ IntKind.i64.bits = a := Nat.mod_eq_of_lt (Nat.lt_trans ha hp)
  have hb' : b % 2 ^ IntKind.i64.bits = b := Nat.mod_eq_of_lt (Nat.lt_trans hb hp)
  have e : Go.bits .andNot .i64 a b = IntKind.i64.wrap (((a &&& (2 ^ 64 - 1 - b) : Nat)) : Int) := by
    simp only [Go.bits, BitVec.ofInt_natCast, BitVec.toNat_and, BitVec.toNat_not, BitVec.toNat_ofNat, ha', hb']
    rfl
  rw [e, show 2 ^ 64 - 1 - b = 2 ^ 64 - (b + 1) by omega]
  exact wraps_i64 _ (by omega) (by have := Nat.and_le_left (n := a) (m := 2 ^ 64 - (b + 1)); omega)
theorem andNot_low (a k : Nat) (ha : a < 2 ^ 63) (hk : k ≤ 62) : Go.bits .andNot .i64 a ((2 ^ k - 1 : Nat) : Int) = ((2 ^ k * (a / 2 ^ k) : Nat) : Int) := by
  have hp : 2 ^ k ≤ 2 ^ 62 := Nat.pow_le_pow_right (by omega) hk
  rw [andNot_nat a _ ha (by omega)]
  congr 1
  apply Nat.eq_of_testBit_eq
  intro i
  rw [Nat.testBit_and, Nat.testBit_two_pow_sub_succ (by omega), Nat.testBit_two_pow_sub_one, Nat.testBit_two_pow_mul, Nat.testBit_div_two_pow]
  by_cases h : i < k
  · simp [h, show ¬ (k ≤ i) by omega]
  · by_cases h' : i < 64
    · simp [h, h', show k ≤ i by omega, show i - k + k = i by omega]
    · have : a.testBit i = false := Nat.testBit_lt_two_pow (Nat.lt_of_lt_of_le ha (Nat.pow_le_pow_right (by omega) (by omega)))
      simp [h, h', show k ≤ i by omega, show i - k + k = i by omega, this]
theorem and_low (a k : Nat) (ha : a < 2 ^ 63) (hk : k ≤ 62) : Go.bits .and .i64 a ((2 ^ k - 1 : Nat) : Int) = ((a % 2 ^ k : Nat) : Int) := by
  have hp : 2 ^ k ≤ 2 ^ 62 := Nat.pow_le_pow_right (by omega) hk
  rw [and_nat a _ ha (by omega), Nat.and_two_pow_sub_one_eq_mod]
theorem or_add (a b k : Nat) (hb : b < 2 ^ k) (ha : 2 ^ k * a < 2 ^ 62) (hk : k ≤ 62) : Go.bits .or .i64 ((2 ^ k * a : Nat) : Int) (b : Int) = ((2 ^ k * a + b : Nat) : Int) := by
  have hp : 2 ^ k ≤ 2 ^ 62 := Nat.pow_le_pow_right (by omega) hk
  rw [or_nat _ b (by omega) (by omega), ← Nat.two_pow_add_eq_or_of_lt hb]
/-- The greatest number of a kind. -/
def lim (e : Bool) : Int := if e = true then 536870911 else 2047
theorem right_eq (e : Bool) (n : Int) : ident_Right.f e n = some (decide (0 ≤ n ∧ n ≤ lim e)) := by
  unfold ident_Right.f ident_within.f ident_limit.f lim
  by_cases h : n ≥ 0
  · rw [if_pos h]
    cases e
    · rw [if_neg (by decide), if_neg (by decide)]; simp [show 0 ≤ n from h]
    · rw [if_pos rfl, if_pos rfl]; simp [show 0 ≤ n from h]
  · rw [if_neg h]; simp [show ¬ (0 ≤ n) from h]
/-- An identifier's place among all. -/
def key (e : Bool) (n : Nat) : Nat := if e = true then 524288 * (n / 262144) + 262144 + n % 262144 else 524288 * n
theorem key_eq (e : Bool) (n : Nat) (h : (n : Int) ≤ lim e) : ident_Key.f e (n : Int) = some (((key e n : Nat) : Int), 0) := by
  unfold ident_Key.f
  rw [right_eq, Option.bind_some, if_pos (decide_eq_true ⟨by omega, h⟩)]
  unfold lim at h
  unfold key
  cases e
  · rw [if_neg (by decide)] at h
    rw [if_neg (by decide), if_neg (by decide), w64 ((n : Int) * 2) (by omega) (by omega), w64 _ (by omega) (by omega)]
    congr 2; omega
  · rw [if_pos rfl] at h
    rw [if_pos rfl, if_pos rfl]
    have e1 := andNot_low n 18 (by omega) (by omega)
    have e2 := and_low n 18 (by omega) (by omega)
    rw [show ((2 ^ 18 - 1 : Nat) : Int) = 262143 from rfl] at e1 e2
    have hq : n / 2 ^ 18 < 2048 := by omega
    rw [e1, e2, w64 _ (by omega) (by omega), show ((2 ^ 18 * (n / 2 ^ 18) : Nat) : Int) * 2 = ((2 ^ 19 * (n / 2 ^ 18) : Nat) : Int) by omega]
    have e3 := or_add (n / 2 ^ 18) 262144 19 (by omega) (by omega) (by omega)
    rw [show ((262144 : Nat) : Int) = 262144 from rfl] at e3
    rw [e3, show 2 ^ 19 * (n / 2 ^ 18) + 262144 = 2 ^ 18 * (2 * (n / 2 ^ 18) + 1) by omega]
    have e4 := or_add (2 * (n / 2 ^ 18) + 1) (n % 2 ^ 18) 18 (by omega) (by omega) (by omega)
    rw [e4]
theorem key_no (e : Bool) (n : Int) (h : ¬ (0 ≤ n ∧ n ≤ lim e)) : ident_Key.f e n = some (0, 1) := by
  unfold ident_Key.f
  rw [right_eq, Option.bind_some, decide_eq_false h, if_neg (by decide)]
theorem less_eq (e f : Bool) (m n : Nat) (h : (m : Int) ≤ lim e) (h' : (n : Int) ≤ lim f) : ident_Less.f e (m : Int) f (n : Int) = some (decide (key e m < key f n)) := by
  unfold ident_Less.f
  rw [key_eq e m h, key_eq f n h', Option.bind_some, Option.bind_some, if_pos rfl, if_pos rfl]
  congr 1; apply decide_eq_decide.mpr; omega
theorem pick_nat (a n : Int) (h : (Lit.int .i64 a).wf = true) (hn : 0 < n) : ∃ p : Nat, (p : Int) < n ∧ omnibuslaw02_pick.f a n = some (p : Int) := by
  have hw : -9223372036854775808 ≤ a ∧ a < 9223372036854775808 := by
    simp [Lit.wf, IntKind.min, IntKind.max, IntKind.bits, IntKind.signed] at h
    omega
  unfold omnibuslaw02_pick.f
  by_cases c : a < 0
  · rw [if_pos c, if_neg (by omega), w64 (a + 1) (by omega) (by omega), w64 _ (by omega) (by omega)]
    refine ⟨(Int.tmod (-(a + 1)) n).toNat, ?_, ?_⟩ <;> rw [Int.toNat_of_nonneg (Int.tmod_nonneg _ (by omega))]
    exact Int.tmod_lt_of_pos _ hn
  · rw [if_neg c, if_neg (by omega)]
    refine ⟨(Int.tmod a n).toNat, ?_, ?_⟩ <;> rw [Int.toNat_of_nonneg (Int.tmod_nonneg _ (by omega))]
    exact Int.tmod_lt_of_pos _ hn
theorem ident_nat (a : Int) (e : Bool) (h : (Lit.int .i64 a).wf = true) : ∃ n : Nat, (n : Int) ≤ lim e ∧ omnibuslaw02_Ident.f a e = some (e, (n : Int)) := by
  unfold omnibuslaw02_Ident.f lim
  cases e
  · obtain ⟨p, hp, ep⟩ := pick_nat a 2048 h (by omega)
    exact ⟨p, by rw [if_neg (by decide)]; omega, by rw [if_neg (by decide), ep, Option.bind_some]⟩
  · obtain ⟨p, hp, ep⟩ := pick_nat a 536870912 h (by omega)
    exact ⟨p, by rw [if_pos rfl]; omega, by rw [if_pos rfl, ep, Option.bind_some]⟩
/-- What is no key has no identifier: between a base that is not Ext and the first one that is. -/
theorem at_no (c p : Nat) (hc : c ≤ 2047) (hp : p < 262143) : ident_At.f (((524288 * c + 1 + p : Nat)) : Int) = some (false, 0, 1) := by
  unfold ident_At.f
  have e1 : Go.bits .and .i64 ((524288 * c + 1 + p : Nat) : Int) 262144 = 0 := by
    have := and_nat (524288 * c + 1 + p) 262144 (by omega) (by omega)
    rw [show ((262144 : Nat) : Int) = 262144 from rfl] at this
    have t : (524288 * c + 1 + p).testBit 18 = false := by
      rw [Nat.testBit_eq_decide_div_mod_eq]
      exact decide_eq_false (by omega)
    have z : (524288 * c + 1 + p) &&& 2 ^ 18 = 0 := by
      apply Nat.eq_of_testBit_eq
      intro i
      rw [Nat.testBit_and, Nat.testBit_two_pow, Nat.zero_testBit]
      by_cases h : 18 = i
      · subst h; rw [t]; rfl
      · simp [h]
    rw [this, show 262144 = 2 ^ 18 from rfl, z]; rfl
  have e2 : wrap64 (Int.tdiv ((524288 * c + 1 + p : Nat) : Int) 524288) = (c : Int) := by
    rw [Int.tdiv_eq_ediv_of_nonneg (by omega), w64 _ (by omega) (by omega)]; omega
  have e3 := key_eq false c (by unfold lim; rw [if_neg (by decide)]; omega)
  rw [if_pos e1, e2, e3, Option.bind_some, if_pos rfl, if_neg (by unfold key; rw [if_neg (by decide)]; omega)]
theorem awake_true : omnibuslaw02_awake.f = some true := by decide +kernel
end Go.Proofs.YtemajoafhamhgaaDoor.Id
