/- The package of identifiers, function by function. -/
import Derived.Test.YtelpblhhpdonkaaRDoor
import Derived.Test.YtelpblhhpdonkaaRBits
namespace Go.Proofs.Ytelpblhhpdonkaa.X
open Go Go.RX Go.RowKit Go.Proofs
set_option linter.unusedVariables false
set_option linter.unusedSimpArgs false
def lim (e : Bool) : Int := if e = true then 536870911 else 2047
def right (e : Bool) (n : Int) : Bool := decide (0 ≤ n ∧ n ≤ lim e)
theorem right_is {p : Bool} {n : Int} (h : right p n = true) : 0 ≤ n ∧ n ≤ lim p := of_decide_eq_true h
-- not reached here: omnibus/ident.limit
-- not reached here: omnibus/ident.within
-- not reached here: omnibus/ident.Right
def keyI (e : Bool) (n : Int) : Int := if right e n = true then (if e = true then 524288 * (n / 262144) + 262144 + n % 262144 else 524288 * n) else 0
def errI (b : Bool) (k : Int) : Int := if b = true then 0 else k
theorem key_bits (n : Int) (h0 : 0 ≤ n) (h1 : n ≤ 536870911) : bits .or .i64 (bits .or .i64 (wrap64 (bits .andNot .i64 n 262143 * 2)) 262144) (bits .and .i64 n 262143) = 524288 * (n / 262144) + 262144 + n % 262144 := by
  obtain ⟨m, rfl⟩ := Int.eq_ofNat_of_zero_le h0
  have e1 := andNot_lowN m 18 (by omega) (by omega)
  have e2 := and_lowN m 18 (by omega) (by omega)
  rw [show ((2 ^ 18 - 1 : Nat) : Int) = 262143 from rfl] at e1 e2
  have hq : m / 2 ^ 18 < 2048 := by omega
  rw [e1, e2, w64 (by omega), show ((2 ^ 18 * (m / 2 ^ 18) : Nat) : Int) * 2 = ((2 ^ 19 * (m / 2 ^ 18) : Nat) : Int) by omega]
  have e3 := or_addN (m / 2 ^ 18) 262144 19 (by omega) (by omega) (by omega)
  rw [show ((262144 : Nat) : Int) = 262144 from rfl] at e3
  rw [e3, show 2 ^ 19 * (m / 2 ^ 18) + 262144 = 2 ^ 18 * (2 * (m / 2 ^ 18) + 1) by omega]
  have e4 := or_addN (2 * (m / 2 ^ 18) + 1) (m % 2 ^ 18) 18 (by omega) (by omega) (by omega)
  rw [e4]
  omega
-- not reached here: omnibus/ident.Key
-- not reached here: omnibus/ident.Less
-- not reached here: omnibus/ident.Fits
def matchB (e : Bool) (c m : Int) (f : Bool) (n : Int) : Bool := (right e c && right e m) && right f n && (e == f) && decide (bits .and .i64 (bits .xor .i64 c n) m = 0)
-- not reached here: omnibus/ident.Match
def atE (k : Int) : Bool := decide (262144 ≤ k % 524288)
def atN (k : Int) : Int := if atE k = true then k / 524288 * 262144 + k % 262144 else k / 524288
def atR (k : Int) : Bool := right (atE k) (atN k) && decide (keyI (atE k) (atN k) = k)
theorem keyI_nonneg (e : Bool) (n : Int) : 0 ≤ keyI e n := by
  unfold keyI
  by_cases h : right e n = true
  · have hb : 0 ≤ n := by have := of_decide_eq_true h; exact this.1
    rw [if_pos h]
    cases e
    · rw [if_neg (by decide)]; omega
    · rw [if_pos rfl]; omega
  · rw [if_neg h]; exact Int.le_refl 0
theorem and_half (k : Int) (h0 : 0 ≤ k) (h1 : k ≤ 9223372036854775807) : (bits .and .i64 k 262144 != (0 : Int)) = atE k := by
  obtain ⟨m, rfl⟩ := Int.eq_ofNat_of_zero_le h0
  have := and_nat m 262144 (by omega) (by omega)
  rw [show ((262144 : Nat) : Int) = 262144 from rfl] at this
  rw [this, show 262144 = 2 ^ 18 from rfl, and_pow]
  unfold atE
  by_cases c : m / 2 ^ 18 % 2 = 1
  · rw [if_pos c, decide_eq_true (show (262144 : Int) ≤ (m : Int) % 524288 by omega)]; rfl
  · rw [if_neg c, decide_eq_false (show ¬ (262144 : Int) ≤ (m : Int) % 524288 by omega)]; rfl
theorem and_rest (k : Int) (h0 : 0 ≤ k) (h1 : k ≤ 9223372036854775807) : bits .and .i64 k 262143 = k % 262144 := by
  obtain ⟨m, rfl⟩ := Int.eq_ofNat_of_zero_le h0
  have := and_lowN m 18 (by omega) (by omega)
  rw [show ((2 ^ 18 - 1 : Nat) : Int) = 262143 from rfl] at this
  rw [this]; omega
theorem atR_neg (k : Int) (h : k < 0) : atR k = false := by
  unfold atR
  cases c : right (atE k) (atN k)
  · rfl
  · have := of_decide_eq_true c
    unfold atN at this
    by_cases d : atE k = true
    · rw [if_pos d] at this; omega
    · rw [if_neg d] at this; omega
theorem at_no (e : Bool) (n k : Int) (h : k < 0) : (errI (right e n) 1 != (0 : Int) || keyI e n != k) = true := by
  have := keyI_nonneg e n
  have h2 : (keyI e n != k) = true := by simp only [bne_iff_ne]; omega
  rw [h2, Bool.or_true]
theorem at_is (e : Bool) (n k : Int) : (errI (right e n) 1 != (0 : Int) || keyI e n != k) = !(right e n && decide (keyI e n = k)) := by
  by_cases h : keyI e n = k
  · subst h; cases right e n <;> simp [errI]
  · cases right e n <;> simp [errI, h]
-- not reached here: omnibus/ident.At
def pickI (c n : Int) : Int := (if c < 0 then -(c + 1) else c) % n
-- not reached here: omnibus/omnibuslaw02.pick
-- not reached here: omnibus/omnibuslaw02.Ident
end Go.Proofs.Ytelpblhhpdonkaa.X
