/- Identifiers as bytes, and back. -/
import Derived.Test.YtelpblhhpdonkaaRIdent
namespace Go.Proofs.Ytelpblhhpdonkaa.X
open Go Go.RX Go.RowKit Go.Proofs
set_option linter.unusedVariables false
set_option linter.unusedSimpArgs false
theorem bt_range (s : ByteArray) (i : Int) : 0 ≤ bt s i ∧ bt s i < 256 := by
  unfold bt
  split
  · rename_i h
    have := (s[i.toNat]'h).toNat_lt
    omega
  · omega
def pv (s : ByteArray) : Int := 16777216 * bt s 0 + 65536 * bt s 1 + 256 * bt s 2 + bt s 3
theorem pv_range (s : ByteArray) : 0 ≤ pv s ∧ pv s < 4294967296 := by
  have h0 := bt_range s 0; have h1 := bt_range s 1; have h2 := bt_range s 2; have h3 := bt_range s 3
  unfold pv; omega
theorem nacc_step (x y : Int) (h0 : 0 ≤ x) (h1 : x < 16777216) (h2 : 0 ≤ y) (h3 : y < 256) : bits .or .i64 (wrap64 (x * 256)) (wrap64 y) = x * 256 + y := by
  obtain ⟨a, rfl⟩ := Int.eq_ofNat_of_zero_le h0
  obtain ⟨b, rfl⟩ := Int.eq_ofNat_of_zero_le h2
  rw [w64 (x := (a : Int) * 256) (by omega), w64 (x := (b : Int)) (by omega)]
  have := or_addN a b 8 (by omega) (by omega) (by omega)
  rw [show ((2 ^ 8 * a : Nat) : Int) = (a : Int) * 256 by omega] at this
  rw [this]; omega
theorem bit31 (v : Int) (h0 : 0 ≤ v) (h1 : v < 4294967296) : (bits .and .i64 v 2147483648 != (0 : Int)) = decide (2147483648 ≤ v) := by
  obtain ⟨m, rfl⟩ := Int.eq_ofNat_of_zero_le h0
  have := and_nat m 2147483648 (by omega) (by omega)
  rw [show ((2147483648 : Nat) : Int) = 2147483648 from rfl] at this
  rw [this, show 2147483648 = 2 ^ 31 from rfl, and_pow]
  by_cases c : m / 2 ^ 31 % 2 = 1
  · rw [if_pos c, decide_eq_true (show (2147483648 : Int) ≤ (m : Int) by omega)]; rfl
  · rw [if_neg c, decide_eq_false (show ¬ (2147483648 : Int) ≤ (m : Int) by omega)]; rfl
theorem rest31 (v : Int) (h0 : 0 ≤ v) (h1 : v < 4294967296) : bits .andNot .i64 v 2147483648 = v % 2147483648 := by
  obtain ⟨m, rfl⟩ := Int.eq_ofNat_of_zero_le h0
  have := andNot_nat m 2147483648 (by omega) (by omega)
  rw [show ((2147483648 : Nat) : Int) = 2147483648 from rfl] at this
  rw [this]
  have e : m &&& (2 ^ 64 - (2147483648 + 1)) = m % 2 ^ 31 := by
    apply Nat.eq_of_testBit_eq
    intro j
    rw [Nat.testBit_and, Nat.testBit_two_pow_sub_succ (by omega), Nat.testBit_mod_two_pow, show 2147483648 = 2 ^ 31 from rfl, Nat.testBit_two_pow]
    by_cases c : j < 31
    · simp [c, show j < 64 by omega, show ¬ 31 = j by omega]
    · by_cases d : j = 31
      · subst d; simp
      · have : m.testBit j = false := Nat.testBit_lt_two_pow (Nat.lt_of_lt_of_le (show m < 2 ^ 32 by omega) (Nat.pow_le_pow_right (by omega) (by omega)))
        simp [this]
  rw [e]; omega
def parseE (s : ByteArray) : Bool := decide (2147483648 ≤ pv s)
def parseN (s : ByteArray) : Int := pv s % 2147483648
def parseX (s : ByteArray) : Int := if (s.size : Int) < 4 then 3 else if (s.size : Int) > 4 then 4 else if right (parseE s) (parseN s) = true then 0 else 2
def parseB (s : ByteArray) : Bool := decide (parseX s = 0)
def printV (e : Bool) (n : Int) : Int := if e = true then n + 2147483648 else n
def printB (e : Bool) (n : Int) : ByteArray := if right e n = true then strOfNums [printV e n / 16777216 % 256, printV e n / 65536 % 256, printV e n / 256 % 256, printV e n % 256] else .empty
theorem wu8 (x : Int) : IntKind.wrap IntKind.u8 x = x % 256 := by rw [IntKind.wrap_u8]
theorem wu32 (x : Int) : IntKind.wrap IntKind.u32 x = x % 4294967296 := by rw [IntKind.wrap_u32]
theorem or31 (n : Int) (h0 : 0 ≤ n) (h1 : n ≤ 536870911) : bits .or .u32 n 2147483648 = n + 2147483648 := by
  obtain ⟨m, rfl⟩ := Int.eq_ofNat_of_zero_le h0
  have := (bits_nat .u32 32 (by decide) (fun n a b => by rw [IntKind.wrap_u32]; omega) m 2147483648 (by omega) (by omega)).2
  rw [show ((2147483648 : Nat) : Int) = 2147483648 from rfl] at this
  rw [this, Nat.or_comm, show 2147483648 = 2 ^ 31 * 1 from rfl, ← Nat.two_pow_add_eq_or_of_lt (show m < 2 ^ 31 by omega)]
  omega
-- not reached here: omnibus/ident.Print
def pvk (s : ByteArray) : Nat → Int
  | 0 => 0
  | k + 1 => pvk s k * 256 + bt s k
theorem pvk_4 (s : ByteArray) : pvk s 4 = pv s := by
  simp only [pvk, pv]
  rw [show ((0 : Nat) : Int) = 0 from rfl, show ((1 : Nat) : Int) = 1 from rfl, show ((2 : Nat) : Int) = 2 from rfl, show ((3 : Nat) : Int) = 3 from rfl]
  omega
theorem pvk_range (s : ByteArray) (k : Nat) (h : k ≤ 3) : 0 ≤ pvk s k ∧ pvk s k < 16777216 := by
  have h0 := bt_range s 0; have h1 := bt_range s 1; have h2 := bt_range s 2
  match k, h with
  | 0, _ => exact ⟨Int.le_refl 0, by show (0 : Int) < 16777216; omega⟩
  | 1, _ => simp only [pvk]; rw [show ((0 : Nat) : Int) = 0 from rfl]; omega
  | 2, _ => simp only [pvk]; rw [show ((0 : Nat) : Int) = 0 from rfl, show ((1 : Nat) : Int) = 1 from rfl]; omega
  | 3, _ => simp only [pvk]; rw [show ((0 : Nat) : Int) = 0 from rfl, show ((1 : Nat) : Int) = 1 from rfl, show ((2 : Nat) : Int) = 2 from rfl]; omega
-- not reached here: omnibus/ident.Parse
end Go.Proofs.Ytelpblhhpdonkaa.X
