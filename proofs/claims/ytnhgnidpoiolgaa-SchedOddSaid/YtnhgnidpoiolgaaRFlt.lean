/- Whole numbers as floats: exact below 2 ^ 53. -/
import Derived.Test.YtnhgnidpoiolgaaRUni
namespace Go.Proofs.Ytnhgnidpoiolgaa.X
open Go Go.RX Go.RowKit Go.Proofs
set_option linter.unusedVariables false
set_option linter.unusedSimpArgs false
theorem log2_is {n k : Nat} (h1 : 2 ^ k ≤ n) (h2 : n < 2 ^ (k + 1)) : n.log2 = k := by
  have h0 : n ≠ 0 := by
    have := Nat.pow_pos (n := k) (show 0 < 2 by decide); omega
  have a := (Nat.le_log2 h0).mpr h1
  have b := (Nat.log2_lt h0).mpr h2
  omega
theorem log2_rng {n : Nat} (h : 0 < n) : 2 ^ n.log2 ≤ n ∧ n < 2 ^ (n.log2 + 1) := ⟨(Nat.le_log2 (by omega)).mp (Nat.le_refl _), (Nat.log2_lt (by omega)).mp (Nat.lt_succ_self _)⟩
theorem log2_mul {n b : Nat} (h : 0 < n) : (n * 2 ^ b).log2 = n.log2 + b := by
  obtain ⟨h1, h2⟩ := log2_rng h
  refine log2_is ?_ ?_
  · rw [Nat.pow_add]; exact Nat.mul_le_mul_right _ h1
  · rw [show n.log2 + b + 1 = (n.log2 + 1) + b by omega, Nat.pow_add]; exact Nat.mul_lt_mul_of_pos_right h2 (Nat.pow_pos (by decide))
theorem cut_exact (way : Ieee.Toward) (hw : way = .even ∨ way = .zero) (m d : Nat) : way.cut false (m * 2 ^ d) d = m := by
  unfold Ieee.Toward.cut
  rcases Nat.eq_zero_or_pos m with h | h
  · subst h
    have e : (0 * 2 ^ d : Nat) = 0 := Nat.zero_mul _
    rw [e]
    have hg : 0 < 1 <<< min d ((0 : Nat).log2 + 2) := by rw [Nat.one_shiftLeft]; exact Nat.pow_pos (by decide)
    generalize 1 <<< min d ((0 : Nat).log2 + 2) = g at hg
    rcases hw with rfl | rfl
    · simp [Nat.zero_div, Nat.zero_mod]
    · simp [Nat.zero_div, Nat.zero_mod]
  · have hl := log2_mul (b := d) h
    have e : min d ((m * 2 ^ d).log2 + 2) = d := by omega
    rw [e, Nat.one_shiftLeft]
    have hp : 0 < 2 ^ d := Nat.pow_pos (by decide)
    have e1 : m * 2 ^ d / 2 ^ d = m := Nat.mul_div_cancel _ hp
    have e2 : m * 2 ^ d % 2 ^ d = 0 := Nat.mul_mod_left _ _
    simp only [e1, e2]
    rcases hw with rfl | rfl
    · have h3 : ¬ (2 ^ d : Nat) = 0 := by omega
      simp [h3]
    · rfl
def rungF (n : Nat) : Nat := (n.log2 + 1022) * 4503599627370496 + n * 2 ^ (52 - n.log2)
theorem kept_rng {n : Nat} (h : 0 < n) (h2 : n < 9007199254740992) : n.log2 ≤ 52 ∧ 4503599627370496 ≤ n * 2 ^ (52 - n.log2) ∧ n * 2 ^ (52 - n.log2) < 9007199254740992 := by
  obtain ⟨a, b⟩ := log2_rng h
  have hl : n.log2 ≤ 52 := by
    have : n.log2 < 53 := (Nat.log2_lt (by omega)).mpr h2
    omega
  have hp : 0 < 2 ^ (52 - n.log2) := Nat.pow_pos (by decide)
  have c1 : 2 ^ n.log2 * 2 ^ (52 - n.log2) = 4503599627370496 := by rw [← Nat.pow_add, show n.log2 + (52 - n.log2) = 52 by omega]
  have c2 : 2 ^ (n.log2 + 1) * 2 ^ (52 - n.log2) = 9007199254740992 := by rw [← Nat.pow_add, show n.log2 + 1 + (52 - n.log2) = 53 by omega]
  exact ⟨hl, c1 ▸ Nat.mul_le_mul_right _ a, c2 ▸ Nat.mul_lt_mul_of_pos_right b hp⟩
theorem nearest_exact {n : Nat} (b : Nat) (h : 0 < n) (h2 : n < 9007199254740992) : Ieee.double.nearest false (n * 2 ^ b) (-(b : Int)) = rungF n := by
  obtain ⟨hl, k1, k2⟩ := kept_rng h h2
  have hlog := log2_mul (b := b) h
  have hm : ¬ n * 2 ^ b = 0 := Nat.pos_iff_ne_zero.mp (Nat.mul_pos h (Nat.pow_pos (by decide)))
  have hlp : Ieee.double.leastPlace = -1074 := by decide
  have hbn : Ieee.double.binade = 4503599627370496 := by decide
  have hin : Ieee.double.infRung = 2047 * 4503599627370496 := by decide
  have hfr : Ieee.double.fractionBits = 52 := rfl
  unfold Ieee.Format.nearest
  rw [if_neg hm, hlog, hlp, hbn, hin, hfr]
  have hlast : max (-(b : Int) + ((n.log2 + b : Nat) : Int) - ((52 : Nat) : Int)) (-1074) = (n.log2 : Int) - 52 := by omega
  simp only [hlast]
  have hr : ((n.log2 : Int) - 52 - -1074).toNat = n.log2 + 1022 := by omega
  have hcut : Ieee.Toward.even.cut false ((n * 2 ^ b) <<< (-(b : Int) - ((n.log2 : Int) - 52)).toNat) ((n.log2 : Int) - 52 - -(b : Int)).toNat = n * 2 ^ (52 - n.log2) := by
    rcases Nat.lt_or_ge (52 - n.log2) b with c | c
    · have e1 : (-(b : Int) - ((n.log2 : Int) - 52)).toNat = 0 := by omega
      have e2 : ((n.log2 : Int) - 52 - -(b : Int)).toNat = b - (52 - n.log2) := by omega
      rw [e1, e2, Nat.shiftLeft_zero]
      have e3 : n * 2 ^ b = (n * 2 ^ (52 - n.log2)) * 2 ^ (b - (52 - n.log2)) := by
        rw [Nat.mul_assoc, ← Nat.pow_add, show 52 - n.log2 + (b - (52 - n.log2)) = b by omega]
      rw [e3]
      exact cut_exact .even (.inl rfl) _ _
    · have e1 : (-(b : Int) - ((n.log2 : Int) - 52)).toNat = 52 - n.log2 - b := by omega
      have e2 : ((n.log2 : Int) - 52 - -(b : Int)).toNat = 0 := by omega
      rw [e1, e2, Nat.shiftLeft_eq, Nat.mul_assoc, ← Nat.pow_add, show b + (52 - n.log2 - b) = 52 - n.log2 by omega]
      have := cut_exact .even (.inl rfl) (n * 2 ^ (52 - n.log2)) 0
      rw [Nat.pow_zero, Nat.mul_one] at this
      exact this
  rw [hcut, hr]
  have hle : ∀ L K : Nat, L ≤ 52 → K < 9007199254740992 → (L + 1022) * 4503599627370496 + K ≤ 2047 * 4503599627370496 := fun L K a b => by omega
  rw [Nat.min_eq_left (hle _ _ hl k2)]
  unfold Ieee.Format.word rungF
  rw [if_neg (by decide)]
/-- A whole number's float. -/
def fB (n : Nat) : Nat := floatOfInt .f64 (n : Int)
theorem fB_near (n : Nat) : fB n = Ieee.double.nearest false n 0 := by
  have e1 : ((n : Int) < 0) = False := eq_false (by omega)
  have e2 : ((n : Int)).natAbs = n := Int.natAbs_natCast n
  show Ieee.double.nearest (decide ((n : Int) < 0)) (n : Int).natAbs 0 = _
  rw [e2, decide_eq_false (by omega)]
theorem fB_zero : fB 0 = 0 := by decide
theorem fB_is {n : Nat} (h : 0 < n) (h2 : n < 9007199254740992) : fB n = rungF n := by
  have := nearest_exact 0 h h2
  rw [Nat.pow_zero, Nat.mul_one] at this
  rw [fB_near]; exact this
theorem fB_read {n : Nat} (h2 : n < 9007199254740992) : ∃ b : Nat, Ieee.double.read (fB n) = .number false (n * 2 ^ b) (-(b : Int)) := by
  rcases Nat.eq_zero_or_pos n with h | h
  · subst h
    obtain ⟨b, hb⟩ : ∃ b : Nat, b = 1074 := ⟨_, rfl⟩
    exact ⟨b, by rw [fB_zero, Nat.zero_mul, hb]; decide⟩
  · refine ⟨52 - n.log2, ?_⟩
    obtain ⟨hl, k1, k2⟩ := kept_rng h h2
    have hlp : Ieee.double.leastPlace = -1074 := by decide
    have hbn : Ieee.double.binade = 4503599627370496 := by decide
    have hin : Ieee.double.infRung = 2047 * 4503599627370496 := by decide
    have hsw : Ieee.double.signWeight = 9223372036854775808 := by decide
    rw [fB_is h h2]
    unfold rungF Ieee.Format.read
    rw [hlp, hbn, hin, hsw]
    generalize hK : n * 2 ^ (52 - n.log2) = K at k1 k2
    generalize hL : n.log2 = L at hl
    have q1 : ((L + 1022) * 4503599627370496 + K) / 9223372036854775808 = 0 := by omega
    have q2 : ((L + 1022) * 4503599627370496 + K) % 9223372036854775808 = (L + 1022) * 4503599627370496 + K := by omega
    simp only [q1, q2]
    rw [if_neg (by omega), if_pos (by omega)]
    have q3 : ((L + 1022) * 4503599627370496 + K) % 4503599627370496 = K - 4503599627370496 := by omega
    have q4 : ((L + 1022) * 4503599627370496 + K) / 4503599627370496 = L + 1023 := by omega
    have q5 : 4503599627370496 + (K - 4503599627370496) = K := by omega
    have q6 : (-1074 : Int) + ((L + 1023 - 1 : Nat) : Int) = -((52 - L : Nat) : Int) := by omega
    rw [q3, q4, q5, q6]
    rfl
theorem signed_up (m b c : Nat) (h : b ≤ c) : Ieee.signed false (m * 2 ^ b) (-(b : Int) - -(c : Int)).toNat = ((m * 2 ^ c : Nat) : Int) := by
  show (((m * 2 ^ b) <<< (-(b : Int) - -(c : Int)).toNat : Nat) : Int) = _
  rw [show (-(b : Int) - -(c : Int)).toNat = c - b by omega, Nat.shiftLeft_eq, Nat.mul_assoc, ← Nat.pow_add, show b + (c - b) = c by omega]
theorem write_exact {n : Nat} (b : Nat) (h2 : n < 9007199254740992) : Ieee.double.nearest false (n * 2 ^ b) (-(b : Int)) = fB n := by
  rcases Nat.eq_zero_or_pos n with h | h
  · subst h
    rw [fB_zero, Nat.zero_mul]; rfl
  · rw [nearest_exact b h h2, fB_is h h2]
theorem fB_add {m n : Nat} (h : m + n < 9007199254740992) : floatBits .add .f64 (fB m) (fB n) = some (fB (m + n)) := by
  obtain ⟨i, hi⟩ := fB_read (n := m) (by omega)
  obtain ⟨j, hj⟩ := fB_read (n := n) (by omega)
  show ((Ieee.double.read (fB m)).sum (Ieee.double.read (fB n))).map Ieee.double.write = _
  rw [hi, hj]
  have hb : min (-(i : Int)) (-(j : Int)) = -((max i j : Nat) : Int) := by omega
  unfold Ieee.Datum.sum
  simp only [hb, signed_up m i (max i j) (by omega), signed_up n j (max i j) (by omega)]
  have ht : (((m * 2 ^ max i j : Nat) : Int) + ((n * 2 ^ max i j : Nat) : Int)) = (((m + n) * 2 ^ max i j : Nat) : Int) := by
    rw [Nat.add_mul]; exact (Int.natCast_add _ _).symm
  rw [ht, Int.natAbs_natCast]
  have hneg : (if (((m + n) * 2 ^ max i j : Nat) : Int) = 0 then (false && false) else decide ((((m + n) * 2 ^ max i j : Nat) : Int) < 0)) = false := by
    split
    · rfl
    · exact decide_eq_false (by omega)
  rw [hneg]
  show some (Ieee.double.nearest false ((m + n) * 2 ^ max i j) (-((max i j : Nat) : Int))) = _
  rw [write_exact _ h]
theorem fB_mul {m n : Nat} (h1 : m < 9007199254740992) (h2 : n < 9007199254740992) (h : m * n < 9007199254740992) : floatBits .mul .f64 (fB m) (fB n) = some (fB (m * n)) := by
  obtain ⟨i, hi⟩ := fB_read (n := m) h1
  obtain ⟨j, hj⟩ := fB_read (n := n) h2
  show ((Ieee.double.read (fB m)).product (Ieee.double.read (fB n))).map Ieee.double.write = _
  rw [hi, hj]
  show some (Ieee.double.nearest false (m * 2 ^ i * (n * 2 ^ j)) (-(i : Int) + -(j : Int))) = _
  rw [show m * 2 ^ i * (n * 2 ^ j) = m * n * 2 ^ (i + j) by rw [Nat.pow_add, Nat.mul_mul_mul_comm], show -(i : Int) + -(j : Int) = -((i + j : Nat) : Int) by omega, write_exact _ h]
theorem fB_int {n : Nat} (h : n < 9007199254740992) : floatToIntVal .f64 (fB n) .i64 = some (n : Int) := by
  obtain ⟨b, hb⟩ := fB_read h
  have hd : ((FloatKind.f64.decode (fB n)).toInt .zero) = some (n : Int) := by
    show (Ieee.double.read (fB n)).toInt .zero = _
    rw [hb]
    unfold Ieee.Datum.toInt Ieee.Datum.integral
    simp only
    have e1 : (-(b : Int)).toNat = 0 := by omega
    have e2 : (-(-(b : Int))).toNat = b := by omega
    rw [e1, e2, Nat.shiftLeft_zero, cut_exact .zero (.inr rfl)]
    show some (((n <<< 0 : Nat) : Int)) = _
    rw [Nat.shiftLeft_zero]
  unfold floatToIntVal
  rw [hd]
  have e3 : IntKind.i64.min = -9223372036854775808 := by decide
  have e4 : IntKind.i64.max = 9223372036854775807 := by decide
  show (if IntKind.i64.min ≤ (n : Int) ∧ (n : Int) ≤ IntKind.i64.max then some (n : Int) else none) = _
  rw [if_pos (by rw [e3, e4]; omega)]
/-- As the runs tell it. -/
theorem fl_of {x : Int} (h : 0 ≤ x) : floatOfInt .f64 x = fB x.toNat := by unfold fB; rw [Int.toNat_of_nonneg h]
theorem fl_add {m n : Nat} (h : m + n < 9007199254740992) : fOn .add .f64 (fB m) (fB n) = true ∧ fA .add .f64 (fB m) (fB n) = fB (m + n) := by
  unfold fOn fA; rw [fB_add h]; exact ⟨rfl, rfl⟩
theorem fl_mul {m n : Nat} (h1 : m < 9007199254740992) (h2 : n < 9007199254740992) (h : m * n < 9007199254740992) : fOn .mul .f64 (fB m) (fB n) = true ∧ fA .mul .f64 (fB m) (fB n) = fB (m * n) := by
  unfold fOn fA; rw [fB_mul h1 h2 h]; exact ⟨rfl, rfl⟩
theorem fl_int {n : Nat} (h : n < 9007199254740992) : fIn .f64 (fB n) .i64 = true ∧ fI .f64 (fB n) .i64 = (n : Int) := by
  unfold fIn fI; rw [fB_int h]; exact ⟨rfl, rfl⟩
theorem fl_one : (4607182418800017408 : Nat) = fB 1 := by
  rw [fB_is (by decide) (by decide)]; decide
end Go.Proofs.Ytnhgnidpoiolgaa.X
