/- What the printed functions of the package vec come to: how many nodes below n a vector has. -/
import Derived.Test.YtbndfdplcojjgaaQx8
import Derived.Test.YtbndfdplcojjgaaQx9
set_option linter.unusedVariables false
set_option linter.unusedSimpArgs false
namespace Go.Proofs.Ytbndfdplcojjgaa.Count
open Go.RowKit Go.Proofs.Ytbndfdplcojjgaa.Q Go.Proofs.YtbndfdplcojjgaaW.PrintWords Go.Proofs.YtbndfdplcojjgaaW.PrintLast Go.Proofs.YtbndfdplcojjgaaW.PrintMore

theorem wraps_i64 (n : Int) (h₀ : 0 ≤ n) (h₁ : n < 2 ^ 63) : IntKind.i64.wrap n = n := by rw [IntKind.wrap_i64]; omega
theorem and_nat (a b : Nat) (ha : a < 2 ^ 63) (hb : b < 2 ^ 63) : Go.bits .and .i64 a b = ((a &&& b : Nat) : Int) := (bits_nat .i64 63 (by decide) wraps_i64 a b ha hb).1
theorem or_nat (a b : Nat) (ha : a < 2 ^ 63) (hb : b < 2 ^ 63) : Go.bits .or .i64 a b = ((a ||| b : Nat) : Int) := (bits_nat .i64 63 (by decide) wraps_i64 a b ha hb).2
theorem w64 (x : Int) (h : -9223372036854775808 ≤ x) (h' : x < 9223372036854775808) : wrap64 x = x := by unfold wrap64; omega

/-- How many below k have the property. -/
def cN (p : Nat → Bool) : Nat → Nat
  | 0 => 0
  | k + 1 => cN p k + (if p k = true then 1 else 0)
theorem cN_le (p : Nat → Bool) (k : Nat) : cN p k ≤ k := by
  induction k with
  | zero => simp [cN]
  | succ k ih => unfold cN; split <;> omega
theorem cN_congr (p q : Nat → Bool) (k : Nat) (h : ∀ i, i < k → p i = q i) : cN p k = cN q k := by
  induction k with
  | zero => rfl
  | succ k ih => unfold cN; rw [ih (fun i hi => h i (by omega)), h k (by omega)]
theorem cN_mono (p q : Nat → Bool) (k : Nat) (h : ∀ i, i < k → p i = true → q i = true) : cN p k ≤ cN q k := by
  induction k with
  | zero => exact Nat.le_refl _
  | succ k ih =>
    have := ih (fun i hi => h i (by omega)); have e := h k (by omega); unfold cN
    by_cases c : p k = true
    · rw [if_pos c, if_pos (e c)]; omega
    · rw [if_neg c]; split <;> omega
theorem cN_apart (p q : Nat → Bool) (k : Nat) (h : ∀ i, i < k → ¬ (p i = true ∧ q i = true)) : cN p k + cN q k ≤ k := by
  induction k with
  | zero => exact Nat.le_refl _
  | succ k ih =>
    have := ih (fun i hi => h i (by omega)); have e := h k (by omega); unfold cN
    by_cases c : p k = true
    · rw [if_pos c, if_neg (fun d => e ⟨c, d⟩)]; omega
    · rw [if_neg c]; split <;> omega
theorem cN_false (k : Nat) : cN (fun _ => false) k = 0 := by
  induction k with
  | zero => rfl
  | succ k ih => unfold cN; rw [ih]; rfl
theorem cN_true (k : Nat) : cN (fun _ => true) k = k := by
  induction k with
  | zero => rfl
  | succ k ih => unfold cN; rw [ih]; rfl
/-- Those below n, out of more. -/
theorem cN_cut (p : Nat → Bool) (n : Nat) : ∀ k, n ≤ k → cN (fun i => p i && decide (i < n)) k = cN p n := by
  intro k h
  induction k with
  | zero => have : n = 0 := by omega
            subst this; rfl
  | succ k ih =>
    by_cases c : n = k + 1
    · subst c; exact cN_congr _ _ _ (fun i hi => by simp [hi])
    · have e : cN (fun i => p i && decide (i < n)) (k + 1) = cN (fun i => p i && decide (i < n)) k + (if (p k && decide (k < n)) = true then 1 else 0) := rfl
      rw [e, ih (by omega), show decide (k < n) = false from decide_eq_false (by omega)]; simp
theorem vbit_nat (v : Nat) (hv : v < 65536) (k : Nat) : vbit (v : Int) k = v.testBit k := by
  have e : (v : Int) / 2 ^ k = ((v / 2 ^ k : Nat) : Int) := by norm_cast
  have lt : v / 2 ^ k < 2 ^ 63 := Nat.lt_of_le_of_lt (Nat.div_le_self _ _) (by omega)
  unfold vbit; rw [e, show (1 : Int) = ((1 : Nat) : Int) from rfl, and_nat _ 1 lt (by decide), Nat.and_one_is_mod, Nat.testBit_eq_decide_div_mod_eq]
  by_cases c : v / 2 ^ k % 2 = 1
  · rw [c]; rfl
  · have : v / 2 ^ k % 2 = 0 := by omega
    rw [this]; rfl
theorem vl_len (v : Nat) (hv : v < 65536) (k : Nat) : (vl (v : Int) k).length = cN v.testBit k := by
  induction k with
  | zero => rfl
  | succ k ih => unfold vl cN; rw [vbit_nat v hv]; split <;> simp [ih]
theorem cntW_from (l : List Int) : ∀ s : Int, 0 ≤ s → s + l.length < 9223372036854775808 → l.foldl (fun s _ => wrap64 (s + 1)) s = s + l.length := by
  induction l with
  | nil => intro s _ _; simp
  | cons x l ih =>
    intro s h h'; simp only [List.length_cons] at h'
    rw [List.foldl_cons, w64 (s + 1) (by omega) (by omega), ih (s + 1) (by omega) (by omega)]; simp only [List.length_cons]; omega
theorem count_nat (v : Nat) (hv : v < 65536) : vec_Count.f (v : Int) = some ((cN v.testBit 16 : Nat) : Int) := by
  unfold vec_Count.f cntW
  have := vl_length (v : Int) 16
  rw [cntW_from _ 0 (by omega) (by omega), vl_len v hv]; simp
theorem all_nat (n : Nat) (h : n ≤ 16) : vec_All.f (n : Int) = some ((2 ^ n - 1 : Nat) : Int) := by
  have : n = 0 ∨ n = 1 ∨ n = 2 ∨ n = 3 ∨ n = 4 ∨ n = 5 ∨ n = 6 ∨ n = 7 ∨ n = 8 ∨ n = 9 ∨ n = 10 ∨ n = 11 ∨ n = 12 ∨ n = 13 ∨ n = 14 ∨ n = 15 ∨ n = 16 := by omega
  rcases this with rfl | rfl | rfl | rfl | rfl | rfl | rfl | rfl | rfl | rfl | rfl | rfl | rfl | rfl | rfl | rfl | rfl <;> decide +kernel
theorem all_lt (n : Nat) (h : n ≤ 16) : 2 ^ n - 1 < 65536 := by
  have := Nat.pow_le_pow_right (n := 2) (by omega) h
  have : 2 ^ n ≤ 65536 := this
  have := Nat.two_pow_pos n
  omega
theorem and_all (a n : Nat) (h : n ≤ 16) : cN (a &&& (2 ^ n - 1)).testBit 16 = cN a.testBit n := by
  rw [← cN_cut a.testBit n 16 h]
  exact cN_congr _ _ _ (fun i hi => by rw [Nat.testBit_and, Nat.testBit_two_pow_sub_one])
theorem most_nat (a n : Nat) (ha : a < 65536) (h1 : 1 ≤ n) (h : n ≤ 16) : vec_Most.f (a : Int) (n : Int) = some (decide (n < 2 * cN a.testBit n)) := by
  have lt : a &&& (2 ^ n - 1) < 65536 := Nat.lt_of_le_of_lt Nat.and_le_left ha
  have l := all_lt n h
  have cl := cN_le a.testBit n
  unfold vec_Most.f
  rw [if_pos (by omega), if_pos (by omega), all_nat n h, Option.bind_some, and_nat _ _ (by omega) (by omega), count_nat _ lt, Option.bind_some, and_all a n h, w64 _ (by omega) (by omega)]
  congr 1; apply decide_eq_decide.mpr; omega
theorem has_nat (a i : Nat) (ha : a < 65536) (h : i < 16) : vec_Has.f (a : Int) (i : Int) = some (a.testBit i) := by
  unfold vec_Has.f vec_node.f
  rw [if_pos (by omega), Option.bind_some, if_pos (by simp; omega), if_pos (by omega)]
  have e : shr .i64 (a : Int) (i : Int) = (a : Int) / 2 ^ i := by unfold shr; rw [Int.toNat_natCast, Nat.min_eq_left (Nat.le_trans (Nat.le_of_lt h) (by decide))]
  rw [e, ← vbit_nat a ha i]; rfl
theorem pick_nat (a n : Int) (h : (Lit.int .i64 a).wf = true) (hn : 0 < n) (hn' : n ≤ 65536) : ∃ p : Nat, (p : Int) < n ∧ omnibuslaw03_pick.f a n = some (p : Int) := by
  have hw : -9223372036854775808 ≤ a ∧ a < 9223372036854775808 := by
    simp [Lit.wf, IntKind.min, IntKind.max, IntKind.bits, IntKind.signed] at h
    omega
  unfold omnibuslaw03_pick.f
  by_cases c : a < 0
  · rw [if_pos c, if_neg (by omega), w64 (a + 1) (by omega) (by omega), w64 _ (by omega) (by omega)]
    refine ⟨(Int.tmod (-(a + 1)) n).toNat, ?_, ?_⟩ <;> rw [Int.toNat_of_nonneg (Int.tmod_nonneg _ (by omega))]
    exact Int.tmod_lt_of_pos _ hn
  · rw [if_neg c, if_neg (by omega)]
    refine ⟨(Int.tmod a n).toNat, ?_, ?_⟩ <;> rw [Int.toNat_of_nonneg (Int.tmod_nonneg _ (by omega))]
    exact Int.tmod_lt_of_pos _ hn
theorem awake_true : omnibuslaw03_awake.f 8 = some true := by decide +kernel
end Go.Proofs.Ytbndfdplcojjgaa.Count
