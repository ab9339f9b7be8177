/- The plain law of the sums of 16 bits, on natural numbers: the step is linear, turns no number but 0 into 0, and a run of at most sixteen turned bits is told. -/
import Derived.Laws.BitsAllLaws
import Derived.RowKit
set_option linter.unusedVariables false
set_option linter.unusedSimpArgs false
namespace Go.Proofs.Ythnnnhbfhimkpaa.Math
open Go.RowKit

/-! ### The step -/
def st (r : Nat) : Nat := (2 * r) % 65536 ^^^ (r / 32768) * 4129
def sts : Nat → Nat → Nat
  | 0, r => r
  | n + 1, r => st (sts n r)
theorem st_lo {r : Nat} (h : r < 32768) : st r = 2 * r := by
  unfold st
  rw [Nat.div_eq_of_lt h, Nat.zero_mul, Nat.xor_zero, Nat.mod_eq_of_lt (by omega)]
theorem xor_lt {a b : Nat} (ha : a < 65536) (hb : b < 65536) : a ^^^ b < 65536 := Nat.xor_lt_two_pow (n := 16) ha hb
theorem st_lt {r : Nat} (h : r < 65536) : st r < 65536 := by
  unfold st
  have h1 : r / 32768 = 0 ∨ r / 32768 = 1 := by omega
  refine xor_lt (Nat.mod_lt _ (by decide)) ?_
  rcases h1 with e | e
  · rw [e, Nat.zero_mul]; decide
  · rw [e, Nat.one_mul]; decide
theorem sts_lt {r : Nat} (h : r < 65536) (n : Nat) : sts n r < 65536 := by
  induction n with
  | zero => exact h
  | succ n ih => exact st_lt ih
theorem sts_add (m n r : Nat) : sts (m + n) r = sts m (sts n r) := by
  induction m with
  | zero => rw [Nat.zero_add]; rfl
  | succ m ih => rw [Nat.succ_add]; show st _ = st _; rw [ih]
theorem mul2_xor (a b : Nat) : 2 * (a ^^^ b) = 2 * a ^^^ 2 * b := by
  have := Nat.shiftLeft_xor_distrib (a := a) (b := b) (i := 1)
  simpa [Nat.shiftLeft_eq, Nat.mul_comm] using this
theorem mod_xor (a b : Nat) : (a ^^^ b) % 65536 = a % 65536 ^^^ b % 65536 := Nat.xor_mod_two_pow (n := 16)
theorem div_xor (a b : Nat) : (a ^^^ b) / 32768 = a / 32768 ^^^ b / 32768 := by
  have := Nat.shiftRight_xor_distrib (a := a) (b := b) (i := 15)
  simpa [Nat.shiftRight_eq_div_pow] using this
theorem st_xor {a b : Nat} (ha : a < 65536) (hb : b < 65536) : st (a ^^^ b) = st a ^^^ st b := by
  unfold st
  rw [mul2_xor, mod_xor, div_xor]
  have h1 : a / 32768 = 0 ∨ a / 32768 = 1 := by omega
  have h2 : b / 32768 = 0 ∨ b / 32768 = 1 := by omega
  rcases h1 with e1 | e1 <;> rcases h2 with e2 | e2 <;> rw [e1, e2]
  · simp
  · simp [Nat.xor_assoc]
  · simp only [Nat.zero_mul, Nat.xor_zero, Nat.one_mul]
    rw [Nat.xor_assoc, Nat.xor_comm (2 * b % 65536) 4129, ← Nat.xor_assoc]
  · simp only [Nat.xor_self, Nat.zero_mul, Nat.xor_zero, Nat.one_mul]
    rw [Nat.xor_assoc (2 * a % 65536), ← Nat.xor_assoc 4129, Nat.xor_comm 4129 (2 * b % 65536), Nat.xor_assoc (2 * b % 65536), Nat.xor_self, Nat.xor_zero]
theorem sts_xor {a b : Nat} (ha : a < 65536) (hb : b < 65536) (n : Nat) : sts n (a ^^^ b) = sts n a ^^^ sts n b := by
  induction n with
  | zero => rfl
  | succ n ih => show st _ = _; rw [ih, st_xor (sts_lt ha n) (sts_lt hb n)]; rfl
theorem sts_zero (n : Nat) : sts n 0 = 0 := by
  induction n with
  | zero => rfl
  | succ n ih => show st _ = _; rw [ih]; rfl
theorem st_ne {r : Nat} (h : r < 65536) (h0 : st r = 0) : r = 0 := by
  have h1 : r / 32768 = 0 ∨ r / 32768 = 1 := by omega
  rcases h1 with e | e
  · rw [st_lo (by omega)] at h0
    omega
  · unfold st at h0
    rw [e, Nat.one_mul] at h0
    have h2 : 2 * r % 65536 = 4129 := by
      have h3 : 2 * r % 65536 ^^^ 4129 ^^^ 4129 = 0 ^^^ 4129 := by rw [h0]
      rwa [Nat.xor_assoc, Nat.xor_self, Nat.xor_zero, Nat.zero_xor] at h3
    omega
theorem sts_ne {r : Nat} (h : r < 65536) (n : Nat) (h0 : sts n r = 0) : r = 0 := by
  induction n with
  | zero => exact h0
  | succ n ih => exact ih (st_ne (sts_lt h n) h0)
/-- So long as nothing is pushed out the step doubles. -/
theorem sts_lo (n r : Nat) (h : r * 2 ^ n < 65536) : sts n r = r * 2 ^ n := by
  induction n with
  | zero => simp [sts]
  | succ n ih =>
    have e : r * 2 ^ (n + 1) = 2 * (r * 2 ^ n) := by rw [Nat.pow_succ, ← Nat.mul_assoc, Nat.mul_comm]
    have h1 : r * 2 ^ n < 32768 := by omega
    show st _ = _
    rw [ih (by omega), st_lo h1, e]

/-! ### Bytes -/
def one (r b : Nat) : Nat := sts 8 (r ^^^ 256 * b)
def crc : Nat → List UInt8 → Nat
  | r, [] => r
  | r, b :: l => crc (one r b.toNat) l
theorem one_lt {r b : Nat} (hr : r < 65536) (hb : b < 256) : one r b < 65536 := sts_lt (xor_lt hr (by omega)) 8
theorem crc_lt {r : Nat} (hr : r < 65536) (l : List UInt8) : crc r l < 65536 := by
  induction l generalizing r with
  | nil => exact hr
  | cons b l ih => exact ih (one_lt hr b.toNat_lt)
theorem crc_append (r : Nat) (l m : List UInt8) : crc r (l ++ m) = crc (crc r l) m := by
  induction l generalizing r with
  | nil => rfl
  | cons b l ih => exact ih _
theorem mul256_xor (a b : Nat) : 256 * (a ^^^ b) = 256 * a ^^^ 256 * b := by
  have := Nat.shiftLeft_xor_distrib (a := a) (b := b) (i := 8)
  simpa [Nat.shiftLeft_eq, Nat.mul_comm] using this
theorem one_xor {r s b c : Nat} (hr : r < 65536) (hs : s < 65536) (hb : b < 256) (hc : c < 256) : one (r ^^^ s) (b ^^^ c) = one r b ^^^ one s c := by
  unfold one
  rw [mul256_xor, show r ^^^ s ^^^ (256 * b ^^^ 256 * c) = (r ^^^ 256 * b) ^^^ (s ^^^ 256 * c) from by
    rw [Nat.xor_assoc, Nat.xor_assoc, ← Nat.xor_assoc s, Nat.xor_comm s, Nat.xor_assoc (256 * b)]]
  exact sts_xor (xor_lt hr (by omega)) (xor_lt hs (by omega)) 8
/-- The exclusive or of two texts of as many bytes. -/
def xors : List UInt8 → List UInt8 → List UInt8
  | b :: l, c :: m => (b ^^^ c) :: xors l m
  | _, _ => []
theorem crc_xor {r s : Nat} (hr : r < 65536) (hs : s < 65536) : ∀ (l m : List UInt8), l.length = m.length → crc (r ^^^ s) (xors l m) = crc r l ^^^ crc s m
  | [], [], _ => rfl
  | b :: l, c :: m, h => by
    show crc (one (r ^^^ s) (b ^^^ c).toNat) (xors l m) = _
    rw [UInt8.toNat_xor, one_xor hr hs b.toNat_lt c.toNat_lt]
    exact crc_xor (one_lt hr b.toNat_lt) (one_lt hs c.toNat_lt) l m (by simpa using h)
theorem one_inj {r b : Nat} (hr : r < 65536) (h : one r 0 = 0) : r = 0 := by
  unfold one at h
  rw [Nat.mul_zero, Nat.xor_zero] at h
  exact sts_ne hr 8 h
def noughts (n : Nat) : List UInt8 := List.replicate n 0
theorem crc_noughts {r : Nat} (hr : r < 65536) (n : Nat) : crc r (noughts n) = sts (8 * n) r := by
  induction n generalizing r with
  | zero => rfl
  | succ n ih =>
    show crc (one r 0) (noughts n) = _
    rw [ih (one_lt hr (by omega)), one, Nat.mul_zero, Nat.xor_zero, ← sts_add, Nat.mul_succ]
theorem crc_noughts0 (n : Nat) : crc 0 (noughts n) = 0 := by rw [crc_noughts (by omega), sts_zero]
/-- Two bytes, the higher one first, are the register itself: the sum comes to 0. -/
theorem crc_closed {r : Nat} (hr : r < 65536) : crc r [UInt8.ofNat (r / 256), UInt8.ofNat (r % 256)] = 0 := by
  have e1 : (UInt8.ofNat (r / 256)).toNat = r / 256 := by simp; omega
  have e2 : (UInt8.ofNat (r % 256)).toNat = r % 256 := by simp
  show one (one r _) _ = 0
  rw [e1, e2]
  have hx : r ^^^ 256 * (r / 256) = r % 256 := by
    have h1 : r = 256 * (r / 256) + r % 256 := by omega
    have h2 : 256 * (r / 256) ^^^ r % 256 = r := by
      apply Nat.eq_of_testBit_eq
      intro i
      rw [Nat.testBit_xor, show (256 : Nat) = 2 ^ 8 from rfl, Nat.testBit_mod_two_pow, Nat.testBit_two_pow_mul, Nat.testBit_div_two_pow]
      by_cases h : i < 8
      · simp [h, Nat.not_le.2 h]
      · simp [h, Nat.not_lt.1 h]
    conv => lhs; lhs; rw [← h2]
    rw [Nat.xor_comm (256 * (r / 256)), Nat.xor_assoc, Nat.xor_self, Nat.xor_zero]
  have hx2 : sts 8 (r % 256) = 256 * (r % 256) := by rw [sts_lo 8 _ (by omega), Nat.mul_comm]
  unfold one
  rw [hx, hx2, Nat.xor_self, sts_zero]

/-! ### Turned bits -/
theorem xors_length : ∀ (l m : List UInt8), l.length = m.length → (xors l m).length = l.length
  | [], [], _ => rfl
  | b :: l, c :: m, h => by show (xors l m).length + 1 = l.length + 1; rw [xors_length l m (by simpa using h)]
theorem xors_get : ∀ (l m : List UInt8) (h : l.length = m.length) (i : Nat) (h1 : i < (xors l m).length) (h2 : i < l.length) (h3 : i < m.length), (xors l m)[i] = l[i] ^^^ m[i]
  | b :: l, c :: m, h, 0, _, _, _ => rfl
  | b :: l, c :: m, h, i + 1, h1, h2, h3 => xors_get l m (by simpa using h) i _ _ _
/-- One byte e at place p of n, all others 0. -/
def single (n p : Nat) (e : UInt8) : List UInt8 := (List.range n).map fun j => if j = p then e else 0
theorem single_length (n p : Nat) (e : UInt8) : (single n p e).length = n := by simp [single]
theorem single_get (n p : Nat) (e : UInt8) (i : Nat) (h : i < (single n p e).length) : (single n p e)[i] = if i = p then e else 0 := by simp [single]
theorem single_out (n p : Nat) (e : UInt8) (h : n ≤ p) : single n p e = noughts n := by
  apply List.ext_getElem
  · simp [single, noughts]
  · intro i h1 h2
    rw [single_length] at h1
    rw [single_get, if_neg (by omega)]
    simp [noughts]
theorem single_in (n p : Nat) (e : UInt8) (h : p < n) : single n p e = noughts p ++ e :: noughts (n - p - 1) := by
  apply List.ext_getElem
  · simp [single, noughts]; omega
  · intro i h1 h2
    rw [single_length] at h1
    rw [single_get, List.getElem_append]
    by_cases c : i < p
    · rw [if_neg (by omega), dif_pos (by simpa [noughts] using c)]
      simp [noughts]
    · rw [dif_neg (by simpa [noughts] using c)]
      by_cases c2 : i = p
      · subst c2; simp [noughts]
      · rw [if_neg c2, List.getElem_cons, dif_neg (by simp [noughts]; omega)]
        simp [noughts]
theorem crc_single {n p : Nat} (e : UInt8) (h : p < n) : crc 0 (single n p e) = sts (8 * (n - p) + 8) e.toNat := by
  have he := e.toNat_lt
  rw [single_in n p e h, crc_append, crc_noughts0]
  show crc (one 0 e.toNat) _ = _
  rw [crc_noughts (one_lt (by omega) he), one, Nat.zero_xor, show 256 * e.toNat = sts 8 e.toNat from by rw [sts_lo 8 _ (by omega), Nat.mul_comm], ← sts_add, ← sts_add]
  congr 1
  omega
theorem crc_single_out {n p : Nat} (e : UInt8) (h : n ≤ p) : crc 0 (single n p e) = 0 := by rw [single_out n p e h, crc_noughts0]
/-- A number of 24 bits as three bytes from place q on, what lies beyond n left out. -/
def errs (n q M : Nat) : List UInt8 := xors (single n q (UInt8.ofNat (M / 65536))) (xors (single n (q + 1) (UInt8.ofNat (M / 256 % 256))) (single n (q + 2) (UInt8.ofNat (M % 256))))
theorem errs_length (n q M : Nat) : (errs n q M).length = n := by
  unfold errs
  rw [xors_length, single_length]
  rw [xors_length, single_length, single_length]
  rw [single_length, single_length]
theorem errs_get (n q M i : Nat) (h : i < (errs n q M).length) : (errs n q M)[i] = if i = q then UInt8.ofNat (M / 65536) else if i = q + 1 then UInt8.ofNat (M / 256 % 256) else if i = q + 2 then UInt8.ofNat (M % 256) else 0 := by
  have hl := errs_length n q M
  have l1 : ∀ p e, (single n p e).length = n := single_length n
  have l2 : ∀ p e p' e', (xors (single n p e) (single n p' e')).length = n := fun p e p' e' => by rw [xors_length _ _ (by rw [l1, l1]), l1]
  revert h
  unfold errs
  intro h
  have hi : i < n := by rw [xors_length _ _ (by rw [l1, l2]), l1] at h; exact h
  rw [xors_get _ _ (by rw [l1, l2]) i _ (by rw [l1]; omega) (by rw [l2]; omega), xors_get _ _ (by rw [l1, l1]) i _ (by rw [l1]; omega) (by rw [l1]; omega), single_get, single_get, single_get]
  by_cases c1 : i = q
  · rw [if_pos c1, if_pos c1, if_neg (by omega), if_neg (by omega)]; simp
  · by_cases c2 : i = q + 1
    · rw [if_neg c1, if_neg c1, if_pos c2, if_pos c2, if_neg (by omega)]; simp
    · by_cases c3 : i = q + 2
      · rw [if_neg c1, if_neg c1, if_neg c2, if_neg c2, if_pos c3]; simp
      · rw [if_neg c1, if_neg c1, if_neg c2, if_neg c2, if_neg c3]; simp
theorem ofNat_toNat {a : Nat} (h : a < 256) : (UInt8.ofNat a).toNat = a := by
  rw [UInt8.toNat_ofNat']
  exact Nat.mod_eq_of_lt h
theorem crc_errs (n q M : Nat) : crc 0 (errs n q M) = crc 0 (single n q (UInt8.ofNat (M / 65536))) ^^^ (crc 0 (single n (q + 1) (UInt8.ofNat (M / 256 % 256))) ^^^ crc 0 (single n (q + 2) (UInt8.ofNat (M % 256)))) := by
  have l1 : ∀ p e, (single n p e).length = n := single_length n
  have h1 := crc_xor (r := 0) (s := 0) (by omega) (by omega) (single n q (UInt8.ofNat (M / 65536))) (xors (single n (q + 1) (UInt8.ofNat (M / 256 % 256))) (single n (q + 2) (UInt8.ofNat (M % 256)))) (by rw [xors_length _ _ (by rw [l1, l1]), l1, l1])
  have h2 := crc_xor (r := 0) (s := 0) (by omega) (by omega) (single n (q + 1) (UInt8.ofNat (M / 256 % 256))) (single n (q + 2) (UInt8.ofNat (M % 256))) (by rw [l1, l1])
  rw [Nat.xor_self] at h1 h2
  unfold errs
  rw [h1, h2]
theorem add_as_xor (a b k : Nat) (h : b < 2 ^ k) : a * 2 ^ k ^^^ b = a * 2 ^ k + b := by
  rw [Nat.mul_comm, Nat.two_pow_add_eq_or_of_lt h]
  apply Nat.eq_of_testBit_eq
  intro i
  rw [Nat.testBit_xor, Nat.testBit_or, Nat.testBit_two_pow_mul]
  by_cases c : k ≤ i
  · have : b.testBit i = false := Nat.testBit_lt_two_pow (Nat.lt_of_lt_of_le h (Nat.pow_le_pow_right (by omega) c))
    simp [this]
  · simp [c]
/-- THE HEART: what sixteen bits in a row, some of them turned, leave: nothing just where none is turned (within the text). -/
theorem crc_errs_zero (n q m s : Nat) (hq : q < n) (hs : s ≤ 7) (hm : m < 65536) (h0 : crc 0 (errs n q (m * 2 ^ (8 - s))) = 0) : errs n q (m * 2 ^ (8 - s)) = noughts n := by
  have hp : 2 ^ s * 2 ^ (8 - s) = 256 := by rw [← Nat.pow_add, show s + (8 - s) = 8 by omega]
  have hps : 0 < 2 ^ s := Nat.pow_pos (by omega)
  have hpt : 0 < 2 ^ (8 - s) := Nat.pow_pos (by omega)
  have hM : m * 2 ^ (8 - s) < 16777216 := by
    have h1 : 2 ^ (8 - s) ≤ 2 ^ 8 := Nat.pow_le_pow_right (by omega) (by omega)
    have h2 : m * 2 ^ (8 - s) ≤ 65535 * 2 ^ 8 := Nat.mul_le_mul (by omega) h1
    omega
  -- the upper sixteen of the 24 bits, and the lower eight
  have hH : m * 2 ^ (8 - s) / 256 = m / 2 ^ s := by
    rw [← hp, Nat.mul_comm (2 ^ s), Nat.mul_comm m]
    exact Nat.mul_div_mul_left _ _ hpt
  have hL : m * 2 ^ (8 - s) % 256 = m % 2 ^ s * 2 ^ (8 - s) := by
    rw [← hp, Nat.mul_mod_mul_right]
  generalize hMe : m * 2 ^ (8 - s) = M at *
  have e0 : (UInt8.ofNat (M / 65536)).toNat = M / 65536 := ofNat_toNat (by omega)
  have e1 : (UInt8.ofNat (M / 256 % 256)).toNat = M / 256 % 256 := ofNat_toNat (by omega)
  have e2 : (UInt8.ofNat (M % 256)).toNat = M % 256 := ofNat_toNat (by omega)
  have hup : M / 65536 * 2 ^ 8 ^^^ M / 256 % 256 = M / 256 := by rw [add_as_xor _ _ 8 (by omega)]; omega
  have done : M / 65536 = 0 → (n ≤ q + 1 ∨ M / 256 % 256 = 0) → (n ≤ q + 2 ∨ M % 256 = 0) → errs n q M = noughts n := by
    intro a0 a1 a2
    apply List.ext_getElem
    · rw [errs_length]; simp [noughts]
    · intro i h1 h2
      have hn := errs_length n q M
      rw [errs_get]
      have : (noughts n)[i] = 0 := by simp [noughts]
      rw [this]
      by_cases c1 : i = q
      · rw [if_pos c1, a0]; rfl
      · rw [if_neg c1]
        by_cases c2 : i = q + 1
        · rw [if_pos c2, show M / 256 % 256 = 0 from by rcases a1 with h | h <;> omega]; rfl
        · rw [if_neg c2]
          by_cases c3 : i = q + 2
          · rw [if_pos c3, show M % 256 = 0 from by rcases a2 with h | h <;> omega]; rfl
          · rw [if_neg c3]
  rw [crc_errs, crc_single _ hq, e0] at h0
  by_cases hn1 : n ≤ q + 1
  · rw [crc_single_out _ hn1, crc_single_out _ (by omega), Nat.xor_self, Nat.xor_zero] at h0
    exact done (sts_ne (by omega) _ h0) (.inl hn1) (.inl (by omega))
  · rw [crc_single _ (by omega), e1] at h0
    have hx1 : sts (8 * (n - q) + 8) (M / 65536) ^^^ sts (8 * (n - (q + 1)) + 8) (M / 256 % 256) = sts (8 * (n - (q + 1)) + 8) (M / 256) := by
      rw [show 8 * (n - q) + 8 = (8 * (n - (q + 1)) + 8) + 8 by omega, sts_add, sts_lo 8 (M / 65536) (by omega), ← sts_xor (by omega) (by omega), hup]
    by_cases hn2 : n ≤ q + 2
    · rw [crc_single_out _ hn2, Nat.xor_zero, hx1] at h0
      have := sts_ne (by omega) _ h0
      exact done (by omega) (.inr (by omega)) (.inl hn2)
    · rw [crc_single _ (by omega), e2, ← Nat.xor_assoc, hx1, show 8 * (n - (q + 1)) + 8 = (8 * (n - (q + 2)) + 8) + 8 by omega, sts_add, ← sts_xor (sts_lt (by omega) _) (by omega)] at h0
      have h1 := sts_ne (xor_lt (sts_lt (by omega) _) (by omega)) _ h0
      have hml : m % 2 ^ s < 2 ^ s := Nat.mod_lt _ hps
      have h2 : sts 8 (M / 256) ^^^ M % 256 = sts (8 - s) m := by
        rw [hH, hL, show sts 8 (m / 2 ^ s) = sts (8 - s) (sts s (m / 2 ^ s)) from by rw [← sts_add]; congr 1; omega]
        have hle : m / 2 ^ s * 2 ^ s ≤ m := Nat.div_mul_le_self _ _
        have hlt : m % 2 ^ s * 2 ^ (8 - s) < 65536 := by rw [← hL]; omega
        rw [sts_lo s _ (by omega), ← sts_lo (8 - s) _ hlt, ← sts_xor (by omega) (by have := Nat.mod_le m (2 ^ s); omega), add_as_xor _ _ s hml, Nat.mul_comm, Nat.div_add_mod]
      rw [h2] at h1
      have hm0 := sts_ne hm _ h1
      subst hm0
      rw [Nat.zero_mul] at hMe
      subst hMe
      exact done (by omega) (.inr (by omega)) (.inr (by omega))
end Go.Proofs.Ythnnnhbfhimkpaa.Math
