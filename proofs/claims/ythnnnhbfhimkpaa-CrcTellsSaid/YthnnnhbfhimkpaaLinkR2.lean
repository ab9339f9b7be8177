/- What the document's answers for layer 1 come to, in the words of the plain law. -/
import Derived.Test.YthnnnhbfhimkpaaLinkR
set_option linter.unusedVariables false
set_option linter.unusedSimpArgs false
namespace Go.Proofs.Ythnnnhbfhimkpaa.LinkR
open Go.RowKit Go.Proofs.Ythnnnhbfhimkpaa.R Go.Proofs.YthnnnhbfhimkpaaW.PrintWords Go.Proofs.YthnnnhbfhimkpaaW.PrintLast Go.Proofs.YthnnnhbfhimkpaaW.PrintMore Go.Proofs.Ythnnnhbfhimkpaa.Math

theorem rmod_eq (a : Int) (ha : -9223372036854775808 ≤ a ∧ a ≤ 9223372036854775807) : omnibusref01_mod.f a = some ((reg a : Nat) : Int) := by
  unfold omnibusref01_mod.f reg
  have key : (0 ≤ a ∧ Int.tmod a 65536 = a % 65536) ∨ (a < 0 ∧ Int.tmod a 65536 = -((-a) % 65536)) := by
    by_cases c : 0 ≤ a
    · exact .inl ⟨c, Int.tmod_eq_emod_of_nonneg c⟩
    · refine .inr ⟨by omega, ?_⟩
      have := Int.neg_tmod (-a) 65536
      rw [Int.neg_neg, Int.tmod_eq_emod_of_nonneg (show 0 ≤ -a by omega)] at this
      exact this
  by_cases c : Int.tmod a 65536 < 0
  · rw [if_pos c, wrap64_id _ (by omega) (by omega)]
    congr 1
    omega
  · rw [if_neg c]
    congr 1
    omega

/-! ### One bit -/
def rbit (x b : Nat) : Nat := if b = x / 32768 then 2 * x % 65536 else 2 * x % 65536 ^^^ 4129
theorem rbit_st (x b : Nat) (hx : x < 65536) (hb : b < 2) : rbit x b = st (x ^^^ 32768 * b) := by
  rw [st_xor hx (by omega)]
  unfold rbit
  have h1 : x / 32768 = 0 ∨ x / 32768 = 1 := by omega
  have h2 : b = 0 ∨ b = 1 := by omega
  rcases h1 with e1 | e1 <;> rcases h2 with e2 | e2 <;> subst e2
  · rw [if_pos (by omega), show st (32768 * 0) = 0 from rfl, Nat.xor_zero]; unfold st; rw [e1]; simp
  · rw [if_neg (by omega), show st (32768 * 1) = 4129 from rfl]; unfold st; rw [e1]; simp
  · rw [if_neg (by omega), show st (32768 * 0) = 0 from rfl, Nat.xor_zero]; unfold st; rw [e1, Nat.one_mul]
  · rw [if_pos (by omega), show st (32768 * 1) = 4129 from rfl]; unfold st; rw [e1, Nat.one_mul, Nat.xor_assoc, Nat.xor_self, Nat.xor_zero]
/-- The state behind j bits of a byte. -/
def mid (x b j : Nat) : Nat := sts j (x ^^^ 256 * b) ^^^ (b % 2 ^ (8 - j)) * 2 ^ (8 + j)
theorem mid_zero (x b : Nat) (hb : b < 256) : mid x b 0 = x := by
  unfold mid
  rw [show b % 2 ^ (8 - 0) * 2 ^ (8 + 0) = 256 * b by rw [Nat.mod_eq_of_lt (by simpa using hb), Nat.mul_comm], show sts 0 (x ^^^ 256 * b) = x ^^^ 256 * b from rfl, Nat.xor_assoc, Nat.xor_self, Nat.xor_zero]
theorem mid_eight (x b : Nat) : mid x b 8 = one x b := by
  unfold mid one
  rw [show 2 ^ (8 - 8) = 1 from rfl, Nat.mod_one, Nat.zero_mul, Nat.xor_zero]
theorem rem_lt (b j : Nat) (hj : j ≤ 8) : (b % 2 ^ (8 - j)) * 2 ^ (8 + j) < 65536 := by
  have h1 : b % 2 ^ (8 - j) < 2 ^ (8 - j) := Nat.mod_lt _ (Nat.pow_pos (by omega))
  have h2 : 2 ^ (8 - j) * 2 ^ (8 + j) = 65536 := by rw [← Nat.pow_add, show 8 - j + (8 + j) = 16 by omega]
  have h3 := Nat.mul_lt_mul_of_pos_right h1 (Nat.pow_pos (n := 8 + j) (show 0 < 2 by omega))
  omega
theorem mid_lt (x b j : Nat) (hx : x < 65536) (hb : b < 256) (hj : j ≤ 8) : mid x b j < 65536 := xor_lt (sts_lt (xor_lt hx (by omega)) j) (rem_lt b j hj)
theorem mid_succ (x b j : Nat) (hx : x < 65536) (hb : b < 256) (hj : j < 8) : rbit (mid x b j) (b / 2 ^ (7 - j) % 2) = mid x b (j + 1) := by
  have hβ : b / 2 ^ (7 - j) % 2 < 2 := Nat.mod_lt _ (by omega)
  rw [rbit_st _ _ (mid_lt x b j hx hb (by omega)) hβ]
  have hr : b % 2 ^ (8 - j) = b / 2 ^ (7 - j) % 2 * 2 ^ (7 - j) + b % 2 ^ (7 - j) := by
    rw [show 8 - j = (7 - j) + 1 by omega, Nat.mod_pow_succ, Nat.add_comm, Nat.mul_comm]
  have hlo : b % 2 ^ (7 - j) * 2 ^ (8 + j) < 2 ^ 15 := by
    have h1 : b % 2 ^ (7 - j) < 2 ^ (7 - j) := Nat.mod_lt _ (Nat.pow_pos (by omega))
    have h2 : 2 ^ (7 - j) * 2 ^ (8 + j) = 2 ^ 15 := by rw [← Nat.pow_add, show 7 - j + (8 + j) = 15 by omega]
    have h3 := Nat.mul_lt_mul_of_pos_right h1 (Nat.pow_pos (n := 8 + j) (show 0 < 2 by omega))
    omega
  generalize hβe : b / 2 ^ (7 - j) % 2 = β at *
  have hx2 : (b % 2 ^ (8 - j)) * 2 ^ (8 + j) ^^^ 32768 * β = b % 2 ^ (7 - j) * 2 ^ (8 + j) := by
    rw [hr, Nat.add_mul, Nat.mul_assoc, ← Nat.pow_add, show 7 - j + (8 + j) = 15 by omega, ← add_as_xor β _ 15 hlo, Nat.mul_comm 32768 β, show (32768 : Nat) = 2 ^ 15 from rfl, Nat.xor_comm (β * 2 ^ 15), Nat.xor_assoc, Nat.xor_self, Nat.xor_zero]
  unfold mid
  have hs := sts_lt (xor_lt hx (show 256 * b < 65536 by omega)) j
  rw [Nat.xor_assoc, hx2, st_xor hs (by omega), st_lo (r := b % 2 ^ (7 - j) * 2 ^ (8 + j)) (by omega), show 8 - (j + 1) = 7 - j by omega, show 2 * (b % 2 ^ (7 - j) * 2 ^ (8 + j)) = b % 2 ^ (7 - j) * 2 ^ (8 + (j + 1)) by rw [show 8 + (j + 1) = (8 + j) + 1 by omega, Nat.pow_succ, Nat.mul_comm 2, Nat.mul_assoc]]
  rfl
theorem bit_eq (b t : Nat) (hb : b < 256) (ht : t ≤ 7) : Go.bits .and .i64 (shr .i64 (wrap64 (b : Int)) (t : Int)) 1 = ((b / 2 ^ t % 2 : Nat) : Int) := by
  unfold shr
  rw [wrap64_id _ (by omega) (by omega), show min ((t : Int)).toNat IntKind.i64.bits = t by simp [IntKind.bits]; omega, show (b : Int) / 2 ^ t = ((b / 2 ^ t : Nat) : Int) by simp, show (1 : Int) = ((1 : Nat) : Int) from rfl, i64_and_nat _ _ (by have := Nat.div_le_self b (2 ^ t); omega) (by decide), Nat.and_one_is_mod]

/-! ### Add, Sum, Close, Open -/
theorem radd_l (s : ByteArray) (hs : s.size ≤ 1000000) (d : Nat) : ∀ (k x i : Nat), i ≤ s.size → s.size - i = d → 10 * d < k → x < 65536 →
    omnibusref01_Add.l0 k s (x : Int) (i : Int) = some ((crc x (s.data.toList.drop i) : Nat) : Int) := by
  induction d with
  | zero =>
    intro k x i h1 hd hk hx
    obtain ⟨k, rfl⟩ : ∃ m, k = m + 1 := ⟨k - 1, by omega⟩
    simp only [omnibusref01_Add.l0]
    rw [if_neg (by omega), List.drop_eq_nil_of_le (by rw [data_length]; omega)]
    rfl
  | succ d ih =>
    intro k x i h1 hd hk hx
    obtain ⟨k, rfl⟩ : ∃ m, k = m + 1 := ⟨k - 1, by omega⟩
    obtain ⟨h', hb⟩ := bt_get s i (by omega)
    have hbl := (s.data.toList[i]).toNat_lt
    have inner : ∀ (e r j : Nat), j ≤ 8 → 8 - j = e → 10 * d + e + 1 < r → omnibusref01_Add.l1 r s ((mid x (s.data.toList[i]).toNat j : Nat) : Int) (i : Int) (7 - (j : Int)) = some ((crc x (s.data.toList.drop i) : Nat) : Int) := by
      intro e
      induction e with
      | zero =>
        intro r j j8 je hr
        obtain ⟨r, rfl⟩ : ∃ m, r = m + 1 := ⟨r - 1, by omega⟩
        obtain rfl : j = 8 := by omega
        simp only [omnibusref01_Add.l1]
        rw [if_neg (by omega), wrap64_id _ (by omega) (by omega), show (i : Int) + 1 = ((i + 1 : Nat) : Int) by omega, mid_eight, ih r _ (i + 1) (by omega) (by omega) (by omega) (one_lt hx hbl), List.drop_eq_getElem_cons h']
        rfl
      | succ e ihe =>
        intro r j j8 je hr
        obtain ⟨r, rfl⟩ : ∃ m, r = m + 1 := ⟨r - 1, by omega⟩
        have hml := mid_lt x (s.data.toList[i]).toNat j hx hbl (by omega)
        have hms := mid_succ x (s.data.toList[i]).toNat j hx hbl (by omega)
        have hrec := ihe r (j + 1) (by omega) (by omega) (by omega)
        rw [← hms] at hrec
        simp only [omnibusref01_Add.l1]
        rw [if_pos (by omega), if_pos (by omega), if_pos (by omega), if_pos (by omega), hb, show (7 : Int) - (j : Int) = ((7 - j : Nat) : Int) by omega, bit_eq _ _ hbl (by omega), wrap64_id (((7 - j : Nat) : Int) - 1) (by omega) (by omega), show ((7 - j : Nat) : Int) - 1 = 7 - ((j + 1 : Nat) : Int) by omega, Int.tdiv_eq_ediv_of_nonneg (by omega), wrap64_id (((mid x (s.data.toList[i]).toNat j : Nat) : Int) / 32768) (by omega) (by omega), wrap64_id (2 * ((mid x (s.data.toList[i]).toNat j : Nat) : Int)) (by omega) (by omega), Int.tmod_eq_emod_of_nonneg (by omega)]
        unfold rbit at hrec
        generalize hM : mid x (s.data.toList[i]).toNat j = M at *
        by_cases c : (s.data.toList[i]).toNat / 2 ^ (7 - j) % 2 = M / 32768
        · rw [if_pos c] at hrec
          rw [if_pos (by omega), show 2 * (M : Int) % 65536 = ((2 * M % 65536 : Nat) : Int) by omega]
          exact hrec
        · rw [if_neg c] at hrec
          rw [if_neg (by omega), show 2 * (M : Int) % 65536 = ((2 * M % 65536 : Nat) : Int) by omega, show (4129 : Int) = ((4129 : Nat) : Int) from rfl, i64_xor_nat _ _ (by omega) (by decide)]
          exact hrec
    have h0 := inner 8 k 0 (by omega) (by omega) (by omega)
    rw [mid_zero _ _ hbl] at h0
    simp only [omnibusref01_Add.l0]
    rw [if_pos (by omega)]
    exact h0
theorem radd_eq (k : Nat) (a : Int) (ha : -9223372036854775808 ≤ a ∧ a ≤ 9223372036854775807) (s : ByteArray) (hs : s.size ≤ 1000000) (hk : 10 * s.size < k) : omnibusref01_Add.f k a s = some ((crc (reg a) s.data.toList : Nat) : Int) := by
  unfold omnibusref01_Add.f
  rw [rmod_eq a ha, Option.bind_some]
  exact radd_l s hs s.size k (reg a) 0 (by omega) (by omega) hk (reg_lt a)
theorem rsum_eq (k : Nat) (s : ByteArray) (hs : s.size ≤ 1000000) (hk : 10 * s.size < k) : omnibusref01_Sum.f k s = some ((sum s.data.toList : Nat) : Int) := by
  unfold omnibusref01_Sum.f omnibusref01_New.f
  rw [Option.bind_some, radd_eq k _ (by omega) s hs hk]
  rfl
theorem rclose_eq (k : Nat) (s : ByteArray) (hs : s.size ≤ 1000000) (hk : 10 * s.size < k) : omnibusref01_Close.f k s = some (ofL (close s.data.toList)) := by
  unfold omnibusref01_Close.f
  have hl := sum_lt s.data.toList
  have e : strOfNums [wrap64 (Int.tdiv ((sum s.data.toList : Nat) : Int) 256) % 256, Int.tmod ((sum s.data.toList : Nat) : Int) 256 % 256] = ofL [UInt8.ofNat (sum s.data.toList / 256), UInt8.ofNat (sum s.data.toList % 256)] := by
    unfold strOfNums ofL
    simp only [List.map_cons, List.map_nil]
    rw [Int.tdiv_eq_ediv_of_nonneg (by omega), Int.tmod_eq_emod_of_nonneg (by omega), wrap64_id _ (by omega) (by omega), show (((sum s.data.toList : Nat) : Int) / 256 % 256).toNat = sum s.data.toList / 256 by omega, show (((sum s.data.toList : Nat) : Int) % 256 % 256).toNat = sum s.data.toList % 256 by omega]
  rw [rsum_eq k s (by omega) hk, Option.bind_some, Option.bind_some, e, if_pos (by rw [ofL_size]; simp; omega)]
  congr 1
theorem two_zero (c d : UInt8) (h : crc 0 [c, d] = 0) : c = 0 ∧ d = 0 := by
  have hc := c.toNat_lt
  have hd := d.toNat_lt
  have e : crc 0 [c, d] = sts 16 (c.toNat * 2 ^ 8 ^^^ d.toNat) := by
    show one (one 0 c.toNat) d.toNat = _
    unfold one
    rw [Nat.zero_xor, show 256 * d.toNat = sts 8 d.toNat by rw [sts_lo 8 _ (by omega), Nat.mul_comm], ← sts_xor (by omega) (by omega), ← sts_add, Nat.mul_comm 256]
  rw [e, add_as_xor _ _ 8 (by omega)] at h
  have := sts_ne (by omega) _ h
  exact ⟨UInt8.toNat_inj.mp (by show c.toNat = 0; omega), UInt8.toNat_inj.mp (by show d.toNat = 0; omega)⟩
theorem opens_iff (f : List UInt8) (a b : UInt8) : opens (f ++ [a, b]) = decide (close f = f ++ [a, b]) := by
  unfold opens
  rw [decide_eq_true (by simp), Bool.true_and]
  apply decide_eq_decide.mpr
  constructor
  · intro h
    unfold close
    congr 1
    have h1 : crc (sum f) [a, b] = 0 := by unfold sum at *; rw [← crc_append]; exact h
    have h2 := crc_closed (sum_lt f)
    have h3 := crc_xor (sum_lt f) (sum_lt f) [a, b] [UInt8.ofNat (sum f / 256), UInt8.ofNat (sum f % 256)] rfl
    rw [h1, h2, Nat.xor_self, Nat.xor_self] at h3
    obtain ⟨p, q⟩ := two_zero _ _ h3
    rw [UInt8.xor_eq_zero_iff] at p q
    rw [p, q]
  · intro h
    rw [← h, sum_closed]
theorem ropen_eq (k : Nat) (s : ByteArray) (hs : s.size ≤ 1000000) (hk : 10 * s.size < k) : omnibusref01_Open.f k s = crc_Open.f k s := by
  have hl := size_list s
  unfold omnibusref01_Open.f
  by_cases c : (s.size : Int) < 2
  · rw [if_pos c]
    rw [open_no k s (by omega) (by omega) (by unfold opens; rw [decide_eq_false (by omega)]; rfl)]
    rfl
  · rw [if_neg c, wrap64_id _ (by omega) (by omega), if_pos (by omega), if_pos (by omega), show ((s.size : Int) - 2).toNat = s.size - 2 by omega]
    have hf : (s.extract 0 (s.size - 2)).data.toList = s.data.toList.take (s.data.toList.length - 2) := by rw [extract_list, List.drop_zero, hl]
    rw [rclose_eq k _ (by rw [ByteArray.size_extract]; omega) (by rw [ByteArray.size_extract]; omega), Option.bind_some, hf, ofL_toList, ByteArray.toList_eq]
    obtain ⟨a, b, hab⟩ : ∃ a b, s.data.toList = s.data.toList.take (s.data.toList.length - 2) ++ [a, b] := by
      have h2 : (s.data.toList.drop (s.data.toList.length - 2)).length = 2 := by rw [List.length_drop]; omega
      match hd : s.data.toList.drop (s.data.toList.length - 2), h2 with
      | [a, b], _ => exact ⟨a, b, by rw [← hd, List.take_append_drop]⟩
    have ho := opens_iff (s.data.toList.take (s.data.toList.length - 2)) a b
    rw [← hab] at ho
    by_cases c2 : close (s.data.toList.take (s.data.toList.length - 2)) = s.data.toList
    · rw [decide_eq_true c2] at ho
      rw [if_pos c2, open_yes k s (by omega) (by omega) ho]
      congr 2
      exact ext_list (by rw [hf]; rfl)
    · rw [decide_eq_false c2] at ho
      rw [if_neg c2, open_no k s (by omega) (by omega) ho]
      rfl

/-! ### Burst, bit by bit -/
theorem xors_assoc (a b c : List UInt8) (h1 : a.length = b.length) (h2 : b.length = c.length) : xors (xors a b) c = xors a (xors b c) := by
  have l1 := xors_length a b h1
  have l2 := xors_length b c h2
  apply List.ext_getElem
  · rw [xors_length _ _ (by rw [l1, h1, h2]), l1, xors_length _ _ (by rw [l2, h1])]
  · intro i i1 i2
    have i0 : i < a.length := by rw [xors_length _ _ (by rw [l2, h1])] at i2; exact i2
    rw [xors_get _ _ (by rw [l1, h1, h2]) i _ (by rw [l1]; exact i0) (by omega), xors_get _ _ h1 i _ i0 (by omega), xors_get _ _ (by rw [l2, h1]) i _ i0 (by omega), xors_get _ _ h2 i _ (by omega) (by omega), UInt8.xor_assoc]
theorem shift_xor (a b t : Nat) : (a ^^^ b) * 2 ^ t = a * 2 ^ t ^^^ b * 2 ^ t := by
  have := Nat.shiftLeft_xor_distrib (a := a) (b := b) (i := t)
  simpa [Nat.shiftLeft_eq] using this
theorem div_xor' (a b t : Nat) : (a ^^^ b) / 2 ^ t = a / 2 ^ t ^^^ b / 2 ^ t := by
  have := Nat.shiftRight_xor_distrib (a := a) (b := b) (i := t)
  simpa [Nat.shiftRight_eq_div_pow] using this
theorem mod_xor' (a b t : Nat) : (a ^^^ b) % 2 ^ t = a % 2 ^ t ^^^ b % 2 ^ t := Nat.xor_mod_two_pow
theorem ofNat_xor {a b : Nat} (ha : a < 256) (hb : b < 256) : UInt8.ofNat (a ^^^ b) = UInt8.ofNat a ^^^ UInt8.ofNat b := by
  apply UInt8.toNat_inj.mp
  rw [UInt8.toNat_xor, ofNat_toNat ha, ofNat_toNat hb, ofNat_toNat (Nat.xor_lt_two_pow (n := 8) ha hb)]
theorem errs_xor (n q M N : Nat) (hM : M < 16777216) (hN : N < 16777216) : errs n q (M ^^^ N) = xors (errs n q M) (errs n q N) := by
  have l := errs_length n q
  apply List.ext_getElem
  · rw [l, xors_length _ _ (by rw [l, l]), l]
  · intro i i1 i2
    have i0 : i < n := by rw [l] at i1; exact i1
    rw [xors_get _ _ (by rw [l, l]) i _ (by rw [l]; exact i0) (by rw [l]; exact i0), errs_get, errs_get, errs_get]
    have d1 := div_xor' M N 16
    have d2 := div_xor' M N 8
    have d3 := mod_xor' (M / 256) (N / 256) 8
    have d4 := mod_xor' M N 8
    rw [show (2 : Nat) ^ 16 = 65536 from rfl] at d1
    rw [show (2 : Nat) ^ 8 = 256 from rfl] at d2 d3 d4
    rw [d1, d2, d3, d4, ofNat_xor (by omega) (by omega), ofNat_xor (by omega) (by omega), ofNat_xor (by omega) (by omega)]
    (repeat' split) <;> simp
theorem err_xor (n k a b : Nat) (ha : a < 65536) (hb : b < 65536) : err n k (a ^^^ b) = xors (err n k a) (err n k b) := by
  unfold err
  rw [shift_xor, errs_xor _ _ _ _ (pow_le7 _ _ ha) (pow_le7 _ _ hb)]
theorem one_bit : ∀ u : Fin 23, (2 ^ (23 - u.val) / 65536 = if u.val / 8 = 0 then 2 ^ (7 - u.val % 8) else 0) ∧ (2 ^ (23 - u.val) / 256 % 256 = if u.val / 8 = 1 then 2 ^ (7 - u.val % 8) else 0) ∧ (2 ^ (23 - u.val) % 256 = if u.val / 8 = 2 then 2 ^ (7 - u.val % 8) else 0) := by decide
theorem err_pow (n k i : Nat) (hi : i < 16) : err n k (2 ^ (15 - i)) = single n ((k + i) / 8) (UInt8.ofNat (2 ^ (7 - (k + i) % 8))) := by
  have hu : k % 8 + i < 23 := by omega
  obtain ⟨o1, o2, o3⟩ := one_bit ⟨k % 8 + i, hu⟩
  simp only at o1 o2 o3
  have hM : 2 ^ (15 - i) * 2 ^ (8 - k % 8) = 2 ^ (23 - (k % 8 + i)) := by rw [← Nat.pow_add]; congr 1; omega
  have hm : (k % 8 + i) % 8 = (k + i) % 8 := by omega
  unfold err
  rw [hM]
  apply List.ext_getElem
  · rw [errs_length, single_length]
  · intro j j1 j2
    rw [errs_get, single_get, o1, o2, o3, hm]
    have h3 : (k % 8 + i) / 8 = 0 ∨ (k % 8 + i) / 8 = 1 ∨ (k % 8 + i) / 8 = 2 := by omega
    rcases h3 with e | e | e
    · rw [show (k + i) / 8 = k / 8 by omega, e]
      (repeat' split) <;> first | rfl | omega
    · rw [show (k + i) / 8 = k / 8 + 1 by omega, e]
      (repeat' split) <;> first | rfl | omega
    · rw [show (k + i) / 8 = k / 8 + 2 by omega, e]
      (repeat' split) <;> first | rfl | omega
/-- The mask's first t bits. -/
def front (m t : Nat) : Nat := m / 2 ^ (16 - t) * 2 ^ (16 - t)
theorem front_lt (m t : Nat) (hm : m < 65536) : front m t < 65536 := by
  have := Nat.div_mul_le_self m (2 ^ (16 - t))
  unfold front
  omega
theorem front_succ (m t : Nat) (ht : t < 16) : front m (t + 1) = front m t ^^^ (m / 2 ^ (15 - t) % 2) * 2 ^ (15 - t) := by
  unfold front
  have hb : m / 2 ^ (15 - t) % 2 < 2 := Nat.mod_lt _ (by omega)
  have h1 : m / 2 ^ (16 - t) = m / 2 ^ (15 - t) / 2 := by rw [show 16 - t = (15 - t) + 1 by omega, Nat.pow_succ, Nat.div_div_eq_div_mul]
  have hlt : m / 2 ^ (15 - t) % 2 * 2 ^ (15 - t) < 2 ^ (16 - t) := by
    rw [show 16 - t = (15 - t) + 1 by omega, Nat.pow_succ]
    have := Nat.mul_le_mul_right (2 ^ (15 - t)) (show m / 2 ^ (15 - t) % 2 ≤ 1 by omega)
    have := Nat.pow_pos (n := 15 - t) (show 0 < 2 by omega)
    omega
  rw [add_as_xor _ _ (16 - t) hlt, h1, show 16 - (t + 1) = 15 - t by omega]
  generalize m / 2 ^ (15 - t) = x
  rw [show 2 ^ (16 - t) = 2 * 2 ^ (15 - t) by rw [show 16 - t = (15 - t) + 1 by omega, Nat.pow_succ, Nat.mul_comm], ← Nat.mul_assoc, ← Nat.add_mul]
  congr 1
  omega
theorem rturn_get (m p : Int) (L : List Int) (i : Nat) (hp : 0 ≤ p) (j : Nat) (hj : j < L.length) :
    (rturn m p L i).getD j 0 = if (Go.bits .and .i64 (m / 2 ^ (15 - i)) 1 == 1) = true ∧ (j : Int) = (p + i) / 8 then Go.bits .xor .u8 (L.getD j 0) (2 ^ (7 - (p + i) % 8).toNat % 256) else L.getD j 0 := by
  unfold rturn
  by_cases c : p + i < 8 * L.length
  · rw [if_pos c]
    by_cases e : (Go.bits .and .i64 (m / 2 ^ (15 - i)) 1 == 1) = true
    · rw [if_pos e]
      by_cases e2 : (j : Int) = (p + i) / 8
      · rw [if_pos ⟨e, e2⟩, show ((p + (i : Int)) / 8).toNat = j by omega]
        simp [List.getD_eq_getElem?_getD, hj]
      · rw [if_neg (fun h => e2 h.2)]
        simp [List.getD_eq_getElem?_getD, List.getElem?_set, show ¬ ((p + (i : Int)) / 8).toNat = j by omega]
    · rw [if_neg e, if_neg (fun h => e h.1)]
  · rw [if_neg c, if_neg (fun h => by have := h.2; omega)]
theorem rturns_eq (s : ByteArray) (k m : Nat) (hm : m < 65536) (t : Nat) (ht : t ≤ 16) :
    ∀ j, j < s.data.toList.length → ∀ h, (rturns (m : Int) (k : Int) (bytesOf s) t).getD j 0 = (((xors s.data.toList (err s.data.toList.length k (front m t)))[j]'h).toNat : Int) := by
  have el : ∀ m, (err s.data.toList.length k m).length = s.data.toList.length := fun m => err_length _ _ _
  induction t with
  | zero =>
    intro j hj h
    have h0 : front m 0 = 0 := by unfold front; rw [Nat.div_eq_of_lt (by omega), Nat.zero_mul]
    have hz : err s.data.toList.length k 0 = noughts s.data.toList.length := by
      unfold err
      rw [Nat.zero_mul]
      apply List.ext_getElem
      · rw [errs_length]; simp [noughts]
      · intro i i1 i2
        rw [errs_get, show (noughts s.data.toList.length)[i] = 0 by simp [noughts]]
        (repeat' split) <;> rfl
    simp only [h0, hz, xors_zero]
    show (bytesOf s).getD j 0 = _
    unfold bytesOf
    rw [List.getD_eq_getElem?_getD, List.getElem?_map, List.getElem?_eq_getElem hj]
    rfl
  | succ t ih =>
    intro j hj h
    have hlen : (rturns (m : Int) (k : Int) (bytesOf s) t).length = s.data.toList.length := by rw [rturns_length, bytesOf, List.length_map]
    rw [rturns, rturn_get _ _ _ _ (by omega) j (by rw [hlen]; exact hj)]
    have hj1 : j < (xors s.data.toList (err s.data.toList.length k (front m t))).length := by rw [xors_length _ _ (el _).symm]; exact hj
    rw [ih (by omega) j hj hj1]
    have hβ : m / 2 ^ (15 - t) % 2 = 0 ∨ m / 2 ^ (15 - t) % 2 = 1 := by omega
    have hdiv : (m : Int) / 2 ^ (15 - t) = ((m / 2 ^ (15 - t) : Nat) : Int) := by simp
    have hbit : Go.bits .and .i64 ((m : Int) / 2 ^ (15 - t)) 1 = ((m / 2 ^ (15 - t) % 2 : Nat) : Int) := by
      rw [hdiv, show (1 : Int) = ((1 : Nat) : Int) from rfl, i64_and_nat _ _ (by have := Nat.div_le_self m (2 ^ (15 - t)); omega) (by decide), Nat.and_one_is_mod]
    rw [hbit]
    have hfr := front_succ m t (by omega)
    rcases hβ with e | e
    · rw [if_neg (fun h => by rw [e] at h; exact absurd h.1 (by decide))]
      rw [e, Nat.zero_mul, Nat.xor_zero] at hfr
      simp only [hfr]
    · rw [e, Nat.one_mul] at hfr
      have hp15 : 2 ^ (15 - t) < 65536 := by
        have : 2 ^ (15 - t) ≤ 2 ^ 15 := Nat.pow_le_pow_right (by omega) (by omega)
        omega
      have hx : xors s.data.toList (err s.data.toList.length k (front m (t + 1))) = xors (xors s.data.toList (err s.data.toList.length k (front m t))) (single s.data.toList.length ((k + t) / 8) (UInt8.ofNat (2 ^ (7 - (k + t) % 8)))) := by
        rw [hfr, err_xor _ _ _ _ (front_lt m t hm) hp15, err_pow _ _ _ (by omega), xors_assoc _ _ _ (el _).symm (by rw [el, single_length])]
      have hp7 : 2 ^ (7 - (k + t) % 8) < 256 := by
        have : 2 ^ (7 - (k + t) % 8) ≤ 2 ^ 7 := Nat.pow_le_pow_right (by omega) (by omega)
        omega
      have g : (xors s.data.toList (err s.data.toList.length k (front m (t + 1))))[j]'h = (xors s.data.toList (err s.data.toList.length k (front m t)))[j] ^^^ (if j = (k + t) / 8 then UInt8.ofNat (2 ^ (7 - (k + t) % 8)) else 0) := by
        simp only [hx]
        rw [xors_get _ _ (by rw [xors_length _ _ (el _).symm, single_length]) j _ hj1 (by rw [single_length]; exact hj), single_get]
      rw [g]
      have hb := ((xors s.data.toList (err s.data.toList.length k (front m t)))[j]).toNat_lt
      by_cases c : j = (k + t) / 8
      · rw [if_pos ⟨by rw [e]; rfl, by omega⟩, if_pos c, UInt8.toNat_xor, ofNat_toNat hp7, show (2 : Int) ^ (7 - ((k : Int) + (t : Int)) % 8).toNat % 256 = ((2 ^ (7 - (k + t) % 8) : Nat) : Int) by
            rw [show (7 - ((k : Int) + (t : Int)) % 8).toNat = 7 - (k + t) % 8 by omega, show (2 : Int) ^ (7 - (k + t) % 8) = ((2 ^ (7 - (k + t) % 8) : Nat) : Int) by simp]
            generalize 2 ^ (7 - (k + t) % 8) = P at hp7
            omega, u8_xor_nat _ _ hb hp7]
      · rw [if_neg (fun h => c (by have := h.2; omega)), if_neg c]
        simp
theorem strOfNums_list (xs : List Int) : (strOfNums xs).data.toList = xs.map (fun n => UInt8.ofNat n.toNat) := rfl
theorem rburst_eq (s : ByteArray) (a mask : Int) (hs : s.size ≤ 1000000) (ha : a ≤ 9223372036854775807) (hmask : -9223372036854775808 ≤ mask ∧ mask ≤ 9223372036854775807) : ∃ t, omnibusref01_Burst.f s a mask = some t ∧ crc_Burst.f s a mask = some t := by
  have hl := size_list s
  by_cases c : a < 0
  · refine ⟨s, ?_, ?_⟩
    · unfold omnibusref01_Burst.f; rw [if_pos c]
    · unfold crc_Burst.f; rw [if_pos c]
  · by_cases c2 : 8 * (s.size : Int) ≤ a
    · refine ⟨s, ?_, ?_⟩
      · unfold omnibusref01_Burst.f
        rw [if_neg c, if_pos (by omega), if_pos c2]
      · unfold crc_Burst.f
        rw [if_neg c, if_pos (by rw [Int.tdiv_eq_ediv_of_nonneg (by omega), wrap64_id _ (by omega) (by omega)]; omega)]
    · obtain ⟨k, rfl⟩ : ∃ k : Nat, a = k := ⟨a.toNat, by omega⟩
      refine ⟨_, ?_, burst_eq s k mask (by omega) (by omega)⟩
      have hr := reg_lt mask
      unfold omnibusref01_Burst.f
      rw [if_neg c, if_pos (by omega), if_neg c2, rmod_eq mask hmask, Option.bind_some, if_pos (by omega)]
      refine congrArg some (ext_list ?_)
      have hlen : (rturns ((reg mask : Nat) : Int) (k : Int) (bytesOf s) 16).length = s.data.toList.length := by rw [rturns_length, bytesOf, List.length_map]
      have hf : front (reg mask) 16 = reg mask := by unfold front; simp
      have hxl : (xors s.data.toList (err s.data.toList.length k (reg mask))).length = s.data.toList.length := xors_length _ _ (err_length _ _ _).symm
      have h := rturns_eq s k (reg mask) hr 16 (Nat.le_refl _)
      simp only [hf] at h
      rw [ofL_list, strOfNums_list]
      generalize rturns ((reg mask : Nat) : Int) (k : Int) (bytesOf s) 16 = R at hlen h
      apply List.ext_getElem
      · rw [List.length_map, hlen, hxl]
      · intro j j1 j2
        have hj : j < s.data.toList.length := by omega
        have h2 := h j hj j2
        rw [List.getD_eq_getElem?_getD, List.getElem?_eq_getElem (by rw [hlen]; exact hj)] at h2
        rw [List.getElem_map]
        have h3 : R[j]'(by rw [hlen]; exact hj) = _ := h2
        rw [h3, Int.toNat_natCast]
        simp
end Go.Proofs.Ythnnnhbfhimkpaa.LinkR
