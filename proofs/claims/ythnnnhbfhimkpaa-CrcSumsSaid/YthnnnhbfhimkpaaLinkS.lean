/- What the printed functions of the package crc come to, in the words of the plain law. -/
import Derived.Test.YthnnnhbfhimkpaaMath
import Derived.Test.YthnnnhbfhimkpaaSx5
set_option linter.unusedVariables false
set_option linter.unusedSimpArgs false
namespace Go.Proofs.Ythnnnhbfhimkpaa.LinkS
open Go.RowKit Go.Proofs.Ythnnnhbfhimkpaa.S Go.Proofs.YthnnnhbfhimkpaaW.PrintWords Go.Proofs.YthnnnhbfhimkpaaW.PrintLast Go.Proofs.YthnnnhbfhimkpaaW.PrintMore Go.Proofs.Ythnnnhbfhimkpaa.Math

theorem wraps_i64 (n : Int) (h₀ : 0 ≤ n) (h₁ : n < 2 ^ 63) : IntKind.i64.wrap n = n := by rw [IntKind.wrap_i64]; omega
theorem i64_and_nat (a b : Nat) (ha : a < 2 ^ 63) (hb : b < 2 ^ 63) : Go.bits .and .i64 a b = ((a &&& b : Nat) : Int) := (bits_nat .i64 63 (by decide) wraps_i64 a b ha hb).1
theorem i64_xor_nat (a b : Nat) (ha : a < 2 ^ 63) (hb : b < 2 ^ 63) : Go.bits .xor .i64 a b = ((a ^^^ b : Nat) : Int) := by
  have hp : (2 : Nat) ^ 63 < 2 ^ 64 := by decide
  have ha' : a % 2 ^ IntKind.i64.bits = a := Nat.mod_eq_of_lt (Nat.lt_trans ha hp)
  have hb' : b % 2 ^ IntKind.i64.bits = b := Nat.mod_eq_of_lt (Nat.lt_trans hb hp)
  simp only [Go.bits, BitVec.ofInt_natCast, BitVec.toNat_xor, BitVec.toNat_ofNat, ha', hb']
  exact wraps_i64 _ (Int.natCast_nonneg _) (by have := Nat.xor_lt_two_pow ha hb; exact_mod_cast this)
theorem i64_mask16 (n : Int) : Go.bits .and .i64 n 65535 = n % 65536 := by
  have h127 : (BitVec.ofInt 64 65535).toNat = 2 ^ 16 - 1 := by decide
  have key : (BitVec.ofInt 64 n &&& BitVec.ofInt 64 65535).toNat = (n % ((2 ^ 64 : Nat) : Int)).toNat % 2 ^ 16 := by
    rw [BitVec.toNat_and, BitVec.toNat_ofInt, h127, Nat.and_two_pow_sub_one_eq_mod]
  show IntKind.i64.wrap ((BitVec.ofInt 64 n &&& BitVec.ofInt 64 65535).toNat : Nat) = n % 65536
  rw [key, IntKind.wrap_i64]
  omega
theorem wrap64_id (x : Int) (h0 : -9223372036854775808 ≤ x) (h1 : x ≤ 9223372036854775807) : wrap64 x = x := by unfold wrap64; omega

theorem and_top (r : Nat) (h : r < 65536) : (r &&& 32768) = if r < 32768 then 0 else 32768 := by
  have e : r &&& 32768 = 32768 * (r / 32768 % 2) := by
    apply Nat.eq_of_testBit_eq
    intro i
    rw [show (32768 : Nat) = 2 ^ 15 from rfl, Nat.testBit_and, Nat.testBit_two_pow, Nat.testBit_two_pow_mul, show (2 : Nat) = 2 ^ 1 from rfl, Nat.testBit_mod_two_pow, Nat.testBit_div_two_pow]
    by_cases h : i = 15
    · subst h; simp
    · by_cases h2 : 15 ≤ i
      · have h3 : ¬ i - 15 < 1 := by omega
        simp [h2, h3, Ne.symm h]
      · simp [h2, Ne.symm h]
  rw [e]
  split <;> omega
theorem step_st (r : Nat) (h : r < 65536) : S.step (r : Int) = (st r : Int) := by
  unfold S.step st
  rw [show (32768 : Int) = ((32768 : Nat) : Int) from rfl, i64_and_nat r 32768 (by omega) (by decide), and_top r h, wrap64_id _ (by omega) (by omega), show (r : Int) * 2 = ((2 * r : Nat) : Int) by omega]
  by_cases hr : r < 32768
  · rw [if_pos hr, if_neg (by decide), i64_mask16, Nat.div_eq_of_lt hr, Nat.zero_mul, Nat.xor_zero]
    rfl
  · rw [if_neg hr, if_pos (by decide), show (4129 : Int) = ((4129 : Nat) : Int) from rfl, i64_xor_nat _ _ (by omega) (by decide), i64_mask16, show (r / 32768) = 1 by omega, Nat.one_mul]
    have := mod_xor (2 * r) 4129
    rw [show (4129 : Nat) % 65536 = 4129 from rfl] at this
    rw [← this]
    rfl
theorem steps_sts (n r : Nat) (h : r < 65536) : steps n (r : Int) = (sts n r : Int) := by
  induction n with
  | zero => rfl
  | succ n ih => rw [steps, ih, step_st _ (sts_lt h n)]; rfl
theorem one_eq (r b : Nat) (hr : r < 65536) (hb : b < 256) : crc_one.f (r : Int) (b : Int) = some ((one r b : Nat) : Int) := by
  unfold crc_one.f one
  rw [wrap64_id (b : Int) (by omega) (by omega), wrap64_id _ (by omega) (by omega), show (b : Int) * 256 = ((256 * b : Nat) : Int) by omega, i64_xor_nat _ _ (by omega) (by omega), steps_sts _ _ (xor_lt hr (by omega))]

theorem bt_get (s : ByteArray) (i : Nat) (h : i < s.size) : ∃ h' : i < s.data.toList.length, bt s (i : Int) = (s.data.toList[i].toNat : Int) := by
  have h' : i < s.data.toList.length := by rw [data_length]; exact h
  refine ⟨h', ?_⟩
  unfold bt
  rw [dif_pos (by omega)]
  simp
  rfl
theorem add_l0 (s : ByteArray) (hs : s.size ≤ 9223372036854775806) (d : Nat) : ∀ (k r i : Nat), i ≤ s.size → s.size - i = d → d < k → r < 65536 →
    crc_Add.l0 k (r : Int) s (s.size : Int) (i : Int) = some ((crc r (s.data.toList.drop i) : Nat) : Int) := by
  induction d with
  | zero =>
    intro k r i h1 hd hk hr
    obtain ⟨k, rfl⟩ : ∃ m, k = m + 1 := ⟨k - 1, by omega⟩
    simp only [crc_Add.l0]
    rw [if_neg (by omega), List.drop_eq_nil_of_le (by rw [data_length]; omega)]
    rfl
  | succ d ih =>
    intro k r i h1 hd hk hr
    obtain ⟨k, rfl⟩ : ∃ m, k = m + 1 := ⟨k - 1, by omega⟩
    obtain ⟨h', hb⟩ := bt_get s i (by omega)
    simp only [crc_Add.l0]
    rw [if_pos (by omega), if_pos (by omega), if_pos (by omega), hb, one_eq r _ hr (UInt8.toNat_lt _)]
    simp only [Option.bind_some]
    rw [wrap64_id _ (by omega) (by omega), show (i : Int) + 1 = ((i + 1 : Nat) : Int) by omega, ih k _ (i + 1) (by omega) (by omega) (by omega) (one_lt hr (UInt8.toNat_lt _)), List.drop_eq_getElem_cons h']
    rfl
/-- A register: what a number leaves, divided by 65536. -/
def reg (a : Int) : Nat := (a % 65536).toNat
theorem reg_lt (a : Int) : reg a < 65536 := by unfold reg; omega
theorem add_eq (k : Nat) (a : Int) (s : ByteArray) (hs : s.size ≤ 9223372036854775806) (hk : s.size < k) : crc_Add.f k a s = some ((crc (reg a) s.data.toList : Nat) : Int) := by
  unfold crc_Add.f
  rw [i64_mask16, show a % 65536 = ((reg a : Nat) : Int) by unfold reg; omega]
  exact add_l0 s hs s.size k (reg a) 0 (by omega) (by omega) hk (reg_lt a)
def sum (l : List UInt8) : Nat := crc 65535 l
theorem sum_lt (l : List UInt8) : sum l < 65536 := crc_lt (by omega) l
theorem sum_eq (k : Nat) (s : ByteArray) (hs : s.size ≤ 9223372036854775806) (hk : s.size < k) : crc_Sum.f k s = some ((sum s.data.toList : Nat) : Int) := by
  unfold crc_Sum.f crc_New.f
  simp only [Option.bind_some]
  rw [add_eq k _ s hs hk]
  rfl
/-- A text with its sum behind it. -/
def close (l : List UInt8) : List UInt8 := l ++ [UInt8.ofNat (sum l / 256), UInt8.ofNat (sum l % 256)]
def ofL (l : List UInt8) : ByteArray := ⟨l.toArray⟩
theorem ofL_list (l : List UInt8) : (ofL l).data.toList = l := rfl
theorem ofL_size (l : List UInt8) : (ofL l).size = l.length := rfl
theorem ofL_of (s : ByteArray) : ofL s.data.toList = s := by cases s; rfl
theorem ext_list {s t : ByteArray} (h : s.data.toList = t.data.toList) : s = t := by rw [← ofL_of s, ← ofL_of t, h]
theorem append_list (s t : ByteArray) : (s ++ t).data.toList = s.data.toList ++ t.data.toList := by rw [ByteArray.data_append, Array.toList_append]
theorem sum_closed (l : List UInt8) : sum (close l) = 0 := by
  unfold sum close
  rw [crc_append]
  exact crc_closed (sum_lt l)
theorem close_eq (k : Nat) (s : ByteArray) (hs : s.size ≤ 9223372036854775800) (hk : s.size < k) : crc_Close.f k s = some (ofL (close s.data.toList)) := by
  unfold crc_Close.f
  have hl := sum_lt s.data.toList
  have e : strOfNums [((sum s.data.toList : Nat) : Int) / 256 % 256, ((sum s.data.toList : Nat) : Int) % 256] = ofL [UInt8.ofNat (sum s.data.toList / 256), UInt8.ofNat (sum s.data.toList % 256)] := by
    unfold strOfNums ofL
    simp only [List.map_cons, List.map_nil]
    rw [show (((sum s.data.toList : Nat) : Int) / 256 % 256).toNat = sum s.data.toList / 256 by omega, show (((sum s.data.toList : Nat) : Int) % 256).toNat = sum s.data.toList % 256 by omega]
  rw [sum_eq k s (by omega) hk]
  simp only [Option.bind_some]
  rw [e, if_pos (by rw [ofL_size]; simp; omega)]
  congr 1

/-! ### Open -/
def opens (l : List UInt8) : Bool := decide (2 ≤ l.length) && decide (sum l = 0)
theorem extract_list (s : ByteArray) (a b : Nat) : (s.extract a b).data.toList = (s.data.toList.take b).drop a := by
  rw [ByteArray.data_extract, Array.toList_extract]
  simp [List.drop_take]
theorem open_yes (k : Nat) (s : ByteArray) (hs : s.size ≤ 9223372036854775800) (hk : s.size < k) (h : opens s.data.toList = true) : crc_Open.f k s = some (ofL (s.data.toList.take (s.data.toList.length - 2)), true) := by
  unfold opens at h
  simp only [Bool.and_eq_true, decide_eq_true_eq] at h
  have hl := data_length s
  unfold crc_Open.f
  rw [wrap64_id _ (by omega) (by omega), if_pos (by omega), sum_eq k s (by omega) hk]
  simp only [Option.bind_some]
  rw [if_pos (by omega), if_pos (by omega), if_pos (by omega)]
  congr 2
  apply ext_list
  rw [extract_list, ofL_list, List.drop_zero]
  congr 1
  omega
theorem open_no (k : Nat) (s : ByteArray) (hs : s.size ≤ 9223372036854775800) (hk : s.size < k) (h : opens s.data.toList = false) : crc_Open.f k s = some (ofL [], false) := by
  unfold opens at h
  have hl := data_length s
  unfold crc_Open.f
  rw [wrap64_id _ (by omega) (by omega)]
  by_cases c : (s.size : Int) - 2 ≥ 0
  · rw [if_pos c, sum_eq k s (by omega) hk]
    simp only [Option.bind_some]
    rw [decide_eq_true (by omega), Bool.true_and] at h
    have h2 := of_decide_eq_false h
    rw [if_neg (by omega)]
    rfl
  · rw [if_neg c]
    rfl

/-! ### Burst -/
theorem turn_get (m q : Int) (L : List Int) (i : Nat) (hq : 0 ≤ q) (j : Nat) (hj : j < L.length) :
    (turn m q L i).getD j 0 = if (j : Int) = q + i then Go.bits .xor .u8 (L.getD j 0) (m / 2 ^ (16 - 8 * i) % 256) else L.getD j 0 := by
  unfold turn
  by_cases c : q + i < L.length
  · rw [if_pos c]
    by_cases e : (j : Int) = q + i
    · rw [if_pos e, show (q + (i : Int)).toNat = j by omega, rd, show (q + (i : Int)).toNat = j by omega]
      simp [List.getD_eq_getElem?_getD, hj]
    · rw [if_neg e]
      simp [List.getD_eq_getElem?_getD, List.getElem?_set, show ¬ (q + (i : Int)).toNat = j by omega]
  · rw [if_neg c, if_neg (by omega)]
theorem u8_ofNat_xor (a : UInt8) (e : Nat) (he : e < 256) : UInt8.ofNat (a.toNat ^^^ e) = a ^^^ UInt8.ofNat e := by
  apply UInt8.toNat_inj.mp
  rw [UInt8.toNat_xor, ofNat_toNat he, ofNat_toNat (Nat.xor_lt_two_pow (n := 8) a.toNat_lt he)]
theorem turns_eq (s : ByteArray) (q M : Nat) (hM : M < 16777216) : strOfNums (turns (M : Int) (q : Int) (bytesOf s) 3) = ofL (xors s.data.toList (errs s.data.toList.length q M)) := by
  apply ext_list
  rw [ofL_list]
  unfold strOfNums
  show List.map _ _ = _
  have hlen : (turns (M : Int) (q : Int) (bytesOf s) 3).length = s.data.toList.length := by rw [turns_length, bytesOf, List.length_map]
  have hxl : (xors s.data.toList (errs s.data.toList.length q M)).length = s.data.toList.length := by rw [xors_length]; rw [errs_length]
  apply List.ext_getElem
  · rw [List.length_map, hlen, hxl]
  · intro j h1 h2
    have hj : j < s.data.toList.length := by rw [← hxl]; exact h2
    rw [List.getElem_map, xors_get _ _ (by rw [errs_length]) j h2 hj (by rw [errs_length]; exact hj), errs_get]
    have hB : (bytesOf s).getD j 0 = ((s.data.toList[j]).toNat : Int) := by
      unfold bytesOf
      rw [List.getD_eq_getElem?_getD, List.getElem?_map, List.getElem?_eq_getElem hj]
      rfl
    have hb := (s.data.toList[j]).toNat_lt
    generalize hc : s.data.toList[j] = c at *
    have g : (turns (M : Int) (q : Int) (bytesOf s) 3)[j]'(by rw [hlen]; exact hj) = (turns (M : Int) (q : Int) (bytesOf s) 3).getD j 0 := by rw [List.getD_eq_getElem?_getD, List.getElem?_eq_getElem (by rw [hlen]; exact hj)]; rfl
    have hl0 : j < (turns (M : Int) (q : Int) (bytesOf s) 0).length := by rw [turns_length, bytesOf, List.length_map]; exact hj
    have hl1 : j < (turns (M : Int) (q : Int) (bytesOf s) 1).length := by rw [turns_length, bytesOf, List.length_map]; exact hj
    have hl2 : j < (turns (M : Int) (q : Int) (bytesOf s) 2).length := by rw [turns_length, bytesOf, List.length_map]; exact hj
    have t1 : (turns (M : Int) (q : Int) (bytesOf s) 1).getD j 0 = _ := turn_get M q _ 0 (by omega) j hl0
    have t2 : (turns (M : Int) (q : Int) (bytesOf s) 2).getD j 0 = _ := turn_get M q _ 1 (by omega) j hl1
    have t3 : (turns (M : Int) (q : Int) (bytesOf s) 3).getD j 0 = _ := turn_get M q _ 2 (by omega) j hl2
    rw [show (turns (M : Int) (q : Int) (bytesOf s) 0) = bytesOf s from rfl, hB] at t1
    rw [t1] at t2
    rw [t2] at t3
    rw [g, t3]
    have x0 : (M : Int) / 2 ^ (16 - 8 * 0) % 256 = ((M / 65536 : Nat) : Int) := by
      rw [show (2 : Int) ^ (16 - 8 * 0) = 65536 from rfl]; omega
    have x1 : (M : Int) / 2 ^ (16 - 8 * 1) % 256 = ((M / 256 % 256 : Nat) : Int) := by
      rw [show (2 : Int) ^ (16 - 8 * 1) = 256 from rfl]; omega
    have x2 : (M : Int) / 2 ^ (16 - 8 * 2) % 256 = ((M % 256 : Nat) : Int) := by
      rw [show (2 : Int) ^ (16 - 8 * 2) = 1 from rfl]; omega
    rw [x0, x1, x2, u8_xor_nat c.toNat _ hb (by omega)]
    have n0 := u8_ofNat_xor c (M / 65536) (by omega)
    have n1 := u8_ofNat_xor c (M / 256 % 256) (by omega)
    have n2 := u8_ofNat_xor c (M % 256) (by omega)
    by_cases c1 : j = q
    · rw [if_neg (by omega), if_neg (by omega), if_pos (by omega), if_pos c1, Int.toNat_natCast, n0]
    · by_cases c2 : j = q + 1
      · rw [if_neg (by omega), if_pos (by omega), if_neg (by omega), if_neg c1, if_pos c2, u8_xor_nat c.toNat _ hb (by omega), Int.toNat_natCast, n1]
      · by_cases c3 : j = q + 2
        · rw [if_pos (by omega), if_neg (by omega), if_neg (by omega), if_neg c1, if_neg c2, if_pos c3, u8_xor_nat c.toNat _ hb (by omega), Int.toNat_natCast, n2]
        · rw [if_neg (by omega), if_neg (by omega), if_neg (by omega), if_neg c1, if_neg c2, if_neg c3, Int.toNat_natCast]
          simp
theorem pow_le7 (s : Nat) (m : Nat) (hm : m < 65536) : m * 2 ^ (8 - s) < 16777216 := by
  have h1 : 2 ^ (8 - s) ≤ 2 ^ 8 := Nat.pow_le_pow_right (by omega) (by omega)
  have h2 : m * 2 ^ (8 - s) ≤ 65535 * 2 ^ 8 := Nat.mul_le_mul (by omega) h1
  omega
/-- The text of errors that a Burst turns: bits from bit k on, by mask m. -/
def err (n k m : Nat) : List UInt8 := errs n (k / 8) (m * 2 ^ (8 - k % 8))
theorem err_length (n k m : Nat) : (err n k m).length = n := errs_length _ _ _
theorem burst_eq (s : ByteArray) (k : Nat) (mask : Int) (hk : k < 8 * s.size) (hs : s.size ≤ 140737488351232) : crc_Burst.f s (k : Int) mask = some (ofL (xors s.data.toList (err s.data.toList.length k (reg mask)))) := by
  unfold crc_Burst.f
  have hq : wrap64 (Int.tdiv (k : Int) 8) = ((k / 8 : Nat) : Int) := by
    rw [Int.tdiv_eq_ediv_of_nonneg (by omega), wrap64_id _ (by omega) (by omega)]; omega
  have hr := reg_lt mask
  have hb := pow_le7 (k % 8) (reg mask) hr
  have hm : burstMask (k : Int) mask = ((reg mask * 2 ^ (8 - k % 8) : Nat) : Int) := by
    unfold burstMask
    rw [i64_mask16, show (8 - (k : Int) % 8).toNat = 8 - k % 8 by omega, show mask % 65536 % 4294967296 = ((reg mask : Nat) : Int) by unfold reg; omega, show ((reg mask : Nat) : Int) * 2 ^ (8 - k % 8) = ((reg mask * 2 ^ (8 - k % 8) : Nat) : Int) by simp]
    exact Int.emod_eq_of_lt (by omega) (by omega)
  rw [if_neg (by omega), hq, if_neg (by omega), if_pos (by omega), hm, turns_eq s _ _ hb]
  rfl
theorem burst_out (s : ByteArray) (k : Nat) (mask : Int) (hk : 8 * s.size ≤ k) (hk2 : k ≤ 4611686018427387904) : crc_Burst.f s (k : Int) mask = some s := by
  unfold crc_Burst.f
  have hq : wrap64 (Int.tdiv (k : Int) 8) = ((k / 8 : Nat) : Int) := by
    rw [Int.tdiv_eq_ediv_of_nonneg (by omega), wrap64_id _ (by omega) (by omega)]; omega
  rw [if_neg (by omega), hq, if_pos (by omega)]

/-! ### pick -/
theorem i64_bounds {a : Int} (ha : (Lit.int .i64 a).wf = true) : -9223372036854775808 ≤ a ∧ a ≤ 9223372036854775807 := by
  simp [Lit.wf, IntKind.min, IntKind.max, IntKind.bits, IntKind.signed] at ha
  omega
theorem opens_closed (l : List UInt8) : opens (close l) = true := by
  unfold opens
  rw [sum_closed]
  simp [close]
theorem close_length (l : List UInt8) : (close l).length = l.length + 2 := by simp [close]
theorem close_take (l : List UInt8) : (close l).take ((close l).length - 2) = l := by
  rw [close_length, show l.length + 2 - 2 = l.length by omega]
  simp [close]
theorem ofL_toList (l : List UInt8) : (ofL l).toList = l := by rw [ByteArray.toList_eq]; rfl
theorem open_closed (k : Nat) (l : List UInt8) (hs : l.length ≤ 9223372036854775000) (hk : l.length + 2 < k) : crc_Open.f k (ofL (close l)) = some (ofL l, true) := by
  rw [open_yes k _ (by rw [ofL_size, close_length]; omega) (by rw [ofL_size, close_length]; exact hk) (opens_closed l), ofL_list, close_take]
theorem awake_eq (k : Nat) (hk : 20 < k) : omnibuslaw01_awake.f k = some true := by
  unfold omnibuslaw01_awake.f
  rw [show (⟨#[116, 101, 120, 116]⟩ : ByteArray) = ofL [116, 101, 120, 116] from rfl, show (⟨#[]⟩ : ByteArray) = ofL [] from rfl, show (⟨#[49, 50, 51, 52, 53, 54, 55, 56, 57]⟩ : ByteArray) = ofL [49, 50, 51, 52, 53, 54, 55, 56, 57] from rfl, show (⟨#[97]⟩ : ByteArray) = ofL [97] from rfl]
  have h1 := close_eq k (ofL [116, 101, 120, 116]) (by decide) (by rw [ofL_size]; simp; omega)
  have h2 := open_no k (ofL [116, 101, 120, 116]) (by decide) (by rw [ofL_size]; simp; omega) (by decide +kernel)
  have h3 := sum_eq k (ofL []) (by decide) (by rw [ofL_size]; simp; omega)
  have h4 := sum_eq k (ofL [49, 50, 51, 52, 53, 54, 55, 56, 57]) (by decide) (by rw [ofL_size]; simp; omega)
  have h5 := burst_eq (ofL [97]) 7 32768 (by decide) (by decide)
  have h6 := burst_out (ofL [97]) 8 65535 (by decide) (by decide)
  have h7 := open_closed k [116, 101, 120, 116] (by decide) (by simp; omega)
  rw [ofL_list] at h1 h3 h4
  rw [h1]
  simp only [Option.bind_some]
  rw [h7]
  simp only [Option.bind_some]
  rw [h2]
  simp only [Option.bind_some, crc_New.f, if_true]
  rw [h3]
  simp only [Option.bind_some]
  rw [if_pos (by decide +kernel), h4]
  simp only [Option.bind_some]
  rw [if_pos (by decide +kernel), if_pos (ofL_toList _), if_neg (by decide), show (7 : Int) = ((7 : Nat) : Int) from rfl, h5]
  simp only [Option.bind_some]
  rw [if_pos (by rw [ofL_toList]; decide +kernel), show (8 : Int) = ((8 : Nat) : Int) from rfl, h6]
  simp only [Option.bind_some]
  rw [ofL_toList]
  rfl
theorem mn_nat (a b : Nat) : mn (a : Int) (b : Int) = ((min a b : Nat) : Int) := by
  unfold mn
  split <;> omega
/-- 's[:min(len(s), 300)]'. -/
def cut (s : ByteArray) : ByteArray := s.extract 0 (min s.size 300)
theorem cut_size (s : ByteArray) : (cut s).size = min s.size 300 := by unfold cut; rw [ByteArray.size_extract]; omega
theorem cut_max (s : ByteArray) : (cut s).size ≤ 300 := by rw [cut_size]; omega
theorem mn_ge (s : ByteArray) : 0 ≤ mn (s.size : Int) 300 := by rw [show (300 : Int) = ((300 : Nat) : Int) from rfl, mn_nat]; omega
theorem mn_le (s : ByteArray) : mn (s.size : Int) 300 ≤ (s.size : Int) := by rw [show (300 : Int) = ((300 : Nat) : Int) from rfl, mn_nat]; omega
theorem cut_eq (s : ByteArray) : s.extract 0 ((mn (s.size : Int) 300 : Int).toNat) = cut s := by rw [show (300 : Int) = ((300 : Nat) : Int) from rfl, mn_nat, Int.toNat_natCast]; rfl
theorem size_list (s : ByteArray) : s.size = s.data.toList.length := (data_length s).symm
theorem xors_zero (l : List UInt8) : xors l (noughts l.length) = l := by
  apply List.ext_getElem
  · rw [xors_length]; simp [noughts]
  · intro i h1 h2
    rw [xors_get _ _ (by simp [noughts]) i _ h2 (by simpa [noughts] using h2)]
    simp [noughts]
theorem xors_twice (l e : List UInt8) (h : l.length = e.length) : xors (xors l e) e = l := by
  have hl := xors_length l e h
  apply List.ext_getElem
  · rw [xors_length _ _ (by rw [hl, h]), hl]
  · intro i h1 h2
    rw [xors_get _ _ (by rw [hl, h]) i _ (by rw [hl]; exact h2) (by omega), xors_get l e h i _ h2 (by omega), UInt8.xor_assoc, UInt8.xor_self, UInt8.xor_zero]
theorem xors_cancel (l e : List UInt8) (h : l.length = e.length) (hx : xors l e = l) : e = noughts l.length := by
  apply List.ext_getElem
  · simp [noughts, h]
  · intro i h1 h2
    have hi : i < l.length := by omega
    have hl := xors_length l e h
    have g : (xors l e)[i]'(by omega) = l[i] := by simp only [hx]
    rw [xors_get l e h i _ hi h1] at g
    have : l[i] ^^^ (l[i] ^^^ e[i]) = l[i] ^^^ l[i] := by rw [g]
    rw [← UInt8.xor_assoc, UInt8.xor_self, UInt8.zero_xor] at this
    rw [this]
    simp [noughts]
theorem sum_xors (l e : List UInt8) (h : l.length = e.length) : sum (xors l e) = sum l ^^^ crc 0 e := by
  have := crc_xor (r := 65535) (s := 0) (by omega) (by omega) l e h
  rw [Nat.xor_zero] at this
  exact this
theorem reg_nat (m : Nat) (h : m < 65536) : reg (m : Int) = m := by unfold reg; omega
/-- One turned bit is told. -/
theorem err_one (n k : Nat) (hk : k < 8 * n) : crc 0 (err n k 32768) ≠ 0 := by
  intro h
  have hz : errs n (k / 8) (32768 * 2 ^ (8 - k % 8)) = noughts n := crc_errs_zero n (k / 8) 32768 (k % 8) (by omega) (by omega) (by omega) h
  have hi : k / 8 < (errs n (k / 8) (32768 * 2 ^ (8 - k % 8))).length := by rw [errs_length]; omega
  have g := errs_get n (k / 8) (32768 * 2 ^ (8 - k % 8)) (k / 8) hi
  rw [if_pos rfl] at g
  have g2 : (errs n (k / 8) (32768 * 2 ^ (8 - k % 8)))[k / 8] = 0 := by
    simp only [hz]
    simp [noughts]
  rw [g2] at g
  have g3 := congrArg UInt8.toNat g
  have hp : 32768 * 2 ^ (8 - k % 8) / 65536 = 2 ^ (7 - k % 8) := by
    rw [show 8 - k % 8 = (7 - k % 8) + 1 by omega, Nat.pow_succ]
    omega
  have hlt : 2 ^ (7 - k % 8) ≤ 2 ^ 7 := Nat.pow_le_pow_right (by omega) (by omega)
  have hpos : 0 < 2 ^ (7 - k % 8) := Nat.pow_pos (by omega)
  rw [hp, ofNat_toNat (by omega)] at g3
  simp at g3
  omega
end Go.Proofs.Ythnnnhbfhimkpaa.LinkS
