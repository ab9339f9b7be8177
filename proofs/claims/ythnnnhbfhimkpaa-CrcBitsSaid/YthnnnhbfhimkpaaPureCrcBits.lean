/- A Burst of one bit turns that bit alone; two of them, side by side, are one of both; one of none changes nothing. For every text and place; no condition. -/
import Derived.Test.YthnnnhbfhimkpaaQx12
import Derived.Test.YthnnnhbfhimkpaaLink
set_option linter.unusedVariables false
set_option linter.unusedSimpArgs false
namespace Go.Proofs.Ythnnnhbfhimkpaa.Pure
open Go.RowKit Go.Proofs.Ythnnnhbfhimkpaa.Q Go.Proofs.YthnnnhbfhimkpaaW.PrintWords Go.Proofs.YthnnnhbfhimkpaaW.PrintLast Go.Proofs.YthnnnhbfhimkpaaW.PrintMore Go.Proofs.Ythnnnhbfhimkpaa.Math Go.Proofs.Ythnnnhbfhimkpaa.Link


theorem err_get (n k m i : Nat) (h : i < (err n k m).length) : (err n k m)[i] = if i = k / 8 then UInt8.ofNat (m * 2 ^ (8 - k % 8) / 65536) else if i = k / 8 + 1 then UInt8.ofNat (m * 2 ^ (8 - k % 8) / 256 % 256) else if i = k / 8 + 2 then UInt8.ofNat (m * 2 ^ (8 - k % 8) % 256) else 0 := errs_get _ _ _ _ h
theorem eight (s : Nat) (h : s < 8) : s = 0 ∨ s = 1 ∨ s = 2 ∨ s = 3 ∨ s = 4 ∨ s = 5 ∨ s = 6 ∨ s = 7 := by omega
theorem err_bit (n k i : Nat) (h : i < (err n k 32768).length) : (err n k 32768)[i] = if i = k / 8 then UInt8.ofNat (2 ^ (7 - k % 8)) else 0 := by
  rw [err_get]
  have hs := eight (k % 8) (by omega)
  rcases hs with e | e | e | e | e | e | e | e <;> rw [e] <;> (repeat' split) <;> first | rfl | decide | omega
theorem err_none (n k : Nat) : err n k 0 = noughts n := by
  apply List.ext_getElem
  · rw [err_length]; simp [noughts]
  · intro i i1 i2
    rw [err_get]
    simp only [Nat.zero_mul]
    rw [show (noughts n)[i] = 0 by simp [noughts]]
    (repeat' split) <;> rfl
/-- Two bits, side by side. -/
theorem err_two (n k i : Nat) (h1 : i < (err n k 32768).length) (h2 : i < (err n (k + 1) 32768).length) (h3 : i < (err n k 49152).length) : (err n k 32768)[i] ^^^ (err n (k + 1) 32768)[i] = (err n k 49152)[i] := by
  rw [err_bit, err_bit, err_get]
  have hs := eight (k % 8) (by omega)
  rcases hs with e | e | e | e | e | e | e | e
  all_goals
    first
    | rw [show (k + 1) / 8 = k / 8 by omega]
    | rw [show (k + 1) / 8 = k / 8 + 1 by omega]
    first
    | rw [show (k + 1) % 8 = k % 8 + 1 by omega]
    | rw [show (k + 1) % 8 = 0 by omega]
    rw [e]
    (repeat' split) <;> first | rfl | decide | omega
theorem err_last (n k i : Nat) (hk : k + 1 = 8 * n) (h1 : i < (err n k 32768).length) (h3 : i < (err n k 49152).length) : (err n k 32768)[i] = (err n k 49152)[i] := by
  have hl := err_length n k 32768
  rw [err_bit, err_get, show k % 8 = 7 by omega]
  (repeat' split) <;> first | rfl | decide | omega
theorem loop (x y b : ByteArray) (l : List UInt8) (k : Nat) (hx : x.data.toList = l) (hy : y.data.toList = xors l (err l.length k 32768)) (hs : x.size ≤ 300) (hk : k < 8 * x.size)
    (f1 : crc_Burst.f y (wrap64 ((k : Int) + 1)) 32768 = some b) (f2 : crc_Burst.f x (k : Int) 49152 = some b) (f3 : crc_Burst.f x (k : Int) 0 = some x) (d : Nat) :
    ∀ (r i : Nat), i ≤ x.size → x.size - i = d → d < r → omnibuslaw01_CrcBits.l0 r true x (k : Int) y (i : Int) = some true := by
  have hxl := size_list x
  have hyl := size_list y
  have hel : (err l.length k 32768).length = l.length := err_length _ _ _
  rw [hx] at hxl
  rw [hy, xors_length _ _ hel.symm] at hyl
  have hq : wrap64 (Int.tdiv (k : Int) 8) = ((k / 8 : Nat) : Int) := by
    rw [Int.tdiv_eq_ediv_of_nonneg (by omega), wrap64_id _ (by omega) (by omega)]; omega
  have hm : Int.tmod (k : Int) 8 = ((k % 8 : Nat) : Int) := by rw [Int.tmod_eq_emod_of_nonneg (by omega)]; omega
  induction d with
  | zero =>
    intro r i h1 h2 h3
    obtain ⟨r, rfl⟩ : ∃ m, r = m + 1 := ⟨r - 1, by omega⟩
    unfold omnibuslaw01_CrcBits.l0
    rw [if_neg (by omega), if_pos rfl, f1, Option.bind_some, f2, Option.bind_some, if_pos rfl, f3, Option.bind_some]
    simp
  | succ d ih =>
    intro r i h1 h2 h3
    obtain ⟨r, rfl⟩ : ∃ m, r = m + 1 := ⟨r - 1, by omega⟩
    obtain ⟨p1, b1⟩ := bt_get x i (by omega)
    obtain ⟨p2, b2⟩ := bt_get y i (by omega)
    have i0 : i < l.length := by omega
    have g : (y.data.toList[i]).toNat = (l[i] ^^^ (err l.length k 32768)[i]'(by omega)).toNat := by
      have : y.data.toList[i] = (xors l (err l.length k 32768))[i]'(by rw [xors_length _ _ hel.symm]; exact i0) := by simp only [hy]
      rw [this, xors_get _ _ hel.symm i _ i0 (by omega)]
    have g1 : (x.data.toList[i]).toNat = l[i].toNat := by simp only [hx]
    unfold omnibuslaw01_CrcBits.l0
    rw [if_pos (by omega), if_pos (by omega), hq, hm, b1, b2, g, g1, err_bit, wrap64_id ((i : Int) + 1) (by omega) (by omega), show (i : Int) + 1 = ((i + 1 : Nat) : Int) by omega, ih r (i + 1) (by omega) (by omega) (by omega)]
    by_cases c : i = k / 8
    · have hsh : shr .u8 128 ((k % 8 : Nat) : Int) = ((2 ^ (7 - k % 8) : Nat) : Int) := by
        unfold shr
        have hs := eight (k % 8) (by omega)
        rcases hs with e | e | e | e | e | e | e | e <;> rw [e] <;> decide
      have hp : 2 ^ (7 - k % 8) < 256 := by
        have : 2 ^ (7 - k % 8) ≤ 2 ^ 7 := Nat.pow_le_pow_right (by omega) (by omega)
        omega
      rw [if_pos (by omega), if_pos (by omega), if_pos (by omega), if_pos c, hsh, u8_xor_nat _ _ (UInt8.toNat_lt _) hp, UInt8.toNat_xor, ofNat_toNat hp, if_pos rfl]
    · rw [if_neg (by omega), if_pos (by omega), if_neg c, if_pos (by simp)]
theorem CrcBits : omnibuslaw01_CrcBits.Pure := by
  intro a0 a1 h0 h1
  refine ⟨1000, ?_⟩
  unfold omnibuslaw01_CrcBits.f
  rw [awake_eq 1000 (by omega), Option.bind_some, if_pos (by omega), wrap64_id _ (by omega) (by omega)]
  have hcs : (a0 ++ (⟨#[120]⟩ : ByteArray)).size = a0.size + 1 := by rw [ByteArray.size_append]; rfl
  rw [show (a0.size : Int) + 1 = ((a0 ++ (⟨#[120]⟩ : ByteArray)).size : Int) by rw [hcs]; omega]
  generalize hz : a0 ++ (⟨#[120]⟩ : ByteArray) = z at hcs
  rw [if_pos (mn_ge z), if_pos (mn_le z), cut_eq]
  have hc := cut_max z
  have hpos : 0 < (cut z).size := by rw [cut_size]; omega
  generalize cut z = x at hc hpos
  have hl := size_list x
  rw [wrap64_id (8 * (x.size : Int)) (by omega) (by omega), show 8 * (x.size : Int) = ((8 * x.size : Nat) : Int) by omega]
  obtain ⟨k, hk, hp⟩ := pick_eq a1 (8 * x.size) h1 (by omega)
  rw [hp, Option.bind_some, burst_eq x k _ hk (by omega), show reg 32768 = 32768 from reg_nat 32768 (by omega), Option.bind_some]
  have el : ∀ k m, (err x.data.toList.length k m).length = x.data.toList.length := fun k m => err_length _ _ _
  have hxl : (xors x.data.toList (err x.data.toList.length k 32768)).length = x.data.toList.length := by rw [xors_length _ _ (el _ _).symm]
  rw [if_pos (by rw [ofL_size, hxl, ← hl])]
  have f2 := burst_eq x k 49152 hk (by omega)
  rw [show reg 49152 = 49152 from reg_nat 49152 (by omega)] at f2
  have f3 := burst_eq x k 0 hk (by omega)
  rw [show reg 0 = 0 from reg_nat 0 (by omega), err_none, xors_zero, ofL_of] at f3
  have f1 : crc_Burst.f (ofL (xors x.data.toList (err x.data.toList.length k 32768))) (wrap64 ((k : Int) + 1)) 32768 = some (ofL (xors x.data.toList (err x.data.toList.length k 49152))) := by
    rw [wrap64_id _ (by omega) (by omega), show (k : Int) + 1 = ((k + 1 : Nat) : Int) by omega]
    by_cases c : k + 1 < 8 * x.size
    · have hb := burst_eq (ofL (xors x.data.toList (err x.data.toList.length k 32768))) (k + 1) 32768 (by rw [ofL_size, hxl]; omega) (by rw [ofL_size, hxl]; omega)
      rw [hb, show reg 32768 = 32768 from reg_nat 32768 (by omega), ofL_list, hxl]
      congr 2
      apply List.ext_getElem
      · rw [xors_length _ _ (by rw [hxl, el]), hxl, xors_length _ _ (by rw [el])]
      · intro i i1 i2
        have i0 : i < x.data.toList.length := by rw [xors_length _ _ (by rw [el])] at i2; exact i2
        rw [xors_get _ _ (by rw [hxl, el]) i _ (by rw [hxl]; exact i0) (by rw [el]; exact i0), xors_get _ _ (by rw [el]) i _ i0 (by rw [el]; exact i0), xors_get _ _ (by rw [el]) i _ i0 (by rw [el]; exact i0), UInt8.xor_assoc, err_two]
    · have hb := burst_out (ofL (xors x.data.toList (err x.data.toList.length k 32768))) (k + 1) 32768 (by rw [ofL_size, hxl]; omega) (by omega)
      rw [hb]
      congr 2
      apply List.ext_getElem
      · rw [hxl, xors_length _ _ (by rw [el])]
      · intro i i1 i2
        have i0 : i < x.data.toList.length := by rw [xors_length _ _ (by rw [el])] at i2; exact i2
        rw [xors_get _ _ (by rw [el]) i _ i0 (by rw [el]; exact i0), xors_get _ _ (by rw [el]) i _ i0 (by rw [el]; exact i0), err_last _ _ _ (by omega)]
  exact loop x _ _ x.data.toList k rfl rfl hc hk f1 f2 f3 x.size 1000 0 (by omega) (by omega) (by omega)

end Go.Proofs.Ythnnnhbfhimkpaa.Pure
