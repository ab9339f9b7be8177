/- A register counts as what it leaves, divided by 65536, and so does a mask; the sum of a text hangs on each of its bits. For every register, mask, text and bit; no condition. -/
import Derived.Test.YthnnnhbfhimkpaaQx13
import Derived.Test.YthnnnhbfhimkpaaLink
set_option linter.unusedVariables false
set_option linter.unusedSimpArgs false
namespace Go.Proofs.Ythnnnhbfhimkpaa.Pure
open Go.RowKit Go.Proofs.Ythnnnhbfhimkpaa.Q Go.Proofs.YthnnnhbfhimkpaaW.PrintWords Go.Proofs.YthnnnhbfhimkpaaW.PrintLast Go.Proofs.YthnnnhbfhimkpaaW.PrintMore Go.Proofs.Ythnnnhbfhimkpaa.Math Go.Proofs.Ythnnnhbfhimkpaa.Link

theorem CrcRest : omnibuslaw01_CrcRest.Pure := by
  intro a0 a1 a2 a3 a4 h0 h1 h2 h3 h4
  refine ⟨1000, ?_⟩
  unfold omnibuslaw01_CrcRest.f
  rw [awake_eq 1000 (by omega)]
  rw [Option.bind_some]
  rw [if_pos (by omega), wrap64_id _ (by omega) (by omega)]
  have hcs : (a3 ++ (⟨#[120]⟩ : ByteArray)).size = a3.size + 1 := by rw [ByteArray.size_append]; rfl
  rw [show (a3.size : Int) + 1 = ((a3 ++ (⟨#[120]⟩ : ByteArray)).size : Int) by rw [hcs]; omega]
  generalize hz : a3 ++ (⟨#[120]⟩ : ByteArray) = z at hcs
  rw [if_pos (mn_ge z), if_pos (mn_le z), cut_eq]
  have hc := cut_max z
  have hpos : 0 < (cut z).size := by rw [cut_size]; omega
  generalize cut z = x at hc hpos
  have hl := size_list x
  obtain ⟨a, ha, hpa⟩ := pick_eq a0 65536 h0 (by omega)
  obtain ⟨m, hm, hpm⟩ := pick_eq a1 65536 h1 (by omega)
  obtain ⟨b, hb, hpb⟩ := pick_eq a2 2001 h2 (by omega)
  rw [show (65536 : Int) = ((65536 : Nat) : Int) from rfl, hpa]
  rw [Option.bind_some]
  rw [hpm]
  rw [Option.bind_some]
  rw [show (2001 : Int) = ((2001 : Nat) : Int) from rfl, hpb]
  rw [Option.bind_some]
  rw [wrap64_id (8 * (x.size : Int)) (by omega) (by omega), show 8 * (x.size : Int) = ((8 * x.size : Nat) : Int) by omega]
  obtain ⟨k, hk, hpk⟩ := pick_eq a4 (8 * x.size) h4 (by omega)
  rw [hpk]
  rw [Option.bind_some]
  try rw [if_pos rfl]
  have w1 : wrap64 ((b : Int) - 1000) = (b : Int) - 1000 := wrap64_id _ (by omega) (by omega)
  rw [w1, wrap64_id (((65536 : Nat) : Int) * ((b : Int) - 1000)) (by omega) (by omega), wrap64_id ((a : Int) + _) (by omega) (by omega), wrap64_id ((m : Int) + _) (by omega) (by omega), wrap64_id ((a : Int) + 1) (by omega) (by omega)]
  have ra : reg (a : Int) = a := by unfold reg; omega
  have ra2 : reg ((a : Int) + ((65536 : Nat) : Int) * ((b : Int) - 1000)) = a := by unfold reg; omega
  have rm : reg (m : Int) = m := by unfold reg; omega
  have rm2 : reg ((m : Int) + ((65536 : Nat) : Int) * ((b : Int) - 1000)) = m := by unfold reg; omega
  rw [add_eq 1000 _ _ (by omega) (by omega), ra]
  rw [Option.bind_some]
  rw [add_eq 1000 _ _ (by omega) (by omega), ra2]
  rw [Option.bind_some]
  try rw [if_pos rfl]
  rw [burst_eq x k _ hk (by omega), rm]
  rw [Option.bind_some]
  rw [burst_eq x k _ hk (by omega), rm2]
  rw [Option.bind_some]
  try rw [if_pos rfl]
  rw [burst_eq x k _ hk (by omega), show reg 32768 = 32768 from reg_nat 32768 (by omega)]
  rw [Option.bind_some]
  have hel : (err x.data.toList.length k 32768).length = x.data.toList.length := err_length _ _ _
  have hxl : (xors x.data.toList (err x.data.toList.length k 32768)).length = x.data.toList.length := by rw [xors_length _ _ hel.symm]
  rw [sum_eq 1000 _ (by rw [ofL_size, hxl]; omega) (by rw [ofL_size, hxl]; omega), ofL_list, sum_xors _ _ hel.symm]
  rw [Option.bind_some]
  rw [sum_eq 1000 x (by omega) (by omega)]
  rw [Option.bind_some]
  -- the turned bit is told
  have hne : crc 0 (err x.data.toList.length k 32768) ≠ 0 := err_one _ _ (by omega)
  rw [if_neg]
  · rw [add_eq 1000 _ _ (by omega) (by omega)]
    rw [Option.bind_some]
    have rb : reg (Int.tmod ((a : Int) + 1) ((65536 : Nat) : Int)) = (a + 1) % 65536 := by
      rw [Int.tmod_eq_emod_of_nonneg (by omega)]; unfold reg; omega
    rw [rb, Option.bind_some]
    congr 1
    refine (bne_iff_ne (α := Int)).mpr fun h => ?_
    have h' : crc a x.data.toList = crc ((a + 1) % 65536) x.data.toList := by omega
    have hx := crc_xor ha (show (a + 1) % 65536 < 65536 by omega) x.data.toList x.data.toList rfl
    rw [h', Nat.xor_self] at hx
    have hxx : xors x.data.toList x.data.toList = noughts x.data.toList.length := by
      apply List.ext_getElem
      · rw [xors_length _ _ rfl]; simp [noughts]
      · intro i i1 i2
        have i3 : i < x.data.toList.length := by simpa [noughts] using i2
        rw [xors_get _ _ rfl i _ i3 i3]
        simp [noughts]
    rw [hxx, crc_noughts (xor_lt ha (by omega))] at hx
    have h0 := sts_ne (xor_lt ha (by omega)) _ hx
    have : a ^^^ (a + 1) % 65536 ^^^ (a + 1) % 65536 = 0 ^^^ (a + 1) % 65536 := by rw [h0]
    rw [Nat.xor_assoc, Nat.xor_self, Nat.xor_zero, Nat.zero_xor] at this
    omega
  · intro h
    have h' : sum x.data.toList ^^^ crc 0 (err x.data.toList.length k 32768) = sum x.data.toList := by omega
    have h2 : sum x.data.toList ^^^ (sum x.data.toList ^^^ crc 0 (err x.data.toList.length k 32768)) = sum x.data.toList ^^^ sum x.data.toList := by rw [h']
    rw [← Nat.xor_assoc, Nat.xor_self, Nat.zero_xor] at h2
    exact hne h2

end Go.Proofs.Ythnnnhbfhimkpaa.Pure
