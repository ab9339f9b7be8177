/- Added in two parts a text comes to the same; what is closed comes to 0. For every register, text and place; no condition. -/
import Derived.Test.YthnnnhbfhimkpaaQx9
import Derived.Test.YthnnnhbfhimkpaaLink
set_option linter.unusedVariables false
set_option linter.unusedSimpArgs false
namespace Go.Proofs.Ythnnnhbfhimkpaa.Pure
open Go.RowKit Go.Proofs.Ythnnnhbfhimkpaa.Q Go.Proofs.YthnnnhbfhimkpaaW.PrintWords Go.Proofs.YthnnnhbfhimkpaaW.PrintLast Go.Proofs.YthnnnhbfhimkpaaW.PrintMore Go.Proofs.Ythnnnhbfhimkpaa.Math Go.Proofs.Ythnnnhbfhimkpaa.Link

theorem CrcParts : omnibuslaw01_CrcParts.Pure := by
  intro a0 a1 a2 h0 h1 h2
  refine ⟨1000, ?_⟩
  unfold omnibuslaw01_CrcParts.f
  rw [awake_eq 1000 (by omega)]
  rw [Option.bind_some]
  rw [if_pos (mn_ge a1), if_pos (mn_le a1), cut_eq]
  have hc := cut_max a1
  have hb := i64_bounds h0
  generalize cut a1 = x at hc
  rw [wrap64_id _ (by omega) (by omega), show (x.size : Int) + 1 = ((x.size + 1 : Nat) : Int) by omega]
  obtain ⟨r, hr, hp⟩ := pick_eq a2 (x.size + 1) h2 (by omega)
  rw [hp]
  rw [Option.bind_some]
  have s1 : (x.extract 0 (((r : Nat) : Int)).toNat).size ≤ 300 := by rw [ByteArray.size_extract]; omega
  have s2 : (x.extract (((r : Nat) : Int)).toNat x.size).size ≤ 300 := by rw [ByteArray.size_extract]; omega
  rw [if_pos (by omega), if_pos (by omega), add_eq 1000 a0 _ (by omega) (by omega)]
  rw [Option.bind_some]
  rw [add_eq 1000 _ _ (by omega) (by omega)]
  rw [Option.bind_some]
  try rw [if_pos rfl]
  rw [add_eq 1000 a0 x (by omega) (by omega)]
  rw [Option.bind_some]
  have e1 : reg ((crc (reg a0) (x.extract 0 (((r : Nat) : Int)).toNat).data.toList : Nat) : Int) = crc (reg a0) (x.extract 0 (((r : Nat) : Int)).toNat).data.toList := by
    have := crc_lt (reg_lt a0) (x.extract 0 (((r : Nat) : Int)).toNat).data.toList
    unfold reg at *
    omega
  rw [e1, ← crc_append]
  have e2 : (x.extract 0 (((r : Nat) : Int)).toNat).data.toList ++ (x.extract (((r : Nat) : Int)).toNat x.size).data.toList = x.data.toList := by
    rw [extract_list, extract_list, Int.toNat_natCast, List.drop_zero, size_list x, List.take_length, List.take_append_drop]
  have hlt := crc_lt (reg_lt a0) x.data.toList
  rw [e2, if_pos rfl, if_pos (by omega), if_pos (by omega), close_eq 1000 x (by omega) (by omega)]
  rw [Option.bind_some]
  have hl := size_list x
  rw [sum_eq 1000 _ (by rw [ofL_size, close_length]; omega) (by rw [ofL_size, close_length]; omega), ofL_list, sum_closed]
  rw [Option.bind_some]
  rw [if_pos (by decide), add_eq 1000 _ _ (by decide) (by decide)]
  rw [Option.bind_some]
  rw [add_eq 1000 _ _ (by decide) (by decide)]
  rw [Option.bind_some]
  have e3 : reg (wrap64 (a0 + 65536)) = reg a0 := by unfold reg wrap64; omega
  rw [e3]
  simp

end Go.Proofs.Ythnnnhbfhimkpaa.Pure
