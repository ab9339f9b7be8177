/- Open undoes Close; of a closed text in which a Burst has turned any bit Open tells false; the same Burst again makes it as it was. For every text and every raw place and mask; no condition. -/
import Derived.Test.YthnnnhbfhimkpaaQx8
import Derived.Test.YthnnnhbfhimkpaaLink
set_option linter.unusedVariables false
set_option linter.unusedSimpArgs false
namespace Go.Proofs.Ythnnnhbfhimkpaa.Pure
open Go.RowKit Go.Proofs.Ythnnnhbfhimkpaa.Q Go.Proofs.YthnnnhbfhimkpaaW.PrintWords Go.Proofs.YthnnnhbfhimkpaaW.PrintLast Go.Proofs.YthnnnhbfhimkpaaW.PrintMore Go.Proofs.Ythnnnhbfhimkpaa.Math Go.Proofs.Ythnnnhbfhimkpaa.Link

theorem CrcBursts : omnibuslaw01_CrcBursts.Pure := by
  intro a0 a1 a2 h0 h1 h2
  refine ⟨1000, ?_⟩
  unfold omnibuslaw01_CrcBursts.f
  rw [awake_eq 1000 (by omega)]
  rw [Option.bind_some]
  rw [if_pos (mn_ge a0), if_pos (mn_le a0), cut_eq]
  have hc := cut_max a0
  generalize cut a0 = x at hc
  have hl := size_list x
  rw [close_eq 1000 x (by omega) (by omega)]
  rw [Option.bind_some]
  rw [open_closed 1000 _ (by omega) (by omega)]
  rw [Option.bind_some]
  rw [if_pos (by rw [ofL_of]), if_pos rfl, ofL_size, close_length, wrap64_id _ (by omega) (by omega), show ((((x.data.toList.length + 2 : Nat) : Int)) != (x.size : Int) + 2) = false from bne_eq_false_iff_eq.mpr (by omega)]
  have hyl : (close x.data.toList).length = x.data.toList.length + 2 := close_length _
  have hys := sum_closed x.data.toList
  generalize hy : close x.data.toList = y at hyl hys
  simp only [omnibuslaw01_CrcBursts.j0]
  rw [if_neg (by decide), ofL_size, wrap64_id _ (by omega) (by omega), show 8 * (y.length : Int) = ((8 * y.length : Nat) : Int) by omega]
  obtain ⟨k, hk, hp⟩ := pick_eq a1 (8 * y.length) h1 (by omega)
  obtain ⟨m, hm, hpm⟩ := pick_eq a2 65536 h2 (by omega)
  rw [hp]
  rw [Option.bind_some]
  rw [show (65536 : Int) = ((65536 : Nat) : Int) from rfl, hpm]
  rw [Option.bind_some]
  have hb1 := burst_eq (ofL y) k (m : Int) (by rw [ofL_size]; exact hk) (by rw [ofL_size]; omega)
  rw [ofL_list] at hb1
  rw [hb1]
  rw [Option.bind_some]
  have hrm : reg (m : Int) = m := by unfold reg; omega
  rw [hrm]
  have hel : (err y.length k m).length = y.length := err_length _ _ _
  have hxl : (xors y (err y.length k m)).length = y.length := by rw [xors_length _ _ hel.symm]
  have hsum := sum_xors y (err y.length k m) hel.symm
  rw [hys, Nat.zero_xor] at hsum
  -- the same Burst again
  have hb2 := burst_eq (ofL (xors y (err y.length k m))) k (m : Int) (by rw [ofL_size, hxl]; exact hk) (by rw [ofL_size, hxl]; omega)
  rw [ofL_list, hxl, hrm, xors_twice _ _ hel.symm] at hb2
  -- whether it is opened
  have key : opens (xors y (err y.length k m)) = ((ofL (xors y (err y.length k m))).toList == (ofL y).toList) := by
    rw [ofL_toList, ofL_toList]
    unfold opens
    rw [hxl, decide_eq_true (by omega), Bool.true_and, hsum]
    by_cases c : crc 0 (err y.length k m) = 0
    · have hz := crc_errs_zero y.length (k / 8) m (k % 8) (by omega) (by omega) hm c
      rw [show err y.length k m = noughts y.length from hz, xors_zero, crc_noughts0]
      simp
    · rw [decide_eq_false c]
      symm
      apply beq_eq_false_iff_ne.mpr
      intro hx
      apply c
      rw [xors_cancel _ _ hel.symm hx, crc_noughts0]
  have hop : ∃ s, crc_Open.f 999 (ofL (xors y (err y.length k m))) = some (s, opens (xors y (err y.length k m))) := by
    cases ho : opens (xors y (err y.length k m)) with
    | true => exact ⟨_, open_yes 999 _ (by rw [ofL_size, hxl]; omega) (by rw [ofL_size, hxl]; omega) (by rw [ofL_list]; exact ho)⟩
    | false => exact ⟨_, open_no 999 _ (by rw [ofL_size, hxl]; omega) (by rw [ofL_size, hxl]; omega) (by rw [ofL_list]; exact ho)⟩
  obtain ⟨s, hop⟩ := hop
  rw [hop]
  rw [Option.bind_some]
  try rw [if_pos rfl]
  rw [← key]
  rw [if_pos (by simp), Option.bind_some]
  rw [hb2]
  rw [Option.bind_some]
  try rw [if_pos rfl]
  rw [ofL_size, hxl]
  simp

end Go.Proofs.Ythnnnhbfhimkpaa.Pure
