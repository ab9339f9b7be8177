/- What is closed twice is opened to what is closed once; a text of a byte less than a closed one, or of its last byte turned about, is none. For every text and byte; no condition. -/
import Derived.Test.YthnnnhbfhimkpaaQx11
import Derived.Test.YthnnnhbfhimkpaaLink
set_option linter.unusedVariables false
set_option linter.unusedSimpArgs false
namespace Go.Proofs.Ythnnnhbfhimkpaa.Pure
open Go.RowKit Go.Proofs.Ythnnnhbfhimkpaa.Q Go.Proofs.YthnnnhbfhimkpaaW.PrintWords Go.Proofs.YthnnnhbfhimkpaaW.PrintLast Go.Proofs.YthnnnhbfhimkpaaW.PrintMore Go.Proofs.Ythnnnhbfhimkpaa.Math Go.Proofs.Ythnnnhbfhimkpaa.Link

theorem CrcClosed : omnibuslaw01_CrcClosed.Pure := by
  intro a0 a1 h0 h1
  refine ⟨1000, ?_⟩
  unfold omnibuslaw01_CrcClosed.f
  rw [awake_eq 1000 (by omega)]
  rw [Option.bind_some]
  rw [if_pos (mn_ge a0), if_pos (mn_le a0), cut_eq]
  have hc := cut_max a0
  generalize cut a0 = x at hc
  have hl := size_list x
  rw [close_eq 1000 x (by omega) (by omega)]
  rw [Option.bind_some]
  have hyl : (close x.data.toList).length = x.data.toList.length + 2 := close_length _
  have hcl := close_eq 999 x (by omega) (by omega)
  rw [close_eq 1000 _ (by rw [ofL_size, hyl]; omega) (by rw [ofL_size, hyl]; omega), ofL_list]
  rw [Option.bind_some]
  rw [open_closed 1000 _ (by omega) (by omega)]
  rw [Option.bind_some]
  have hys := sum_closed x.data.toList
  generalize hy : close x.data.toList = y at hyl hys hcl
  rw [if_pos rfl, if_pos rfl, ofL_size, wrap64_id _ (by omega) (by omega), show (((y.length : Nat) : Int) != (x.size : Int) + 2) = false from bne_eq_false_iff_eq.mpr (by omega)]
  simp only [omnibuslaw01_CrcClosed.j0]
  rw [if_neg (by decide), ofL_size, wrap64_id _ (by omega) (by omega), if_pos (by omega), if_pos (by omega)]
  obtain ⟨b, hb, hp⟩ := pick_eq a1 255 h1 (by omega)
  rw [show (255 : Int) = ((255 : Nat) : Int) from rfl, hp]
  rw [Option.bind_some]
  rw [if_pos (by omega)]
  obtain ⟨n, hn⟩ : ∃ n, y.length = n + 1 := ⟨y.length - 1, by omega⟩
  have e1 : ((y.length : Nat) : Int) - 1 = ((n : Nat) : Int) := by omega
  rw [e1, Int.toNat_natCast]
  obtain ⟨h', hbt⟩ := bt_get (ofL y) n (by rw [ofL_size]; omega)
  rw [hbt, wrap64_id (1 + (b : Int)) (by omega) (by omega), show (1 + (b : Int)) % 256 = ((1 + b : Nat) : Int) by omega, u8_xor_nat _ _ (UInt8.toNat_lt _) (by omega)]
  have hg : (ofL y).data.toList[n] = y[n] := rfl
  rw [hg]
  have hstr : strOfNums [((y[n].toNat ^^^ (1 + b) : Nat) : Int)] = ofL [y[n] ^^^ UInt8.ofNat (1 + b)] := by
    unfold strOfNums ofL
    simp only [List.map_cons, List.map_nil, Int.toNat_natCast]
    rw [u8_ofNat_xor _ _ (by omega)]
  rw [Option.bind_some, hstr]
  have hbad : (ofL y).extract 0 n ++ ofL [y[n] ^^^ UInt8.ofNat (1 + b)] = ofL (xors y (single y.length n (UInt8.ofNat (1 + b)))) := by
    apply ext_list
    rw [append_list, extract_list, ofL_list, ofL_list, ofL_list, List.drop_zero]
    have hxl := xors_length y (single y.length n (UInt8.ofNat (1 + b))) (by rw [single_length])
    apply List.ext_getElem
    · rw [hxl]; simp; omega
    · intro i i1 i2
      have i3 : i < y.length := by omega
      rw [xors_get _ _ (by rw [single_length]) i _ i3 (by rw [single_length]; exact i3), single_get, List.getElem_append]
      by_cases c : i < n
      · rw [dif_pos (by simp; omega), if_neg (by omega), List.getElem_take]
        simp
      · have : i = n := by omega
        subst this
        rw [dif_neg (by simp; omega), if_pos rfl]
        simp only [List.length_take, List.getElem_singleton]
        rfl
  rw [if_pos (by rw [ByteArray.size_extract, ofL_size, ofL_size]; simp; omega), hbad]
  have hxl := xors_length y (single y.length n (UInt8.ofNat (1 + b))) (by rw [single_length])
  have hno : opens (xors y (single y.length n (UInt8.ofNat (1 + b)))) = false := by
    unfold opens
    rw [sum_xors _ _ (by rw [single_length]), hys, Nat.zero_xor, crc_single _ (by omega)]
    suffices hz : ¬ sts (8 * (y.length - n) + 8) (UInt8.ofNat (1 + b)).toNat = 0 by
      rw [decide_eq_false hz, Bool.and_false]
    intro h
    have := sts_ne (show (UInt8.ofNat (1 + b)).toNat < 65536 by have := (UInt8.ofNat (1 + b)).toNat_lt; omega) _ h
    rw [ofNat_toNat (by omega)] at this
    omega
  rw [open_no 999 _ (by rw [ofL_size, hxl]; omega) (by rw [ofL_size, hxl]; omega) (by rw [ofL_list]; exact hno)]
  rw [Option.bind_some]
  rw [if_pos trivial, if_neg (by decide), hcl]
  simp

end Go.Proofs.Ythnnnhbfhimkpaa.Pure
