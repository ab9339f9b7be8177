/- The plain law CrcSums: the sum of the exclusive or is told by the sums. -/
import Derived.Test.YthnnnhbfhimkpaaSx5
import Derived.Test.YthnnnhbfhimkpaaLinkS
namespace Go.Proofs.Ythnnnhbfhimkpaa.Pure
open Go.RowKit Go.Proofs.Ythnnnhbfhimkpaa.S Go.Proofs.YthnnnhbfhimkpaaW.PrintWords Go.Proofs.YthnnnhbfhimkpaaW.PrintLast Go.Proofs.Ythnnnhbfhimkpaa.Math Go.Proofs.Ythnnnhbfhimkpaa.LinkS

/-- The first i bytes of the exclusive or. -/
def xl (a b : ByteArray) (i : Nat) : List Int := (List.range i).map fun (j : Nat) => Go.bits .xor .u8 (bt a (j : Int)) (bt b (j : Int))
theorem xl_length (a b : ByteArray) (i : Nat) : (xl a b i).length = i := by simp [xl]
theorem xl_succ (a b : ByteArray) (i : Nat) : xl a b (i + 1) = xl a b i ++ [Go.bits .xor .u8 (bt a (i : Int)) (bt b (i : Int))] := by simp [xl, List.range_succ]
theorem xl_str (a b : ByteArray) (n : Nat) (ha : n ≤ a.size) (hb : n ≤ b.size) : strOfNums (xl a b n) = ofL (xors (a.data.toList.take n) (b.data.toList.take n)) := by
  apply ext_list
  rw [ofL_list]
  unfold strOfNums
  show List.map _ _ = _
  have la : (a.data.toList.take n).length = n := by rw [List.length_take, ← size_list]; omega
  have lb : (b.data.toList.take n).length = n := by rw [List.length_take, ← size_list]; omega
  have lx : (xors (a.data.toList.take n) (b.data.toList.take n)).length = n := by rw [xors_length _ _ (by rw [la, lb]), la]
  apply List.ext_getElem
  · rw [List.length_map, xl_length, lx]
  · intro j h1 h2
    have hj : j < n := by rw [← lx]; exact h2
    rw [xors_get _ _ (by rw [la, lb]) j h2 (by rw [la]; exact hj) (by rw [lb]; exact hj)]
    obtain ⟨ga, ea⟩ := bt_get a j (by omega)
    obtain ⟨gb, eb⟩ := bt_get b j (by omega)
    rw [List.getElem_take, List.getElem_take, List.getElem_map]
    have e : (xl a b n)[j]'(by rw [xl_length]; exact hj) = Go.bits .xor .u8 (bt a (j : Int)) (bt b (j : Int)) := by simp [xl]
    rw [e, ea, eb, u8_xor_nat _ _ (UInt8.toNat_lt _) (UInt8.toNat_lt _), Int.toNat_natCast, u8_ofNat_xor _ _ (UInt8.toNat_lt _)]
    simp
theorem zeros_str (n : Nat) : strOfNums (List.replicate n 0) = ofL (noughts n) := by
  apply ext_list
  rw [ofL_list]
  unfold strOfNums
  show List.map _ _ = _
  rw [List.map_replicate]
  rfl
theorem sum_zero (m : List UInt8) : sum m ^^^ sum (noughts m.length) = crc 0 m := by
  have h := crc_xor (r := 0) (s := 65535) (by omega) (by omega) m (noughts m.length) (by simp [noughts])
  rw [xors_zero, Nat.zero_xor] at h
  unfold sum
  rw [h, Nat.xor_assoc, Nat.xor_self, Nat.xor_zero]
theorem sums (l m : List UInt8) (h : l.length = m.length) : sum (xors l m) = (sum l ^^^ sum m) ^^^ sum (noughts m.length) := by
  rw [sum_xors l m h, Nat.xor_assoc, sum_zero]
theorem loop_true (a b : ByteArray) (n : Nat) (ha : n ≤ a.size) (hb : n ≤ b.size) (hn : n ≤ 300) : ∀ d i : Nat, i + d = n →
    omnibuslaw01_CrcSums.l0 (d + 401) a b true (n : Int) (xl a b i) (i : Int) = some true := by
  intro d
  induction d with
  | zero =>
    intro i hi
    obtain rfl : i = n := by omega
    have la : (a.extract 0 i).data.toList = a.data.toList.take i := by rw [extract_list]; rfl
    have lb : (b.extract 0 i).data.toList = b.data.toList.take i := by rw [extract_list]; rfl
    have za : (a.data.toList.take i).length = i := by rw [List.length_take, ← size_list]; omega
    have zb : (b.data.toList.take i).length = i := by rw [List.length_take, ← size_list]; omega
    have sa : (a.extract 0 i).size = i := by rw [size_list, la, za]
    have sb : (b.extract 0 i).size = i := by rw [size_list, lb, zb]
    have zx : (xors (a.data.toList.take i) (b.data.toList.take i)).length = i := by rw [xors_length _ _ (by rw [za, zb]), za]
    have e1 := sum_eq (0 + 400) (ofL (xors (a.data.toList.take i) (b.data.toList.take i))) (by rw [ofL_size]; omega) (by rw [ofL_size]; omega)
    have e2 := sum_eq (0 + 400) (a.extract 0 i) (by omega) (by omega)
    have e3 := sum_eq (0 + 400) (b.extract 0 i) (by omega) (by omega)
    have e4 := sum_eq (0 + 400) (ofL (noughts i)) (by rw [ofL_size]; simp [noughts]; omega) (by rw [ofL_size]; simp [noughts]; omega)
    rw [ofL_list] at e1 e4
    rw [la] at e2
    rw [lb] at e3
    rw [show (0 : Nat) + 401 = 0 + 400 + 1 from rfl, omnibuslaw01_CrcSums.l0, if_neg (by omega), if_pos rfl, Int.toNat_natCast, xl_str a b i ha hb, zeros_str, e1]
    rw [Option.bind_some, if_pos (by omega), if_pos (by omega), e2]
    rw [Option.bind_some, if_pos (by omega), e3]
    rw [Option.bind_some, if_pos (by omega), e4]
    rw [Option.bind_some]
    have s2 := sum_lt (a.data.toList.take i)
    have s3 := sum_lt (b.data.toList.take i)
    have s4 := sum_lt (noughts i)
    have sx := xor_lt s2 s3
    rw [i64_xor_nat _ _ (by omega) (by omega), i64_xor_nat _ _ (by omega) (by omega), sums _ _ (by rw [za, zb]), zb]
    simp
  | succ d ih =>
    intro i hi
    have st := ih (i + 1) (by omega)
    have ew : wrap64 ((i : Int) + 1) = ((i + 1 : Nat) : Int) := by rw [wrap64_id _ (by omega) (by omega)]; omega
    rw [show d + 1 + 401 = d + 401 + 1 from rfl, omnibuslaw01_CrcSums.l0, if_pos (by omega), if_pos (by omega), if_pos (by omega), if_pos (by omega), if_pos (by rw [xl_length]; omega), ew, ← xl_succ]
    exact st
theorem CrcSums : omnibuslaw01_CrcSums.Pure := by
  intro a b ha hb
  refine ⟨min (min a.size b.size) 300 + 401, ?_⟩
  have e : mn (mn (a.size : Int) (b.size : Int)) 300 = ((min (min a.size b.size) 300 : Nat) : Int) := by
    rw [mn_nat, show (300 : Int) = ((300 : Nat) : Int) from rfl, mn_nat]
  unfold omnibuslaw01_CrcSums.f
  rw [awake_eq _ (by omega), Option.bind_some, e]
  have m1 : min (min a.size b.size) 300 ≤ a.size := by omega
  have m2 : min (min a.size b.size) 300 ≤ b.size := by omega
  have m3 : min (min a.size b.size) 300 ≤ 300 := by omega
  generalize min (min a.size b.size) 300 = n at m1 m2 m3
  exact loop_true a b n m1 m2 m3 n 0 (by omega)
end Go.Proofs.Ythnnnhbfhimkpaa.Pure
