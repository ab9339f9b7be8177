/- Identifiers' keys and bytes tell them. -/
import Derived.Test.YtdpoimomipdgjaaDoorRPrint
namespace Go.Proofs.YtdpoimomipdgjaaDoor.X
open Go Go.RX Go.RowKit Go.Proofs
set_option linter.unusedVariables false
set_option linter.unusedSimpArgs false
theorem right_pick (p : Bool) (a : Int) : right p (pickI a (lim p + 1)) = true := by
  unfold right
  refine decide_eq_true ?_
  unfold pickI
  have h : lim p = 536870911 ∨ lim p = 2047 := by cases p <;> simp [lim]
  rcases h with h | h <;> rw [h] <;> omega
theorem key_range {e : Bool} {n : Int} (h : right e n = true) : 0 ≤ keyI e n ∧ keyI e n < 1073741824 := by
  have hb := right_is h
  unfold keyI
  rw [if_pos h]
  cases e
  · rw [if_neg (by decide)]; have : n ≤ 2047 := hb.2; omega
  · rw [if_pos rfl]; have : n ≤ 536870911 := hb.2; omega
theorem at_keyE {e : Bool} {n : Int} (h : right e n = true) : atE (keyI e n) = e := by
  have hb := right_is h
  unfold keyI atE
  rw [if_pos h]
  cases e
  · rw [if_neg (by decide)]; exact decide_eq_false (by omega)
  · rw [if_pos rfl]; exact decide_eq_true (by omega)
theorem at_keyN {e : Bool} {n : Int} (h : right e n = true) : atN (keyI e n) = n := by
  have hb := right_is h
  unfold atN
  rw [at_keyE h]
  unfold keyI
  rw [if_pos h]
  cases e
  · rw [if_neg (by decide), if_neg (by decide)]; omega
  · rw [if_pos rfl, if_pos rfl]; omega
theorem at_keyR {e : Bool} {n : Int} (h : right e n = true) : atR (keyI e n) = true := by
  unfold atR
  rw [at_keyE h, at_keyN h, h]; simp
theorem bt_nums (l : List Int) (i : Nat) (h : i < l.length) (hr : 0 ≤ l.getD i 0 ∧ l.getD i 0 < 256) : bt (strOfNums l) (i : Int) = l.getD i 0 := by
  unfold bt
  rw [Int.toNat_natCast, dif_pos (by rw [strOfNums_size]; exact h)]
  have hg : l.getD i 0 = l[i] := by rw [List.getD_eq_getElem?_getD, List.getElem?_eq_getElem h]; rfl
  rw [hg] at hr ⊢
  have e : (strOfNums l)[i]'(by rw [strOfNums_size]; exact h) = UInt8.ofNat (l[i]).toNat := by
    show (strOfNums l).data[i]'_ = _
    simp [strOfNums]
  rw [e, UInt8.toNat_ofNat', Nat.mod_eq_of_lt (by omega)]
  omega
theorem print_pv {e : Bool} {n : Int} (h : right e n = true) : pv (printB e n) = printV e n ∧ (printB e n).size = 4 := by
  have hb := right_is h
  have hv : 0 ≤ printV e n ∧ printV e n < 4294967296 := by
    unfold printV
    cases e
    · rw [if_neg (by decide)]; have : n ≤ 2047 := hb.2; omega
    · rw [if_pos rfl]; have : n ≤ 536870911 := hb.2; omega
  unfold printB
  rw [if_pos h]
  generalize printV e n = v at hv
  refine ⟨?_, by rw [strOfNums_size]; rfl⟩
  unfold pv
  have b0 := bt_nums [v / 16777216 % 256, v / 65536 % 256, v / 256 % 256, v % 256] 0 (by simp) (by show 0 ≤ v / 16777216 % 256 ∧ v / 16777216 % 256 < 256; omega)
  have b1 := bt_nums [v / 16777216 % 256, v / 65536 % 256, v / 256 % 256, v % 256] 1 (by simp) (by show 0 ≤ v / 65536 % 256 ∧ v / 65536 % 256 < 256; omega)
  have b2 := bt_nums [v / 16777216 % 256, v / 65536 % 256, v / 256 % 256, v % 256] 2 (by simp) (by show 0 ≤ v / 256 % 256 ∧ v / 256 % 256 < 256; omega)
  have b3 := bt_nums [v / 16777216 % 256, v / 65536 % 256, v / 256 % 256, v % 256] 3 (by simp) (by show 0 ≤ v % 256 ∧ v % 256 < 256; omega)
  rw [show ((0 : Nat) : Int) = 0 from rfl, show [v / 16777216 % 256, v / 65536 % 256, v / 256 % 256, v % 256].getD 0 0 = v / 16777216 % 256 from rfl] at b0
  rw [show ((1 : Nat) : Int) = 1 from rfl, show [v / 16777216 % 256, v / 65536 % 256, v / 256 % 256, v % 256].getD 1 0 = v / 65536 % 256 from rfl] at b1
  rw [show ((2 : Nat) : Int) = 2 from rfl, show [v / 16777216 % 256, v / 65536 % 256, v / 256 % 256, v % 256].getD 2 0 = v / 256 % 256 from rfl] at b2
  rw [show ((3 : Nat) : Int) = 3 from rfl, show [v / 16777216 % 256, v / 65536 % 256, v / 256 % 256, v % 256].getD 3 0 = v % 256 from rfl] at b3
  rw [b0, b1, b2, b3]
  omega
theorem parse_printE {e : Bool} {n : Int} (h : right e n = true) : parseE (printB e n) = e := by
  have hb := right_is h
  unfold parseE
  rw [(print_pv h).1]
  unfold printV
  cases e
  · rw [if_neg (by decide)]; have : n ≤ 2047 := hb.2; exact decide_eq_false (by omega)
  · rw [if_pos rfl]; exact decide_eq_true (by omega)
theorem parse_printN {e : Bool} {n : Int} (h : right e n = true) : parseN (printB e n) = n := by
  have hb := right_is h
  unfold parseN
  rw [(print_pv h).1]
  unfold printV
  cases e
  · rw [if_neg (by decide)]; have : n ≤ 2047 := hb.2; omega
  · rw [if_pos rfl]; have : n ≤ 536870911 := hb.2; omega
theorem parse_printX {e : Bool} {n : Int} (h : right e n = true) : parseX (printB e n) = 0 := by
  unfold parseX
  rw [(print_pv h).2, if_neg (by decide), if_neg (by decide), parse_printE h, parse_printN h, if_pos h]
theorem parse_printB {e : Bool} {n : Int} (h : right e n = true) : parseB (printB e n) = true := by
  unfold parseB; rw [parse_printX h]; rfl
end Go.Proofs.YtdpoimomipdgjaaDoor.X
