/- Facts about texts that are split. -/
import Derived.Test.YtelpblhhpdonkaaRLaw05
namespace Go.Proofs.Ytelpblhhpdonkaa.X
open Go Go.RX Go.RowKit Go.Proofs
set_option linter.unusedVariables false
set_option linter.unusedSimpArgs false
theorem txt_size (s : ByteArray) : 1 ≤ (txtS s).size ∧ (txtS s).size ≤ 20 := by
  unfold txtS
  split
  · exact ⟨Nat.le_refl 1, by decide⟩
  · rw [ByteArray.size_extract]; omega
theorem split_on {sq : Int} {x : ByteArray} {z : Int} (hq : 1 ≤ sq ∧ sq ≤ 65535) (hx : 1 ≤ x.size ∧ x.size ≤ 20) (hz : 1 ≤ z ∧ z ≤ 16) : splitB sq x z = true := by
  unfold splitB
  rw [btw_iff.mpr hq, btw_iff.mpr hz, btw_iff.mpr (by omega)]; rfl
theorem ofN_mono (s : ByteArray) {a b : Nat} (ha : 1 ≤ a) (h : a ≤ b) : ofN s b ≤ ofN s a := by
  rcases Nat.lt_or_ge (ofN s a) (ofN s b) with q | q
  · have h1 := (ofN_lt (s := s) (z := b) (by omega) (ofN s a)).mp q
    have h2 : ofN s a * a ≤ ofN s a * b := Nat.mul_le_mul_left _ h
    have h3 := (ofN_lt (s := s) (z := a) ha (ofN s a)).mpr (by omega)
    omega
  · exact q
theorem ofN_one (s : ByteArray) : ofN s 1 = s.size := by
  unfold ofN; rw [Nat.div_one]; omega
theorem ba_self (x : ByteArray) : (x == x) = true := by rw [ba_beq]; exact decide_eq_true rfl
theorem pieces_self (l : List Piece) : piecesEq l l = true := decide_eq_true rfl
theorem strs_self (l : List ByteArray) : strsEq l l = true := decide_eq_true rfl
theorem splitL_few (sq : Int) (s : ByteArray) (z : Int) : (splitL sq s z).length ≤ 20 := by
  cases h : splitB sq s z with
  | true =>
    have h1 := splitB_is h
    have h2 := ofN_le (s := s) (z := z.toNat) (by omega)
    rw [splitL_len h]; omega
  | false => unfold splitL; rw [h]; exact Nat.zero_le _
theorem encP_size {p : Piece} (h : pieceR p = true) : (encP p).size = 5 + p.bytes.size := by
  unfold encP
  rw [if_pos h, ByteArray.size_append, strOfNums_size]; rfl
theorem encP_few {p : Piece} (h : pieceR p = true) : 6 ≤ (encP p).size ∧ (encP p).size ≤ 21 := by
  have h1 := (pieceR_is h).2.2.2
  rw [encP_size h]; omega
theorem er_zero {b : Bool} (h : b = true) : er1 b = 0 := by rw [h]; rfl
theorem er_one {b : Bool} (h : b = false) : er1 b = 1 := by rw [h]; rfl
end Go.Proofs.Ytelpblhhpdonkaa.X
