/- Pieces: how texts are split, pieces' bytes. -/
import Derived.Test.YtelpblhhpdonkaaRFmay
namespace Go.Proofs.Ytelpblhhpdonkaa.X
open Go Go.RX Go.RowKit Go.Proofs
set_option linter.unusedVariables false
set_option linter.unusedSimpArgs false
/-- A piece's bytes. -/
def encP (p : Piece) : ByteArray := if pieceR p = true then strOfNums [p.seq / 256 % 256, p.seq % 256, p.at_ % 256, p.of_ % 256, (p.bytes.size : Int) % 256] ++ p.bytes else .empty
def deP0 (s : ByteArray) : Piece := ⟨256 * bt s 0 + bt s 1, bt s 2, bt s 3, s.extract 5 (5 + (bt s 4).toNat)⟩
def deE (s : ByteArray) : Int := if s.size < 5 then 3 else if 16 < bt s 4 then 2 else if (s.size : Int) < 5 + bt s 4 then 3 else if pieceR (deP0 s) = true then 0 else 2
def deP (s : ByteArray) : Piece := if deE s = 0 then deP0 s else d_piece
def deR (s : ByteArray) : ByteArray := if deE s = 0 then s.extract (5 + (bt s 4).toNat) s.size else .empty
/-- How many pieces; the i-th one's bytes. -/
def ofN (s : ByteArray) (z : Nat) : Nat := (s.size + z - 1) / z
def chunk (s : ByteArray) (z i : Nat) : ByteArray := s.extract (i * z) (min (i * z + z) s.size)
def splitB (sq : Int) (s : ByteArray) (z : Int) : Bool := btw sq 1 65535 && btw (s.size : Int) 1 20 && btw z 1 16
/-- The first k pieces; of which the first j know how many there are. -/
def mixK (sq : Int) (s : ByteArray) (z k j : Nat) (of : Int) : List Piece := (List.range k).map fun (i : Nat) => ⟨sq, (i : Int), if i < j then of else 0, chunk s z i⟩
def splitP (sq : Int) (s : ByteArray) (z : Nat) : List Piece := mixK sq s z (ofN s z) (ofN s z) (ofN s z : Int)
def splitL (sq : Int) (s : ByteArray) (z : Int) : List Piece := if splitB sq s z = true then splitP sq s z.toNat else []
theorem mixK_length (sq : Int) (s : ByteArray) (z k j : Nat) (of : Int) : (mixK sq s z k j of).length = k := by unfold mixK; rw [List.length_map, List.length_range]
theorem mixK_get (sq : Int) (s : ByteArray) (z k j : Nat) (of : Int) (i : Nat) (h : i < (mixK sq s z k j of).length) : (mixK sq s z k j of)[i] = ⟨sq, (i : Int), if i < j then of else 0, chunk s z i⟩ := by
  simp only [mixK, List.getElem_map, List.getElem_range]
theorem mixK_succ (sq : Int) (s : ByteArray) (z k j : Nat) (of : Int) : mixK sq s z (k + 1) j of = mixK sq s z k j of ++ [⟨sq, (k : Int), if k < j then of else 0, chunk s z k⟩] := by
  unfold mixK; rw [List.range_succ, List.map_append]; rfl
theorem mixK_more (sq : Int) (s : ByteArray) (z k j : Nat) (of : Int) (h : k ≤ j) : mixK sq s z k j of = mixK sq s z k k of := by
  unfold mixK
  refine List.map_congr_left fun i hi => ?_
  have := List.mem_range.mp hi
  rw [if_pos (by omega), if_pos this]
theorem mixK_zero (sq : Int) (s : ByteArray) (z k : Nat) (of of' : Int) : mixK sq s z k 0 of = mixK sq s z k 0 of' := by
  unfold mixK
  refine List.map_congr_left fun i hi => ?_
  rw [if_neg (Nat.not_lt_zero _), if_neg (Nat.not_lt_zero _)]
theorem mixK_set (sq : Int) (s : ByteArray) (z n k : Nat) (of : Int) (h : k < n) : (mixK sq s z n k of).set k ⟨sq, (k : Int), of, chunk s z k⟩ = mixK sq s z n (k + 1) of := by
  refine List.ext_getElem (by rw [List.length_set, mixK_length, mixK_length]) fun i h1 h2 => ?_
  rw [mixK_length] at h2
  by_cases c : k = i
  · subst c
    rw [List.getElem_set_self, mixK_get, if_pos (by omega)]
  · rw [List.getElem_set_ne c, mixK_get, mixK_get]
    by_cases d : i < k
    · rw [if_pos d, if_pos (by omega)]
    · rw [if_neg d, if_neg (by omega)]
theorem ofN_lt {s : ByteArray} {z : Nat} (hz : 1 ≤ z) (k : Nat) : k < ofN s z ↔ k * z < s.size := by
  unfold ofN
  rw [← Nat.succ_le_iff, Nat.le_div_iff_mul_le (by omega), Nat.succ_mul]
  omega
theorem emp5 (s : ByteArray) (a : Nat) (h : s.size ≤ a) : s.extract a s.size = .empty := by
  apply ByteArray.ext
  simp only [ByteArray.data_extract]
  have : s.data.size ≤ a := h
  apply Array.ext
  · simp only [Array.size_extract]; show min s.size s.data.size - a = 0; have : s.data.size = s.size := rfl; omega
  · intro i h1 h2; simp only [Array.size_extract] at h1; have : s.data.size = s.size := rfl; omega
theorem tail5 (s : ByteArray) (a n : Nat) : (s.extract a s.size).extract n (s.extract a s.size).size = s.extract (a + n) s.size := by
  rw [ByteArray.extract_extract, ByteArray.size_extract, Nat.min_self]
  by_cases h : a ≤ s.size
  · congr 1; omega
  · have e : min (a + (s.size - a)) s.size = s.size := by omega
    rw [e]
theorem size5 (s : ByteArray) (a : Nat) : (s.extract a s.size).size = s.size - a := by rw [ByteArray.size_extract, Nat.min_self]
theorem bt_tail5 (s : ByteArray) (a : Nat) : bt (s.extract a s.size) 0 = bt s (a : Int) := by
  unfold bt
  rw [Int.toNat_natCast]
  by_cases h : a < s.size
  · rw [dif_pos (by rw [size5]; show 0 < _; omega), dif_pos h, ByteArray.getElem_extract]
    simp
  · rw [dif_neg (by rw [size5]; show ¬ 0 < _; omega), dif_neg h]
theorem head5 (s : ByteArray) (z k : Nat) (n : Nat) (h : n = z ∨ (n ≤ z ∧ k * z + n = s.size)) : (s.extract (k * z) s.size).extract 0 n = chunk s z k := by
  rw [ByteArray.extract_extract]
  unfold chunk
  congr 1
  omega
theorem minI {a b : Int} : (if a < b then a else b) = min a b := by
  split <;> omega
def fEncode_S : RX.Spec U := fun
  | [⟨true, [.v (.int .i64 sq), .v (.int .i64 a), .v (.int .i64 o), .v (.string s)]⟩] => some ⟨none, (.tup [⟨false, [.v (.string (encP ⟨sq, a, o, s⟩))]⟩, ⟨false, [.v (.int .i64 (er1 (pieceR ⟨sq, a, o, s⟩)))]⟩])⟩
  | _ => none

theorem fEncode_ok : ConOk Try.prog U GV 16 fEncode_S :=
  fn_go gs ty glok (conCons fRight_ok conNil) Try.func16 (by kernel_rfl) fun ds r hg hp => by
    unfold fEncode_S at hg
    split at hg
    · rename_i sq a o s
      cases hg
      refine ⟨fun _ _ => none, ((!pieceR (Piece.mk sq a o s)) = true → Out.tup (U := U) [D.mk false [CV.v (Value.string (ByteArray.mk (Array.mk [])))], D.mk false [CV.v (Value.int IntKind.i64 (1 : Int))]] = Out.tup (U := U) [D.mk false [CV.v (Value.string (encP (Piece.mk sq a o s)))], D.mk false [CV.v (Value.int IntKind.i64 (er1 (pieceR (Piece.mk sq a o s))))]]) ∧ ((!pieceR (Piece.mk sq a o s)) = false → (0 : Int) ≤ (8 : Int) ∧ ByteArray.size (strOfNums (List.map (fun x => x) [IntKind.wrap IntKind.u8 (Int.fdiv sq (256 : Int)), IntKind.wrap IntKind.u8 sq, IntKind.wrap IntKind.u8 a, IntKind.wrap IntKind.u8 o, IntKind.wrap IntKind.u8 (↑(ByteArray.size s) : Int)])) + ByteArray.size s ≤ (9223372036854775807 : Nat) ∧ Out.tup (U := U) [D.mk false [CV.v (Value.string (strOfNums (List.map (fun x => x) [IntKind.wrap IntKind.u8 (Int.fdiv sq (256 : Int)), IntKind.wrap IntKind.u8 sq, IntKind.wrap IntKind.u8 a, IntKind.wrap IntKind.u8 o, IntKind.wrap IntKind.u8 (↑(ByteArray.size s) : Int)]) ++ s))], D.mk false [CV.v (Value.int IntKind.i64 (0 : Int))]] = Out.tup (U := U) [D.mk false [CV.v (Value.string (encP (Piece.mk sq a o s)))], D.mk false [CV.v (Value.int IntKind.i64 (er1 (pieceR (Piece.mk sq a o s))))]]), by kernel_rfl, ?_⟩
      refine ⟨fun h => ?_, fun h => ⟨by decide, ?_, ?_⟩⟩
      · have h : pieceR ⟨sq, a, o, s⟩ = false := by simpa using h
        simp only [Out.one.injEq, Out.tup.injEq, D.mk.injEq, List.cons.injEq, CV.v.injEq, CV.sl.injEq, Value.bool.injEq, Value.int.injEq, Value.string.injEq, and_true, true_and, heq_eq_eq]
        simp only [encP, er1, h, Bool.false_eq_true, if_false, and_true]
        rfl
      · obtain ⟨_, _, _, h4⟩ := pieceR_is (p := ⟨sq, a, o, s⟩) (by simpa using h)
        have h4 : 1 ≤ (s.size : Int) ∧ (s.size : Int) ≤ 16 := h4
        rw [strOfNums_size]
        simp only [List.length_map, List.length_cons, List.length_nil]
        omega
      · have h : pieceR ⟨sq, a, o, s⟩ = true := by simpa using h
        obtain ⟨h1, _, _, _⟩ := pieceR_is h
        have h1 : 1 ≤ sq ∧ sq ≤ 65535 := h1
        have e1 : Int.fdiv sq 256 = sq / 256 := Int.fdiv_eq_ediv_of_nonneg _ (by decide)
        simp only [Out.one.injEq, Out.tup.injEq, D.mk.injEq, List.cons.injEq, CV.v.injEq, CV.sl.injEq, Value.bool.injEq, Value.int.injEq, Value.string.injEq, and_true, true_and, heq_eq_eq]
        simp only [encP, er1, h, if_true, wu8, e1, List.map_cons, List.map_nil, and_true]
    · cases hg

def r5Encode_S : RX.Spec U := fun
  | [⟨true, [.v (.int .i64 sq), .v (.int .i64 a), .v (.int .i64 o), .v (.string s)]⟩] => some ⟨none, (.tup [⟨false, [.v (.string (encP ⟨sq, a, o, s⟩))]⟩, ⟨false, [.v (.int .i64 (er1 (pieceR ⟨sq, a, o, s⟩)))]⟩])⟩
  | _ => none

theorem r5Encode_ok : ConOk Try.prog U GV 17 r5Encode_S :=
  fn_go gs ty glok (conCons r5Right_ok conNil) Try.func17 (by kernel_rfl) fun ds r hg hp => by
    unfold r5Encode_S at hg
    split at hg
    · rename_i sq a o s
      cases hg
      refine ⟨fun _ _ => none, ((!pieceR (Piece.mk sq a o s)) = true → Out.tup (U := U) [D.mk false [CV.v (Value.string (ByteArray.mk (Array.mk [])))], D.mk false [CV.v (Value.int IntKind.i64 (1 : Int))]] = Out.tup (U := U) [D.mk false [CV.v (Value.string (encP (Piece.mk sq a o s)))], D.mk false [CV.v (Value.int IntKind.i64 (er1 (pieceR (Piece.mk sq a o s))))]]) ∧ ((!pieceR (Piece.mk sq a o s)) = false → (256 : Int) ≠ (0 : Int) ∧ (256 : Int) ≠ (0 : Int) ∧ ByteArray.size (strOfNums (List.map (fun x => x) [IntKind.wrap IntKind.u8 (wrap64 (Int.tdiv sq (256 : Int))), IntKind.wrap IntKind.u8 (Int.tmod sq (256 : Int)), IntKind.wrap IntKind.u8 a, IntKind.wrap IntKind.u8 o, IntKind.wrap IntKind.u8 (↑(ByteArray.size s) : Int)])) + ByteArray.size s ≤ (9223372036854775807 : Nat) ∧ Out.tup (U := U) [D.mk false [CV.v (Value.string (strOfNums (List.map (fun x => x) [IntKind.wrap IntKind.u8 (wrap64 (Int.tdiv sq (256 : Int))), IntKind.wrap IntKind.u8 (Int.tmod sq (256 : Int)), IntKind.wrap IntKind.u8 a, IntKind.wrap IntKind.u8 o, IntKind.wrap IntKind.u8 (↑(ByteArray.size s) : Int)]) ++ s))], D.mk false [CV.v (Value.int IntKind.i64 (0 : Int))]] = Out.tup (U := U) [D.mk false [CV.v (Value.string (encP (Piece.mk sq a o s)))], D.mk false [CV.v (Value.int IntKind.i64 (er1 (pieceR (Piece.mk sq a o s))))]]), by kernel_rfl, ?_⟩
      refine ⟨fun h => ?_, fun h => ⟨by decide, by decide, ?_, ?_⟩⟩
      · have h : pieceR ⟨sq, a, o, s⟩ = false := by simpa using h
        simp only [Out.one.injEq, Out.tup.injEq, D.mk.injEq, List.cons.injEq, CV.v.injEq, CV.sl.injEq, Value.bool.injEq, Value.int.injEq, Value.string.injEq, and_true, true_and, heq_eq_eq]
        simp only [encP, er1, h, Bool.false_eq_true, if_false, and_true]
        rfl
      · obtain ⟨_, _, _, h4⟩ := pieceR_is (p := ⟨sq, a, o, s⟩) (by simpa using h)
        have h4 : 1 ≤ (s.size : Int) ∧ (s.size : Int) ≤ 16 := h4
        rw [strOfNums_size]
        simp only [List.length_map, List.length_cons, List.length_nil]
        omega
      · have h : pieceR ⟨sq, a, o, s⟩ = true := by simpa using h
        obtain ⟨h1, _, _, _⟩ := pieceR_is h
        have h1 : 1 ≤ sq ∧ sq ≤ 65535 := h1
        have e1 : wrap64 (Int.tdiv sq 256) = sq / 256 := by rw [Int.tdiv_eq_ediv_of_nonneg (by omega), w64 (by omega)]
        have e2 : Int.tmod sq 256 = sq % 256 := Int.tmod_eq_emod_of_nonneg (by omega)
        simp only [Out.one.injEq, Out.tup.injEq, D.mk.injEq, List.cons.injEq, CV.v.injEq, CV.sl.injEq, Value.bool.injEq, Value.int.injEq, Value.string.injEq, and_true, true_and, heq_eq_eq]
        simp only [encP, er1, h, if_true, wu8, e1, e2, List.map_cons, List.map_nil, and_true, Int.emod_emod_of_dvd _ (Int.dvd_refl 256)]
    · cases hg

def fDecode_S : RX.Spec U := fun
  | [⟨false, [.v (.string s)]⟩] => some ⟨none, (.tup [⟨true, [.v (.int .i64 ((deP s).seq)), .v (.int .i64 ((deP s).at_)), .v (.int .i64 ((deP s).of_)), .v (.string ((deP s).bytes))]⟩, ⟨false, [.v (.string (deR s))]⟩, ⟨false, [.v (.int .i64 (deE s))]⟩])⟩
  | _ => none

set_option maxHeartbeats 8000000 in
set_option maxRecDepth 100000 in
theorem fDecode_ok : ConOk Try.prog U GV 20 fDecode_S :=
  fn_go gs ty glok (conCons fRight_ok conNil) Try.func20 (by kernel_rfl) fun ds r hg hp => by
    unfold fDecode_S at hg
    split at hg
    · rename_i s
      cases hg
      refine ⟨fun _ _ => none, (decide ((↑(ByteArray.size s) : Int) < (5 : Int)) = true → Out.tup (U := U) [D.mk true [CV.v (Value.int IntKind.i64 (0 : Int)), CV.v (Value.int IntKind.i64 (0 : Int)), CV.v (Value.int IntKind.i64 (0 : Int)), CV.v (Value.string (ByteArray.mk (Array.mk [])))], D.mk false [CV.v (Value.string (ByteArray.mk (Array.mk [])))], D.mk false [CV.v (Value.int IntKind.i64 (3 : Int))]] = Out.tup (U := U) [D.mk true [CV.v (Value.int IntKind.i64 (Piece.seq (deP s))), CV.v (Value.int IntKind.i64 (Piece.at_ (deP s))), CV.v (Value.int IntKind.i64 (Piece.of_ (deP s))), CV.v (Value.string (Piece.bytes (deP s)))], D.mk false [CV.v (Value.string (deR s))], D.mk false [CV.v (Value.int IntKind.i64 (deE s))]]) ∧ (decide ((↑(ByteArray.size s) : Int) < (5 : Int)) = false → ((0 : Int) ≤ (0 : Int) ∧ (0 : Int) < (↑(ByteArray.size s) : Int)) ∧ ((0 : Int) ≤ (1 : Int) ∧ (1 : Int) ≤ (↑(ByteArray.size s) : Int)) ∧ ((0 : Int) ≤ (0 : Int) ∧ (0 : Int) < (↑(ByteArray.size (ByteArray.extract s (1 : Nat) (ByteArray.size s))) : Int)) ∧ ((0 : Int) ≤ (1 : Int) ∧ (1 : Int) ≤ (↑(ByteArray.size (ByteArray.extract s (1 : Nat) (ByteArray.size s))) : Int)) ∧ (0 : Int) ≤ (8 : Int) ∧ ((0 : Int) ≤ (0 : Int) ∧ (0 : Int) < (↑(ByteArray.size (ByteArray.extract (ByteArray.extract s (1 : Nat) (ByteArray.size s)) (1 : Nat) (ByteArray.size (ByteArray.extract s (1 : Nat) (ByteArray.size s))))) : Int)) ∧ ((0 : Int) ≤ (1 : Int) ∧ (1 : Int) ≤ (↑(ByteArray.size (ByteArray.extract (ByteArray.extract s (1 : Nat) (ByteArray.size s)) (1 : Nat) (ByteArray.size (ByteArray.extract s (1 : Nat) (ByteArray.size s))))) : Int)) ∧ ((0 : Int) ≤ (0 : Int) ∧ (0 : Int) < (↑(ByteArray.size (ByteArray.extract (ByteArray.extract (ByteArray.extract s (1 : Nat) (ByteArray.size s)) (1 : Nat) (ByteArray.size (ByteArray.extract s (1 : Nat) (ByteArray.size s)))) (1 : Nat) (ByteArray.size (ByteArray.extract (ByteArray.extract s (1 : Nat) (ByteArray.size s)) (1 : Nat) (ByteArray.size (ByteArray.extract s (1 : Nat) (ByteArray.size s))))))) : Int)) ∧ ((0 : Int) ≤ (1 : Int) ∧ (1 : Int) ≤ (↑(ByteArray.size (ByteArray.extract (ByteArray.extract (ByteArray.extract s (1 : Nat) (ByteArray.size s)) (1 : Nat) (ByteArray.size (ByteArray.extract s (1 : Nat) (ByteArray.size s)))) (1 : Nat) (ByteArray.size (ByteArray.extract (ByteArray.extract s (1 : Nat) (ByteArray.size s)) (1 : Nat) (ByteArray.size (ByteArray.extract s (1 : Nat) (ByteArray.size s))))))) : Int)) ∧ ((0 : Int) ≤ (0 : Int) ∧ (0 : Int) < (↑(ByteArray.size (ByteArray.extract (ByteArray.extract (ByteArray.extract (ByteArray.extract s (1 : Nat) (ByteArray.size s)) (1 : Nat) (ByteArray.size (ByteArray.extract s (1 : Nat) (ByteArray.size s)))) (1 : Nat) (ByteArray.size (ByteArray.extract (ByteArray.extract s (1 : Nat) (ByteArray.size s)) (1 : Nat) (ByteArray.size (ByteArray.extract s (1 : Nat) (ByteArray.size s)))))) (1 : Nat) (ByteArray.size (ByteArray.extract (ByteArray.extract (ByteArray.extract s (1 : Nat) (ByteArray.size s)) (1 : Nat) (ByteArray.size (ByteArray.extract s (1 : Nat) (ByteArray.size s)))) (1 : Nat) (ByteArray.size (ByteArray.extract (ByteArray.extract s (1 : Nat) (ByteArray.size s)) (1 : Nat) (ByteArray.size (ByteArray.extract s (1 : Nat) (ByteArray.size s))))))))) : Int)) ∧ ((0 : Int) ≤ (1 : Int) ∧ (1 : Int) ≤ (↑(ByteArray.size (ByteArray.extract (ByteArray.extract (ByteArray.extract (ByteArray.extract s (1 : Nat) (ByteArray.size s)) (1 : Nat) (ByteArray.size (ByteArray.extract s (1 : Nat) (ByteArray.size s)))) (1 : Nat) (ByteArray.size (ByteArray.extract (ByteArray.extract s (1 : Nat) (ByteArray.size s)) (1 : Nat) (ByteArray.size (ByteArray.extract s (1 : Nat) (ByteArray.size s)))))) (1 : Nat) (ByteArray.size (ByteArray.extract (ByteArray.extract (ByteArray.extract s (1 : Nat) (ByteArray.size s)) (1 : Nat) (ByteArray.size (ByteArray.extract s (1 : Nat) (ByteArray.size s)))) (1 : Nat) (ByteArray.size (ByteArray.extract (ByteArray.extract s (1 : Nat) (ByteArray.size s)) (1 : Nat) (ByteArray.size (ByteArray.extract s (1 : Nat) (ByteArray.size s))))))))) : Int)) ∧ (decide ((16 : Int) < IntKind.wrap IntKind.i64 (bt (ByteArray.extract (ByteArray.extract (ByteArray.extract (ByteArray.extract s (1 : Nat) (ByteArray.size s)) (1 : Nat) (ByteArray.size (ByteArray.extract s (1 : Nat) (ByteArray.size s)))) (1 : Nat) (ByteArray.size (ByteArray.extract (ByteArray.extract s (1 : Nat) (ByteArray.size s)) (1 : Nat) (ByteArray.size (ByteArray.extract s (1 : Nat) (ByteArray.size s)))))) (1 : Nat) (ByteArray.size (ByteArray.extract (ByteArray.extract (ByteArray.extract s (1 : Nat) (ByteArray.size s)) (1 : Nat) (ByteArray.size (ByteArray.extract s (1 : Nat) (ByteArray.size s)))) (1 : Nat) (ByteArray.size (ByteArray.extract (ByteArray.extract s (1 : Nat) (ByteArray.size s)) (1 : Nat) (ByteArray.size (ByteArray.extract s (1 : Nat) (ByteArray.size s)))))))) (0 : Int))) = true → Out.tup (U := U) [D.mk true [CV.v (Value.int IntKind.i64 (0 : Int)), CV.v (Value.int IntKind.i64 (0 : Int)), CV.v (Value.int IntKind.i64 (0 : Int)), CV.v (Value.string (ByteArray.mk (Array.mk [])))], D.mk false [CV.v (Value.string (ByteArray.mk (Array.mk [])))], D.mk false [CV.v (Value.int IntKind.i64 (2 : Int))]] = Out.tup (U := U) [D.mk true [CV.v (Value.int IntKind.i64 (Piece.seq (deP s))), CV.v (Value.int IntKind.i64 (Piece.at_ (deP s))), CV.v (Value.int IntKind.i64 (Piece.of_ (deP s))), CV.v (Value.string (Piece.bytes (deP s)))], D.mk false [CV.v (Value.string (deR s))], D.mk false [CV.v (Value.int IntKind.i64 (deE s))]]) ∧ (decide ((16 : Int) < IntKind.wrap IntKind.i64 (bt (ByteArray.extract (ByteArray.extract (ByteArray.extract (ByteArray.extract s (1 : Nat) (ByteArray.size s)) (1 : Nat) (ByteArray.size (ByteArray.extract s (1 : Nat) (ByteArray.size s)))) (1 : Nat) (ByteArray.size (ByteArray.extract (ByteArray.extract s (1 : Nat) (ByteArray.size s)) (1 : Nat) (ByteArray.size (ByteArray.extract s (1 : Nat) (ByteArray.size s)))))) (1 : Nat) (ByteArray.size (ByteArray.extract (ByteArray.extract (ByteArray.extract s (1 : Nat) (ByteArray.size s)) (1 : Nat) (ByteArray.size (ByteArray.extract s (1 : Nat) (ByteArray.size s)))) (1 : Nat) (ByteArray.size (ByteArray.extract (ByteArray.extract s (1 : Nat) (ByteArray.size s)) (1 : Nat) (ByteArray.size (ByteArray.extract s (1 : Nat) (ByteArray.size s)))))))) (0 : Int))) = false → (decide ((↑(ByteArray.size (ByteArray.extract (ByteArray.extract (ByteArray.extract (ByteArray.extract (ByteArray.extract s (1 : Nat) (ByteArray.size s)) (1 : Nat) (ByteArray.size (ByteArray.extract s (1 : Nat) (ByteArray.size s)))) (1 : Nat) (ByteArray.size (ByteArray.extract (ByteArray.extract s (1 : Nat) (ByteArray.size s)) (1 : Nat) (ByteArray.size (ByteArray.extract s (1 : Nat) (ByteArray.size s)))))) (1 : Nat) (ByteArray.size (ByteArray.extract (ByteArray.extract (ByteArray.extract s (1 : Nat) (ByteArray.size s)) (1 : Nat) (ByteArray.size (ByteArray.extract s (1 : Nat) (ByteArray.size s)))) (1 : Nat) (ByteArray.size (ByteArray.extract (ByteArray.extract s (1 : Nat) (ByteArray.size s)) (1 : Nat) (ByteArray.size (ByteArray.extract s (1 : Nat) (ByteArray.size s)))))))) (1 : Nat) (ByteArray.size (ByteArray.extract (ByteArray.extract (ByteArray.extract (ByteArray.extract s (1 : Nat) (ByteArray.size s)) (1 : Nat) (ByteArray.size (ByteArray.extract s (1 : Nat) (ByteArray.size s)))) (1 : Nat) (ByteArray.size (ByteArray.extract (ByteArray.extract s (1 : Nat) (ByteArray.size s)) (1 : Nat) (ByteArray.size (ByteArray.extract s (1 : Nat) (ByteArray.size s)))))) (1 : Nat) (ByteArray.size (ByteArray.extract (ByteArray.extract (ByteArray.extract s (1 : Nat) (ByteArray.size s)) (1 : Nat) (ByteArray.size (ByteArray.extract s (1 : Nat) (ByteArray.size s)))) (1 : Nat) (ByteArray.size (ByteArray.extract (ByteArray.extract s (1 : Nat) (ByteArray.size s)) (1 : Nat) (ByteArray.size (ByteArray.extract s (1 : Nat) (ByteArray.size s))))))))))) : Int) < IntKind.wrap IntKind.i64 (bt (ByteArray.extract (ByteArray.extract (ByteArray.extract (ByteArray.extract s (1 : Nat) (ByteArray.size s)) (1 : Nat) (ByteArray.size (ByteArray.extract s (1 : Nat) (ByteArray.size s)))) (1 : Nat) (ByteArray.size (ByteArray.extract (ByteArray.extract s (1 : Nat) (ByteArray.size s)) (1 : Nat) (ByteArray.size (ByteArray.extract s (1 : Nat) (ByteArray.size s)))))) (1 : Nat) (ByteArray.size (ByteArray.extract (ByteArray.extract (ByteArray.extract s (1 : Nat) (ByteArray.size s)) (1 : Nat) (ByteArray.size (ByteArray.extract s (1 : Nat) (ByteArray.size s)))) (1 : Nat) (ByteArray.size (ByteArray.extract (ByteArray.extract s (1 : Nat) (ByteArray.size s)) (1 : Nat) (ByteArray.size (ByteArray.extract s (1 : Nat) (ByteArray.size s)))))))) (0 : Int))) = true → Out.tup (U := U) [D.mk true [CV.v (Value.int IntKind.i64 (0 : Int)), CV.v (Value.int IntKind.i64 (0 : Int)), CV.v (Value.int IntKind.i64 (0 : Int)), CV.v (Value.string (ByteArray.mk (Array.mk [])))], D.mk false [CV.v (Value.string (ByteArray.mk (Array.mk [])))], D.mk false [CV.v (Value.int IntKind.i64 (3 : Int))]] = Out.tup (U := U) [D.mk true [CV.v (Value.int IntKind.i64 (Piece.seq (deP s))), CV.v (Value.int IntKind.i64 (Piece.at_ (deP s))), CV.v (Value.int IntKind.i64 (Piece.of_ (deP s))), CV.v (Value.string (Piece.bytes (deP s)))], D.mk false [CV.v (Value.string (deR s))], D.mk false [CV.v (Value.int IntKind.i64 (deE s))]]) ∧ (decide ((↑(ByteArray.size (ByteArray.extract (ByteArray.extract (ByteArray.extract (ByteArray.extract (ByteArray.extract s (1 : Nat) (ByteArray.size s)) (1 : Nat) (ByteArray.size (ByteArray.extract s (1 : Nat) (ByteArray.size s)))) (1 : Nat) (ByteArray.size (ByteArray.extract (ByteArray.extract s (1 : Nat) (ByteArray.size s)) (1 : Nat) (ByteArray.size (ByteArray.extract s (1 : Nat) (ByteArray.size s)))))) (1 : Nat) (ByteArray.size (ByteArray.extract (ByteArray.extract (ByteArray.extract s (1 : Nat) (ByteArray.size s)) (1 : Nat) (ByteArray.size (ByteArray.extract s (1 : Nat) (ByteArray.size s)))) (1 : Nat) (ByteArray.size (ByteArray.extract (ByteArray.extract s (1 : Nat) (ByteArray.size s)) (1 : Nat) (ByteArray.size (ByteArray.extract s (1 : Nat) (ByteArray.size s)))))))) (1 : Nat) (ByteArray.size (ByteArray.extract (ByteArray.extract (ByteArray.extract (ByteArray.extract s (1 : Nat) (ByteArray.size s)) (1 : Nat) (ByteArray.size (ByteArray.extract s (1 : Nat) (ByteArray.size s)))) (1 : Nat) (ByteArray.size (ByteArray.extract (ByteArray.extract s (1 : Nat) (ByteArray.size s)) (1 : Nat) (ByteArray.size (ByteArray.extract s (1 : Nat) (ByteArray.size s)))))) (1 : Nat) (ByteArray.size (ByteArray.extract (ByteArray.extract (ByteArray.extract s (1 : Nat) (ByteArray.size s)) (1 : Nat) (ByteArray.size (ByteArray.extract s (1 : Nat) (ByteArray.size s)))) (1 : Nat) (ByteArray.size (ByteArray.extract (ByteArray.extract s (1 : Nat) (ByteArray.size s)) (1 : Nat) (ByteArray.size (ByteArray.extract s (1 : Nat) (ByteArray.size s))))))))))) : Int) < IntKind.wrap IntKind.i64 (bt (ByteArray.extract (ByteArray.extract (ByteArray.extract (ByteArray.extract s (1 : Nat) (ByteArray.size s)) (1 : Nat) (ByteArray.size (ByteArray.extract s (1 : Nat) (ByteArray.size s)))) (1 : Nat) (ByteArray.size (ByteArray.extract (ByteArray.extract s (1 : Nat) (ByteArray.size s)) (1 : Nat) (ByteArray.size (ByteArray.extract s (1 : Nat) (ByteArray.size s)))))) (1 : Nat) (ByteArray.size (ByteArray.extract (ByteArray.extract (ByteArray.extract s (1 : Nat) (ByteArray.size s)) (1 : Nat) (ByteArray.size (ByteArray.extract s (1 : Nat) (ByteArray.size s)))) (1 : Nat) (ByteArray.size (ByteArray.extract (ByteArray.extract s (1 : Nat) (ByteArray.size s)) (1 : Nat) (ByteArray.size (ByteArray.extract s (1 : Nat) (ByteArray.size s)))))))) (0 : Int))) = false → ((0 : Int) ≤ IntKind.wrap IntKind.i64 (bt (ByteArray.extract (ByteArray.extract (ByteArray.extract (ByteArray.extract s (1 : Nat) (ByteArray.size s)) (1 : Nat) (ByteArray.size (ByteArray.extract s (1 : Nat) (ByteArray.size s)))) (1 : Nat) (ByteArray.size (ByteArray.extract (ByteArray.extract s (1 : Nat) (ByteArray.size s)) (1 : Nat) (ByteArray.size (ByteArray.extract s (1 : Nat) (ByteArray.size s)))))) (1 : Nat) (ByteArray.size (ByteArray.extract (ByteArray.extract (ByteArray.extract s (1 : Nat) (ByteArray.size s)) (1 : Nat) (ByteArray.size (ByteArray.extract s (1 : Nat) (ByteArray.size s)))) (1 : Nat) (ByteArray.size (ByteArray.extract (ByteArray.extract s (1 : Nat) (ByteArray.size s)) (1 : Nat) (ByteArray.size (ByteArray.extract s (1 : Nat) (ByteArray.size s)))))))) (0 : Int)) ∧ IntKind.wrap IntKind.i64 (bt (ByteArray.extract (ByteArray.extract (ByteArray.extract (ByteArray.extract s (1 : Nat) (ByteArray.size s)) (1 : Nat) (ByteArray.size (ByteArray.extract s (1 : Nat) (ByteArray.size s)))) (1 : Nat) (ByteArray.size (ByteArray.extract (ByteArray.extract s (1 : Nat) (ByteArray.size s)) (1 : Nat) (ByteArray.size (ByteArray.extract s (1 : Nat) (ByteArray.size s)))))) (1 : Nat) (ByteArray.size (ByteArray.extract (ByteArray.extract (ByteArray.extract s (1 : Nat) (ByteArray.size s)) (1 : Nat) (ByteArray.size (ByteArray.extract s (1 : Nat) (ByteArray.size s)))) (1 : Nat) (ByteArray.size (ByteArray.extract (ByteArray.extract s (1 : Nat) (ByteArray.size s)) (1 : Nat) (ByteArray.size (ByteArray.extract s (1 : Nat) (ByteArray.size s)))))))) (0 : Int)) ≤ (↑(ByteArray.size (ByteArray.extract (ByteArray.extract (ByteArray.extract (ByteArray.extract (ByteArray.extract s (1 : Nat) (ByteArray.size s)) (1 : Nat) (ByteArray.size (ByteArray.extract s (1 : Nat) (ByteArray.size s)))) (1 : Nat) (ByteArray.size (ByteArray.extract (ByteArray.extract s (1 : Nat) (ByteArray.size s)) (1 : Nat) (ByteArray.size (ByteArray.extract s (1 : Nat) (ByteArray.size s)))))) (1 : Nat) (ByteArray.size (ByteArray.extract (ByteArray.extract (ByteArray.extract s (1 : Nat) (ByteArray.size s)) (1 : Nat) (ByteArray.size (ByteArray.extract s (1 : Nat) (ByteArray.size s)))) (1 : Nat) (ByteArray.size (ByteArray.extract (ByteArray.extract s (1 : Nat) (ByteArray.size s)) (1 : Nat) (ByteArray.size (ByteArray.extract s (1 : Nat) (ByteArray.size s)))))))) (1 : Nat) (ByteArray.size (ByteArray.extract (ByteArray.extract (ByteArray.extract (ByteArray.extract s (1 : Nat) (ByteArray.size s)) (1 : Nat) (ByteArray.size (ByteArray.extract s (1 : Nat) (ByteArray.size s)))) (1 : Nat) (ByteArray.size (ByteArray.extract (ByteArray.extract s (1 : Nat) (ByteArray.size s)) (1 : Nat) (ByteArray.size (ByteArray.extract s (1 : Nat) (ByteArray.size s)))))) (1 : Nat) (ByteArray.size (ByteArray.extract (ByteArray.extract (ByteArray.extract s (1 : Nat) (ByteArray.size s)) (1 : Nat) (ByteArray.size (ByteArray.extract s (1 : Nat) (ByteArray.size s)))) (1 : Nat) (ByteArray.size (ByteArray.extract (ByteArray.extract s (1 : Nat) (ByteArray.size s)) (1 : Nat) (ByteArray.size (ByteArray.extract s (1 : Nat) (ByteArray.size s))))))))))) : Int)) ∧ ((0 : Int) ≤ IntKind.wrap IntKind.i64 (bt (ByteArray.extract (ByteArray.extract (ByteArray.extract (ByteArray.extract s (1 : Nat) (ByteArray.size s)) (1 : Nat) (ByteArray.size (ByteArray.extract s (1 : Nat) (ByteArray.size s)))) (1 : Nat) (ByteArray.size (ByteArray.extract (ByteArray.extract s (1 : Nat) (ByteArray.size s)) (1 : Nat) (ByteArray.size (ByteArray.extract s (1 : Nat) (ByteArray.size s)))))) (1 : Nat) (ByteArray.size (ByteArray.extract (ByteArray.extract (ByteArray.extract s (1 : Nat) (ByteArray.size s)) (1 : Nat) (ByteArray.size (ByteArray.extract s (1 : Nat) (ByteArray.size s)))) (1 : Nat) (ByteArray.size (ByteArray.extract (ByteArray.extract s (1 : Nat) (ByteArray.size s)) (1 : Nat) (ByteArray.size (ByteArray.extract s (1 : Nat) (ByteArray.size s)))))))) (0 : Int)) ∧ IntKind.wrap IntKind.i64 (bt (ByteArray.extract (ByteArray.extract (ByteArray.extract (ByteArray.extract s (1 : Nat) (ByteArray.size s)) (1 : Nat) (ByteArray.size (ByteArray.extract s (1 : Nat) (ByteArray.size s)))) (1 : Nat) (ByteArray.size (ByteArray.extract (ByteArray.extract s (1 : Nat) (ByteArray.size s)) (1 : Nat) (ByteArray.size (ByteArray.extract s (1 : Nat) (ByteArray.size s)))))) (1 : Nat) (ByteArray.size (ByteArray.extract (ByteArray.extract (ByteArray.extract s (1 : Nat) (ByteArray.size s)) (1 : Nat) (ByteArray.size (ByteArray.extract s (1 : Nat) (ByteArray.size s)))) (1 : Nat) (ByteArray.size (ByteArray.extract (ByteArray.extract s (1 : Nat) (ByteArray.size s)) (1 : Nat) (ByteArray.size (ByteArray.extract s (1 : Nat) (ByteArray.size s)))))))) (0 : Int)) ≤ (↑(ByteArray.size (ByteArray.extract (ByteArray.extract (ByteArray.extract (ByteArray.extract (ByteArray.extract s (1 : Nat) (ByteArray.size s)) (1 : Nat) (ByteArray.size (ByteArray.extract s (1 : Nat) (ByteArray.size s)))) (1 : Nat) (ByteArray.size (ByteArray.extract (ByteArray.extract s (1 : Nat) (ByteArray.size s)) (1 : Nat) (ByteArray.size (ByteArray.extract s (1 : Nat) (ByteArray.size s)))))) (1 : Nat) (ByteArray.size (ByteArray.extract (ByteArray.extract (ByteArray.extract s (1 : Nat) (ByteArray.size s)) (1 : Nat) (ByteArray.size (ByteArray.extract s (1 : Nat) (ByteArray.size s)))) (1 : Nat) (ByteArray.size (ByteArray.extract (ByteArray.extract s (1 : Nat) (ByteArray.size s)) (1 : Nat) (ByteArray.size (ByteArray.extract s (1 : Nat) (ByteArray.size s)))))))) (1 : Nat) (ByteArray.size (ByteArray.extract (ByteArray.extract (ByteArray.extract (ByteArray.extract s (1 : Nat) (ByteArray.size s)) (1 : Nat) (ByteArray.size (ByteArray.extract s (1 : Nat) (ByteArray.size s)))) (1 : Nat) (ByteArray.size (ByteArray.extract (ByteArray.extract s (1 : Nat) (ByteArray.size s)) (1 : Nat) (ByteArray.size (ByteArray.extract s (1 : Nat) (ByteArray.size s)))))) (1 : Nat) (ByteArray.size (ByteArray.extract (ByteArray.extract (ByteArray.extract s (1 : Nat) (ByteArray.size s)) (1 : Nat) (ByteArray.size (ByteArray.extract s (1 : Nat) (ByteArray.size s)))) (1 : Nat) (ByteArray.size (ByteArray.extract (ByteArray.extract s (1 : Nat) (ByteArray.size s)) (1 : Nat) (ByteArray.size (ByteArray.extract s (1 : Nat) (ByteArray.size s))))))))))) : Int)) ∧ ((!pieceR (Piece.mk (bits BinOp.or IntKind.i64 (IntKind.wrap IntKind.i64 (IntKind.wrap IntKind.i64 (bt s (0 : Int)) * (256 : Int))) (IntKind.wrap IntKind.i64 (bt (ByteArray.extract s (1 : Nat) (ByteArray.size s)) (0 : Int)))) (IntKind.wrap IntKind.i64 (bt (ByteArray.extract (ByteArray.extract s (1 : Nat) (ByteArray.size s)) (1 : Nat) (ByteArray.size (ByteArray.extract s (1 : Nat) (ByteArray.size s)))) (0 : Int))) (IntKind.wrap IntKind.i64 (bt (ByteArray.extract (ByteArray.extract (ByteArray.extract s (1 : Nat) (ByteArray.size s)) (1 : Nat) (ByteArray.size (ByteArray.extract s (1 : Nat) (ByteArray.size s)))) (1 : Nat) (ByteArray.size (ByteArray.extract (ByteArray.extract s (1 : Nat) (ByteArray.size s)) (1 : Nat) (ByteArray.size (ByteArray.extract s (1 : Nat) (ByteArray.size s)))))) (0 : Int))) (ByteArray.extract (ByteArray.extract (ByteArray.extract (ByteArray.extract (ByteArray.extract (ByteArray.extract s (1 : Nat) (ByteArray.size s)) (1 : Nat) (ByteArray.size (ByteArray.extract s (1 : Nat) (ByteArray.size s)))) (1 : Nat) (ByteArray.size (ByteArray.extract (ByteArray.extract s (1 : Nat) (ByteArray.size s)) (1 : Nat) (ByteArray.size (ByteArray.extract s (1 : Nat) (ByteArray.size s)))))) (1 : Nat) (ByteArray.size (ByteArray.extract (ByteArray.extract (ByteArray.extract s (1 : Nat) (ByteArray.size s)) (1 : Nat) (ByteArray.size (ByteArray.extract s (1 : Nat) (ByteArray.size s)))) (1 : Nat) (ByteArray.size (ByteArray.extract (ByteArray.extract s (1 : Nat) (ByteArray.size s)) (1 : Nat) (ByteArray.size (ByteArray.extract s (1 : Nat) (ByteArray.size s)))))))) (1 : Nat) (ByteArray.size (ByteArray.extract (ByteArray.extract (ByteArray.extract (ByteArray.extract s (1 : Nat) (ByteArray.size s)) (1 : Nat) (ByteArray.size (ByteArray.extract s (1 : Nat) (ByteArray.size s)))) (1 : Nat) (ByteArray.size (ByteArray.extract (ByteArray.extract s (1 : Nat) (ByteArray.size s)) (1 : Nat) (ByteArray.size (ByteArray.extract s (1 : Nat) (ByteArray.size s)))))) (1 : Nat) (ByteArray.size (ByteArray.extract (ByteArray.extract (ByteArray.extract s (1 : Nat) (ByteArray.size s)) (1 : Nat) (ByteArray.size (ByteArray.extract s (1 : Nat) (ByteArray.size s)))) (1 : Nat) (ByteArray.size (ByteArray.extract (ByteArray.extract s (1 : Nat) (ByteArray.size s)) (1 : Nat) (ByteArray.size (ByteArray.extract s (1 : Nat) (ByteArray.size s)))))))))) (0 : Nat) (Int.toNat (IntKind.wrap IntKind.i64 (bt (ByteArray.extract (ByteArray.extract (ByteArray.extract (ByteArray.extract s (1 : Nat) (ByteArray.size s)) (1 : Nat) (ByteArray.size (ByteArray.extract s (1 : Nat) (ByteArray.size s)))) (1 : Nat) (ByteArray.size (ByteArray.extract (ByteArray.extract s (1 : Nat) (ByteArray.size s)) (1 : Nat) (ByteArray.size (ByteArray.extract s (1 : Nat) (ByteArray.size s)))))) (1 : Nat) (ByteArray.size (ByteArray.extract (ByteArray.extract (ByteArray.extract s (1 : Nat) (ByteArray.size s)) (1 : Nat) (ByteArray.size (ByteArray.extract s (1 : Nat) (ByteArray.size s)))) (1 : Nat) (ByteArray.size (ByteArray.extract (ByteArray.extract s (1 : Nat) (ByteArray.size s)) (1 : Nat) (ByteArray.size (ByteArray.extract s (1 : Nat) (ByteArray.size s)))))))) (0 : Int))))))) = true → Out.tup (U := U) [D.mk true [CV.v (Value.int IntKind.i64 (0 : Int)), CV.v (Value.int IntKind.i64 (0 : Int)), CV.v (Value.int IntKind.i64 (0 : Int)), CV.v (Value.string (ByteArray.mk (Array.mk [])))], D.mk false [CV.v (Value.string (ByteArray.mk (Array.mk [])))], D.mk false [CV.v (Value.int IntKind.i64 (2 : Int))]] = Out.tup (U := U) [D.mk true [CV.v (Value.int IntKind.i64 (Piece.seq (deP s))), CV.v (Value.int IntKind.i64 (Piece.at_ (deP s))), CV.v (Value.int IntKind.i64 (Piece.of_ (deP s))), CV.v (Value.string (Piece.bytes (deP s)))], D.mk false [CV.v (Value.string (deR s))], D.mk false [CV.v (Value.int IntKind.i64 (deE s))]]) ∧ ((!pieceR (Piece.mk (bits BinOp.or IntKind.i64 (IntKind.wrap IntKind.i64 (IntKind.wrap IntKind.i64 (bt s (0 : Int)) * (256 : Int))) (IntKind.wrap IntKind.i64 (bt (ByteArray.extract s (1 : Nat) (ByteArray.size s)) (0 : Int)))) (IntKind.wrap IntKind.i64 (bt (ByteArray.extract (ByteArray.extract s (1 : Nat) (ByteArray.size s)) (1 : Nat) (ByteArray.size (ByteArray.extract s (1 : Nat) (ByteArray.size s)))) (0 : Int))) (IntKind.wrap IntKind.i64 (bt (ByteArray.extract (ByteArray.extract (ByteArray.extract s (1 : Nat) (ByteArray.size s)) (1 : Nat) (ByteArray.size (ByteArray.extract s (1 : Nat) (ByteArray.size s)))) (1 : Nat) (ByteArray.size (ByteArray.extract (ByteArray.extract s (1 : Nat) (ByteArray.size s)) (1 : Nat) (ByteArray.size (ByteArray.extract s (1 : Nat) (ByteArray.size s)))))) (0 : Int))) (ByteArray.extract (ByteArray.extract (ByteArray.extract (ByteArray.extract (ByteArray.extract (ByteArray.extract s (1 : Nat) (ByteArray.size s)) (1 : Nat) (ByteArray.size (ByteArray.extract s (1 : Nat) (ByteArray.size s)))) (1 : Nat) (ByteArray.size (ByteArray.extract (ByteArray.extract s (1 : Nat) (ByteArray.size s)) (1 : Nat) (ByteArray.size (ByteArray.extract s (1 : Nat) (ByteArray.size s)))))) (1 : Nat) (ByteArray.size (ByteArray.extract (ByteArray.extract (ByteArray.extract s (1 : Nat) (ByteArray.size s)) (1 : Nat) (ByteArray.size (ByteArray.extract s (1 : Nat) (ByteArray.size s)))) (1 : Nat) (ByteArray.size (ByteArray.extract (ByteArray.extract s (1 : Nat) (ByteArray.size s)) (1 : Nat) (ByteArray.size (ByteArray.extract s (1 : Nat) (ByteArray.size s)))))))) (1 : Nat) (ByteArray.size (ByteArray.extract (ByteArray.extract (ByteArray.extract (ByteArray.extract s (1 : Nat) (ByteArray.size s)) (1 : Nat) (ByteArray.size (ByteArray.extract s (1 : Nat) (ByteArray.size s)))) (1 : Nat) (ByteArray.size (ByteArray.extract (ByteArray.extract s (1 : Nat) (ByteArray.size s)) (1 : Nat) (ByteArray.size (ByteArray.extract s (1 : Nat) (ByteArray.size s)))))) (1 : Nat) (ByteArray.size (ByteArray.extract (ByteArray.extract (ByteArray.extract s (1 : Nat) (ByteArray.size s)) (1 : Nat) (ByteArray.size (ByteArray.extract s (1 : Nat) (ByteArray.size s)))) (1 : Nat) (ByteArray.size (ByteArray.extract (ByteArray.extract s (1 : Nat) (ByteArray.size s)) (1 : Nat) (ByteArray.size (ByteArray.extract s (1 : Nat) (ByteArray.size s)))))))))) (0 : Nat) (Int.toNat (IntKind.wrap IntKind.i64 (bt (ByteArray.extract (ByteArray.extract (ByteArray.extract (ByteArray.extract s (1 : Nat) (ByteArray.size s)) (1 : Nat) (ByteArray.size (ByteArray.extract s (1 : Nat) (ByteArray.size s)))) (1 : Nat) (ByteArray.size (ByteArray.extract (ByteArray.extract s (1 : Nat) (ByteArray.size s)) (1 : Nat) (ByteArray.size (ByteArray.extract s (1 : Nat) (ByteArray.size s)))))) (1 : Nat) (ByteArray.size (ByteArray.extract (ByteArray.extract (ByteArray.extract s (1 : Nat) (ByteArray.size s)) (1 : Nat) (ByteArray.size (ByteArray.extract s (1 : Nat) (ByteArray.size s)))) (1 : Nat) (ByteArray.size (ByteArray.extract (ByteArray.extract s (1 : Nat) (ByteArray.size s)) (1 : Nat) (ByteArray.size (ByteArray.extract s (1 : Nat) (ByteArray.size s)))))))) (0 : Int))))))) = false → Out.tup (U := U) [D.mk true [CV.v (Value.int IntKind.i64 (bits BinOp.or IntKind.i64 (IntKind.wrap IntKind.i64 (IntKind.wrap IntKind.i64 (bt s (0 : Int)) * (256 : Int))) (IntKind.wrap IntKind.i64 (bt (ByteArray.extract s (1 : Nat) (ByteArray.size s)) (0 : Int))))), CV.v (Value.int IntKind.i64 (IntKind.wrap IntKind.i64 (bt (ByteArray.extract (ByteArray.extract s (1 : Nat) (ByteArray.size s)) (1 : Nat) (ByteArray.size (ByteArray.extract s (1 : Nat) (ByteArray.size s)))) (0 : Int)))), CV.v (Value.int IntKind.i64 (IntKind.wrap IntKind.i64 (bt (ByteArray.extract (ByteArray.extract (ByteArray.extract s (1 : Nat) (ByteArray.size s)) (1 : Nat) (ByteArray.size (ByteArray.extract s (1 : Nat) (ByteArray.size s)))) (1 : Nat) (ByteArray.size (ByteArray.extract (ByteArray.extract s (1 : Nat) (ByteArray.size s)) (1 : Nat) (ByteArray.size (ByteArray.extract s (1 : Nat) (ByteArray.size s)))))) (0 : Int)))), CV.v (Value.string (ByteArray.extract (ByteArray.extract (ByteArray.extract (ByteArray.extract (ByteArray.extract (ByteArray.extract s (1 : Nat) (ByteArray.size s)) (1 : Nat) (ByteArray.size (ByteArray.extract s (1 : Nat) (ByteArray.size s)))) (1 : Nat) (ByteArray.size (ByteArray.extract (ByteArray.extract s (1 : Nat) (ByteArray.size s)) (1 : Nat) (ByteArray.size (ByteArray.extract s (1 : Nat) (ByteArray.size s)))))) (1 : Nat) (ByteArray.size (ByteArray.extract (ByteArray.extract (ByteArray.extract s (1 : Nat) (ByteArray.size s)) (1 : Nat) (ByteArray.size (ByteArray.extract s (1 : Nat) (ByteArray.size s)))) (1 : Nat) (ByteArray.size (ByteArray.extract (ByteArray.extract s (1 : Nat) (ByteArray.size s)) (1 : Nat) (ByteArray.size (ByteArray.extract s (1 : Nat) (ByteArray.size s)))))))) (1 : Nat) (ByteArray.size (ByteArray.extract (ByteArray.extract (ByteArray.extract (ByteArray.extract s (1 : Nat) (ByteArray.size s)) (1 : Nat) (ByteArray.size (ByteArray.extract s (1 : Nat) (ByteArray.size s)))) (1 : Nat) (ByteArray.size (ByteArray.extract (ByteArray.extract s (1 : Nat) (ByteArray.size s)) (1 : Nat) (ByteArray.size (ByteArray.extract s (1 : Nat) (ByteArray.size s)))))) (1 : Nat) (ByteArray.size (ByteArray.extract (ByteArray.extract (ByteArray.extract s (1 : Nat) (ByteArray.size s)) (1 : Nat) (ByteArray.size (ByteArray.extract s (1 : Nat) (ByteArray.size s)))) (1 : Nat) (ByteArray.size (ByteArray.extract (ByteArray.extract s (1 : Nat) (ByteArray.size s)) (1 : Nat) (ByteArray.size (ByteArray.extract s (1 : Nat) (ByteArray.size s)))))))))) (0 : Nat) (Int.toNat (IntKind.wrap IntKind.i64 (bt (ByteArray.extract (ByteArray.extract (ByteArray.extract (ByteArray.extract s (1 : Nat) (ByteArray.size s)) (1 : Nat) (ByteArray.size (ByteArray.extract s (1 : Nat) (ByteArray.size s)))) (1 : Nat) (ByteArray.size (ByteArray.extract (ByteArray.extract s (1 : Nat) (ByteArray.size s)) (1 : Nat) (ByteArray.size (ByteArray.extract s (1 : Nat) (ByteArray.size s)))))) (1 : Nat) (ByteArray.size (ByteArray.extract (ByteArray.extract (ByteArray.extract s (1 : Nat) (ByteArray.size s)) (1 : Nat) (ByteArray.size (ByteArray.extract s (1 : Nat) (ByteArray.size s)))) (1 : Nat) (ByteArray.size (ByteArray.extract (ByteArray.extract s (1 : Nat) (ByteArray.size s)) (1 : Nat) (ByteArray.size (ByteArray.extract s (1 : Nat) (ByteArray.size s)))))))) (0 : Int))))))], D.mk false [CV.v (Value.string (ByteArray.extract (ByteArray.extract (ByteArray.extract (ByteArray.extract (ByteArray.extract (ByteArray.extract s (1 : Nat) (ByteArray.size s)) (1 : Nat) (ByteArray.size (ByteArray.extract s (1 : Nat) (ByteArray.size s)))) (1 : Nat) (ByteArray.size (ByteArray.extract (ByteArray.extract s (1 : Nat) (ByteArray.size s)) (1 : Nat) (ByteArray.size (ByteArray.extract s (1 : Nat) (ByteArray.size s)))))) (1 : Nat) (ByteArray.size (ByteArray.extract (ByteArray.extract (ByteArray.extract s (1 : Nat) (ByteArray.size s)) (1 : Nat) (ByteArray.size (ByteArray.extract s (1 : Nat) (ByteArray.size s)))) (1 : Nat) (ByteArray.size (ByteArray.extract (ByteArray.extract s (1 : Nat) (ByteArray.size s)) (1 : Nat) (ByteArray.size (ByteArray.extract s (1 : Nat) (ByteArray.size s)))))))) (1 : Nat) (ByteArray.size (ByteArray.extract (ByteArray.extract (ByteArray.extract (ByteArray.extract s (1 : Nat) (ByteArray.size s)) (1 : Nat) (ByteArray.size (ByteArray.extract s (1 : Nat) (ByteArray.size s)))) (1 : Nat) (ByteArray.size (ByteArray.extract (ByteArray.extract s (1 : Nat) (ByteArray.size s)) (1 : Nat) (ByteArray.size (ByteArray.extract s (1 : Nat) (ByteArray.size s)))))) (1 : Nat) (ByteArray.size (ByteArray.extract (ByteArray.extract (ByteArray.extract s (1 : Nat) (ByteArray.size s)) (1 : Nat) (ByteArray.size (ByteArray.extract s (1 : Nat) (ByteArray.size s)))) (1 : Nat) (ByteArray.size (ByteArray.extract (ByteArray.extract s (1 : Nat) (ByteArray.size s)) (1 : Nat) (ByteArray.size (ByteArray.extract s (1 : Nat) (ByteArray.size s)))))))))) (Int.toNat (IntKind.wrap IntKind.i64 (bt (ByteArray.extract (ByteArray.extract (ByteArray.extract (ByteArray.extract s (1 : Nat) (ByteArray.size s)) (1 : Nat) (ByteArray.size (ByteArray.extract s (1 : Nat) (ByteArray.size s)))) (1 : Nat) (ByteArray.size (ByteArray.extract (ByteArray.extract s (1 : Nat) (ByteArray.size s)) (1 : Nat) (ByteArray.size (ByteArray.extract s (1 : Nat) (ByteArray.size s)))))) (1 : Nat) (ByteArray.size (ByteArray.extract (ByteArray.extract (ByteArray.extract s (1 : Nat) (ByteArray.size s)) (1 : Nat) (ByteArray.size (ByteArray.extract s (1 : Nat) (ByteArray.size s)))) (1 : Nat) (ByteArray.size (ByteArray.extract (ByteArray.extract s (1 : Nat) (ByteArray.size s)) (1 : Nat) (ByteArray.size (ByteArray.extract s (1 : Nat) (ByteArray.size s)))))))) (0 : Int)))) (ByteArray.size (ByteArray.extract (ByteArray.extract (ByteArray.extract (ByteArray.extract (ByteArray.extract s (1 : Nat) (ByteArray.size s)) (1 : Nat) (ByteArray.size (ByteArray.extract s (1 : Nat) (ByteArray.size s)))) (1 : Nat) (ByteArray.size (ByteArray.extract (ByteArray.extract s (1 : Nat) (ByteArray.size s)) (1 : Nat) (ByteArray.size (ByteArray.extract s (1 : Nat) (ByteArray.size s)))))) (1 : Nat) (ByteArray.size (ByteArray.extract (ByteArray.extract (ByteArray.extract s (1 : Nat) (ByteArray.size s)) (1 : Nat) (ByteArray.size (ByteArray.extract s (1 : Nat) (ByteArray.size s)))) (1 : Nat) (ByteArray.size (ByteArray.extract (ByteArray.extract s (1 : Nat) (ByteArray.size s)) (1 : Nat) (ByteArray.size (ByteArray.extract s (1 : Nat) (ByteArray.size s)))))))) (1 : Nat) (ByteArray.size (ByteArray.extract (ByteArray.extract (ByteArray.extract (ByteArray.extract s (1 : Nat) (ByteArray.size s)) (1 : Nat) (ByteArray.size (ByteArray.extract s (1 : Nat) (ByteArray.size s)))) (1 : Nat) (ByteArray.size (ByteArray.extract (ByteArray.extract s (1 : Nat) (ByteArray.size s)) (1 : Nat) (ByteArray.size (ByteArray.extract s (1 : Nat) (ByteArray.size s)))))) (1 : Nat) (ByteArray.size (ByteArray.extract (ByteArray.extract (ByteArray.extract s (1 : Nat) (ByteArray.size s)) (1 : Nat) (ByteArray.size (ByteArray.extract s (1 : Nat) (ByteArray.size s)))) (1 : Nat) (ByteArray.size (ByteArray.extract (ByteArray.extract s (1 : Nat) (ByteArray.size s)) (1 : Nat) (ByteArray.size (ByteArray.extract s (1 : Nat) (ByteArray.size s)))))))))))))], D.mk false [CV.v (Value.int IntKind.i64 (0 : Int))]] = Out.tup (U := U) [D.mk true [CV.v (Value.int IntKind.i64 (Piece.seq (deP s))), CV.v (Value.int IntKind.i64 (Piece.at_ (deP s))), CV.v (Value.int IntKind.i64 (Piece.of_ (deP s))), CV.v (Value.string (Piece.bytes (deP s)))], D.mk false [CV.v (Value.string (deR s))], D.mk false [CV.v (Value.int IntKind.i64 (deE s))]])))), by kernel_rfl, ?_⟩
      simp only [wr64]
      have r0 := bt_range s 0
      have r1 := bt_range s 1
      have r2 := bt_range s 2
      have r3 := bt_range s 3
      have r4 := bt_range s 4
      have bad : ∀ c, c ≠ 0 → deE s = c → deP s = d_piece ∧ deR s = .empty := fun c hc h => ⟨by unfold deP; rw [if_neg (by omega)], by unfold deR; rw [if_neg (by omega)]⟩
      have b1 : bt (s.extract 1 s.size) 0 = bt s 1 := bt_tail5 s 1
      have b2 : bt (s.extract 2 s.size) 0 = bt s 2 := bt_tail5 s 2
      have b3 : bt (s.extract 3 s.size) 0 = bt s 3 := bt_tail5 s 3
      have b4 : bt (s.extract 4 s.size) 0 = bt s 4 := bt_tail5 s 4
      simp only [tail5, Nat.reduceAdd]
      simp only [size5, b1, b2, b3, b4]
      rw [w64 (x := bt s 0) (by omega), w64 (x := bt s 1) (by omega), w64 (x := bt s 2) (by omega), w64 (x := bt s 3) (by omega), w64 (x := bt s 4) (by omega)]
      have nacc : bits .or .i64 (wrap64 (bt s 0 * 256)) (bt s 1) = 256 * bt s 0 + bt s 1 := by
        have := nacc_step (bt s 0) (bt s 1) r0.1 (by omega) r1.1 r1.2
        rw [w64 (x := bt s 1) (by omega)] at this
        rw [this]; omega
      rw [nacc]
      have eX : 5 ≤ s.size → bt s 4 ≤ ((s.size - 5 : Nat) : Int) → (s.extract 5 s.size).extract 0 (bt s 4).toNat = s.extract 5 (5 + (bt s 4).toNat) := fun h1 h2 => by
        rw [ByteArray.extract_extract]; congr 1; omega
      refine ⟨fun h => ?_, fun h => ?_⟩
      · have hE : deE s = 3 := if_pos (by have := of_decide_eq_true h; omega)
        obtain ⟨m1, m2⟩ := bad 3 (by decide) hE
        rw [m1, m2, hE]; rfl
      · have h := of_decide_eq_false h
        refine ⟨by omega, by omega, by omega, by omega, by decide, by omega, by omega, by omega, by omega, by omega, by omega, fun h2 => ?_, fun h2 => ?_⟩
        · have hE : deE s = 2 := by unfold deE; rw [if_neg (by omega), if_pos (of_decide_eq_true h2)]
          obtain ⟨m1, m2⟩ := bad 2 (by decide) hE
          rw [m1, m2, hE]; rfl
        · have h2 := of_decide_eq_false h2
          refine ⟨fun h3 => ?_, fun h3 => ?_⟩
          · have h3 := of_decide_eq_true h3
            have hE : deE s = 3 := by unfold deE; rw [if_neg (by omega), if_neg h2, if_pos (by omega)]
            obtain ⟨m1, m2⟩ := bad 3 (by decide) hE
            rw [m1, m2, hE]; rfl
          · have h3 := of_decide_eq_false h3
            rw [eX (by omega) (by omega)]
            refine ⟨⟨r4.1, by omega⟩, ⟨r4.1, by omega⟩, fun h4 => ?_, fun h4 => ?_⟩
            · have h4 : pieceR (deP0 s) = false := by simpa [deP0] using h4
              have hE : deE s = 2 := by unfold deE; rw [if_neg (by omega), if_neg h2, if_neg (by omega), h4, if_neg (by decide)]
              obtain ⟨m1, m2⟩ := bad 2 (by decide) hE
              rw [m1, m2, hE]; rfl
            · have h4 : pieceR (deP0 s) = true := by simpa [deP0] using h4
              have hE : deE s = 0 := by unfold deE; rw [if_neg (by omega), if_neg h2, if_neg (by omega), if_pos h4]
              have m1 : deP s = deP0 s := if_pos hE
              have m2 : deR s = s.extract (5 + (bt s 4).toNat) s.size := if_pos hE
              rw [m1, m2, hE]; rfl
    · cases hg

def r5Decode_S : RX.Spec U := fun
  | [⟨false, [.v (.string s)]⟩] => some ⟨none, (.tup [⟨true, [.v (.int .i64 ((deP s).seq)), .v (.int .i64 ((deP s).at_)), .v (.int .i64 ((deP s).of_)), .v (.string ((deP s).bytes))]⟩, ⟨false, [.v (.string (deR s))]⟩, ⟨false, [.v (.int .i64 (deE s))]⟩])⟩
  | _ => none

theorem r5Decode_ok : ConOk Try.prog U GV 21 r5Decode_S :=
  fn_go gs ty glok (conCons r5Right_ok conNil) Try.func21 (by kernel_rfl) fun ds r hg hp => by
    unfold r5Decode_S at hg
    split at hg
    · rename_i s
      cases hg
      refine ⟨fun _ _ => none, (decide ((↑(ByteArray.size s) : Int) < (5 : Int)) = true → Out.tup (U := U) [D.mk true [CV.v (Value.int IntKind.i64 (0 : Int)), CV.v (Value.int IntKind.i64 (0 : Int)), CV.v (Value.int IntKind.i64 (0 : Int)), CV.v (Value.string (ByteArray.mk (Array.mk [])))], D.mk false [CV.v (Value.string (ByteArray.mk (Array.mk [])))], D.mk false [CV.v (Value.int IntKind.i64 (3 : Int))]] = Out.tup (U := U) [D.mk true [CV.v (Value.int IntKind.i64 (Piece.seq (deP s))), CV.v (Value.int IntKind.i64 (Piece.at_ (deP s))), CV.v (Value.int IntKind.i64 (Piece.of_ (deP s))), CV.v (Value.string (Piece.bytes (deP s)))], D.mk false [CV.v (Value.string (deR s))], D.mk false [CV.v (Value.int IntKind.i64 (deE s))]]) ∧ (decide ((↑(ByteArray.size s) : Int) < (5 : Int)) = false → ((0 : Int) ≤ (4 : Int) ∧ (4 : Int) < (↑(ByteArray.size s) : Int)) ∧ (decide ((16 : Int) < IntKind.wrap IntKind.i64 (bt s (4 : Int))) = true → Out.tup (U := U) [D.mk true [CV.v (Value.int IntKind.i64 (0 : Int)), CV.v (Value.int IntKind.i64 (0 : Int)), CV.v (Value.int IntKind.i64 (0 : Int)), CV.v (Value.string (ByteArray.mk (Array.mk [])))], D.mk false [CV.v (Value.string (ByteArray.mk (Array.mk [])))], D.mk false [CV.v (Value.int IntKind.i64 (2 : Int))]] = Out.tup (U := U) [D.mk true [CV.v (Value.int IntKind.i64 (Piece.seq (deP s))), CV.v (Value.int IntKind.i64 (Piece.at_ (deP s))), CV.v (Value.int IntKind.i64 (Piece.of_ (deP s))), CV.v (Value.string (Piece.bytes (deP s)))], D.mk false [CV.v (Value.string (deR s))], D.mk false [CV.v (Value.int IntKind.i64 (deE s))]]) ∧ (decide ((16 : Int) < IntKind.wrap IntKind.i64 (bt s (4 : Int))) = false → (decide ((↑(ByteArray.size s) : Int) < wrap64 ((5 : Int) + IntKind.wrap IntKind.i64 (bt s (4 : Int)))) = true → Out.tup (U := U) [D.mk true [CV.v (Value.int IntKind.i64 (0 : Int)), CV.v (Value.int IntKind.i64 (0 : Int)), CV.v (Value.int IntKind.i64 (0 : Int)), CV.v (Value.string (ByteArray.mk (Array.mk [])))], D.mk false [CV.v (Value.string (ByteArray.mk (Array.mk [])))], D.mk false [CV.v (Value.int IntKind.i64 (3 : Int))]] = Out.tup (U := U) [D.mk true [CV.v (Value.int IntKind.i64 (Piece.seq (deP s))), CV.v (Value.int IntKind.i64 (Piece.at_ (deP s))), CV.v (Value.int IntKind.i64 (Piece.of_ (deP s))), CV.v (Value.string (Piece.bytes (deP s)))], D.mk false [CV.v (Value.string (deR s))], D.mk false [CV.v (Value.int IntKind.i64 (deE s))]]) ∧ (decide ((↑(ByteArray.size s) : Int) < wrap64 ((5 : Int) + IntKind.wrap IntKind.i64 (bt s (4 : Int)))) = false → ((0 : Int) ≤ (0 : Int) ∧ (0 : Int) < (↑(ByteArray.size s) : Int)) ∧ ((0 : Int) ≤ (1 : Int) ∧ (1 : Int) < (↑(ByteArray.size s) : Int)) ∧ ((0 : Int) ≤ (2 : Int) ∧ (2 : Int) < (↑(ByteArray.size s) : Int)) ∧ ((0 : Int) ≤ (3 : Int) ∧ (3 : Int) < (↑(ByteArray.size s) : Int)) ∧ ((0 : Int) ≤ (5 : Int) ∧ (5 : Int) ≤ wrap64 ((5 : Int) + IntKind.wrap IntKind.i64 (bt s (4 : Int))) ∧ wrap64 ((5 : Int) + IntKind.wrap IntKind.i64 (bt s (4 : Int))) ≤ (↑(ByteArray.size s) : Int)) ∧ ((!pieceR (Piece.mk (wrap64 (wrap64 ((256 : Int) * IntKind.wrap IntKind.i64 (bt s (0 : Int))) + IntKind.wrap IntKind.i64 (bt s (1 : Int)))) (IntKind.wrap IntKind.i64 (bt s (2 : Int))) (IntKind.wrap IntKind.i64 (bt s (3 : Int))) (ByteArray.extract s (5 : Nat) (Int.toNat (wrap64 ((5 : Int) + IntKind.wrap IntKind.i64 (bt s (4 : Int)))))))) = true → Out.tup (U := U) [D.mk true [CV.v (Value.int IntKind.i64 (0 : Int)), CV.v (Value.int IntKind.i64 (0 : Int)), CV.v (Value.int IntKind.i64 (0 : Int)), CV.v (Value.string (ByteArray.mk (Array.mk [])))], D.mk false [CV.v (Value.string (ByteArray.mk (Array.mk [])))], D.mk false [CV.v (Value.int IntKind.i64 (2 : Int))]] = Out.tup (U := U) [D.mk true [CV.v (Value.int IntKind.i64 (Piece.seq (deP s))), CV.v (Value.int IntKind.i64 (Piece.at_ (deP s))), CV.v (Value.int IntKind.i64 (Piece.of_ (deP s))), CV.v (Value.string (Piece.bytes (deP s)))], D.mk false [CV.v (Value.string (deR s))], D.mk false [CV.v (Value.int IntKind.i64 (deE s))]]) ∧ ((!pieceR (Piece.mk (wrap64 (wrap64 ((256 : Int) * IntKind.wrap IntKind.i64 (bt s (0 : Int))) + IntKind.wrap IntKind.i64 (bt s (1 : Int)))) (IntKind.wrap IntKind.i64 (bt s (2 : Int))) (IntKind.wrap IntKind.i64 (bt s (3 : Int))) (ByteArray.extract s (5 : Nat) (Int.toNat (wrap64 ((5 : Int) + IntKind.wrap IntKind.i64 (bt s (4 : Int)))))))) = false → ((0 : Int) ≤ wrap64 ((5 : Int) + IntKind.wrap IntKind.i64 (bt s (4 : Int))) ∧ wrap64 ((5 : Int) + IntKind.wrap IntKind.i64 (bt s (4 : Int))) ≤ (↑(ByteArray.size s) : Int)) ∧ Out.tup (U := U) [D.mk true [CV.v (Value.int IntKind.i64 (wrap64 (wrap64 ((256 : Int) * IntKind.wrap IntKind.i64 (bt s (0 : Int))) + IntKind.wrap IntKind.i64 (bt s (1 : Int))))), CV.v (Value.int IntKind.i64 (IntKind.wrap IntKind.i64 (bt s (2 : Int)))), CV.v (Value.int IntKind.i64 (IntKind.wrap IntKind.i64 (bt s (3 : Int)))), CV.v (Value.string (ByteArray.extract s (5 : Nat) (Int.toNat (wrap64 ((5 : Int) + IntKind.wrap IntKind.i64 (bt s (4 : Int)))))))], D.mk false [CV.v (Value.string (ByteArray.extract s (Int.toNat (wrap64 ((5 : Int) + IntKind.wrap IntKind.i64 (bt s (4 : Int))))) (ByteArray.size s)))], D.mk false [CV.v (Value.int IntKind.i64 (0 : Int))]] = Out.tup (U := U) [D.mk true [CV.v (Value.int IntKind.i64 (Piece.seq (deP s))), CV.v (Value.int IntKind.i64 (Piece.at_ (deP s))), CV.v (Value.int IntKind.i64 (Piece.of_ (deP s))), CV.v (Value.string (Piece.bytes (deP s)))], D.mk false [CV.v (Value.string (deR s))], D.mk false [CV.v (Value.int IntKind.i64 (deE s))]])))), by kernel_rfl, ?_⟩
      simp only [wr64]
      have r0 := bt_range s 0
      have r1 := bt_range s 1
      have r2 := bt_range s 2
      have r3 := bt_range s 3
      have r4 := bt_range s 4
      have bad : ∀ c, c ≠ 0 → deE s = c → deP s = d_piece ∧ deR s = .empty := fun c hc h => ⟨by unfold deP; rw [if_neg (by omega)], by unfold deR; rw [if_neg (by omega)]⟩
      rw [w64 (x := bt s 0) (by omega), w64 (x := bt s 1) (by omega), w64 (x := bt s 2) (by omega), w64 (x := bt s 3) (by omega), w64 (x := bt s 4) (by omega), w64 (x := 5 + bt s 4) (by omega), w64 (x := 256 * bt s 0) (by omega), w64 (x := 256 * bt s 0 + bt s 1) (by omega), show (5 + bt s 4).toNat = 5 + (bt s 4).toNat by omega]
      refine ⟨fun h => ?_, fun h => ?_⟩
      · have hE : deE s = 3 := if_pos (by have := of_decide_eq_true h; omega)
        obtain ⟨m1, m2⟩ := bad 3 (by decide) hE
        rw [m1, m2, hE]; rfl
      · have h := of_decide_eq_false h
        refine ⟨by omega, fun h2 => ?_, fun h2 => ?_⟩
        · have hE : deE s = 2 := by unfold deE; rw [if_neg (by omega), if_pos (of_decide_eq_true h2)]
          obtain ⟨m1, m2⟩ := bad 2 (by decide) hE
          rw [m1, m2, hE]; rfl
        · have h2 := of_decide_eq_false h2
          refine ⟨fun h3 => ?_, fun h3 => ?_⟩
          · have h3 := of_decide_eq_true h3
            have hE : deE s = 3 := by unfold deE; rw [if_neg (by omega), if_neg h2, if_pos (by omega)]
            obtain ⟨m1, m2⟩ := bad 3 (by decide) hE
            rw [m1, m2, hE]; rfl
          · have h3 := of_decide_eq_false h3
            refine ⟨by omega, by omega, by omega, by omega, by omega, fun h4 => ?_, fun h4 => ⟨by omega, ?_⟩⟩
            · have h4 : pieceR (deP0 s) = false := by simpa [deP0] using h4
              have hE : deE s = 2 := by unfold deE; rw [if_neg (by omega), if_neg h2, if_neg (by omega), h4, if_neg (by decide)]
              obtain ⟨m1, m2⟩ := bad 2 (by decide) hE
              rw [m1, m2, hE]; rfl
            · have h4 : pieceR (deP0 s) = true := by simpa [deP0] using h4
              have hE : deE s = 0 := by unfold deE; rw [if_neg (by omega), if_neg h2, if_neg (by omega), if_pos h4]
              have m1 : deP s = deP0 s := if_pos hE
              have m2 : deR s = s.extract (5 + (bt s 4).toNat) s.size := if_pos hE
              rw [m1, m2, hE]; rfl
    · cases hg

def r5Split_S : RX.Spec U := fun
  | [⟨false, [.v (.int .i64 sq)]⟩, ⟨false, [.v (.string s)]⟩, ⟨false, [.v (.int .i64 z)]⟩] => some ⟨none, (.tup [⟨false, [.sl .piece (splitL sq s z)]⟩, ⟨false, [.v (.int .i64 (er1 (splitB sq s z)))]⟩])⟩
  | _ => none

theorem r5Split_ok : ConOk Try.prog U GV 13 r5Split_S :=
  fn_go gs ty glok (conCons r5small_ok conNil) Try.func13 (by kernel_rfl) fun ds r hg hp => by
    unfold r5Split_S at hg
    split at hg
    · rename_i sq s z
      cases hg
      refine ⟨fun st key => if key = 6 then some { N := ofN s z.toNat, mods := fun k => [.tv 10 (.int .i64 (k : Int)), .tr 9 .piece (mixK sq s z.toNat k k (ofN s z.toNat : Int)) true] } else none, ((!btw sq (1 : Int) (65535 : Int) || decide ((↑(ByteArray.size s) : Int) < (1 : Int)) || decide ((20 : Int) < (↑(ByteArray.size s) : Int)) || decide (z < (1 : Int)) || decide ((16 : Int) < z)) = true → Out.tup (U := U) [D.mk false [CV.sl Kind.piece []], D.mk false [CV.v (Value.int IntKind.i64 (1 : Int))]] = Out.tup (U := U) [D.mk false [CV.sl Kind.piece (splitL sq s z)], D.mk false [CV.v (Value.int IntKind.i64 (er1 (splitB sq s z)))]]) ∧ ((!btw sq (1 : Int) (65535 : Int) || decide ((↑(ByteArray.size s) : Int) < (1 : Int)) || decide ((20 : Int) < (↑(ByteArray.size s) : Int)) || decide (z < (1 : Int)) || decide ((16 : Int) < z)) = false → z ≠ (0 : Int) ∧ True ∧ (Value.int IntKind.i64 (0 : Int) = Value.int IntKind.i64 (0 : Int) ∧ mixK sq s (Int.toNat z) (0 : Nat) (0 : Nat) (↑(ofN s (Int.toNat z)) : Int) = []) ∧ ∀ (k : Nat), k ≤ ofN s (Int.toNat z) → True → (decide ((↑k : Int) < wrap64 (Int.tdiv (wrap64 (wrap64 ((↑(ByteArray.size s) : Int) + z) - (1 : Int))) z)) = true → ((0 : Int) ≤ wrap64 ((↑k : Int) * z) ∧ (wrap64 ((↑k : Int) * z) ≤ if (↑(ByteArray.size s) : Int) < wrap64 (wrap64 ((↑k : Int) * z) + z) then (↑(ByteArray.size s) : Int) else wrap64 (wrap64 ((↑k : Int) * z) + z)) ∧ (if (↑(ByteArray.size s) : Int) < wrap64 (wrap64 ((↑k : Int) * z) + z) then (↑(ByteArray.size s) : Int) else wrap64 (wrap64 ((↑k : Int) * z) + z)) ≤ (↑(ByteArray.size s) : Int)) ∧ List.length (mixK sq s (Int.toNat z) k k (↑(ofN s (Int.toNat z)) : Int)) + List.length [Piece.mk sq (↑k : Int) (wrap64 (Int.tdiv (wrap64 (wrap64 ((↑(ByteArray.size s) : Int) + z) - (1 : Int))) z)) (ByteArray.extract s (Int.toNat (wrap64 ((↑k : Int) * z))) (Int.toNat (if (↑(ByteArray.size s) : Int) < wrap64 (wrap64 ((↑k : Int) * z) + z) then (↑(ByteArray.size s) : Int) else wrap64 (wrap64 ((↑k : Int) * z) + z))))] ≤ (1000000 : Nat) ∧ k < ofN s (Int.toNat z) ∧ True ∧ Value.int IntKind.i64 (wrap64 ((↑k : Int) + (1 : Int))) = Value.int IntKind.i64 (↑(k + (1 : Nat)) : Int) ∧ True ∧ mixK sq s (Int.toNat z) k k (↑(ofN s (Int.toNat z)) : Int) ++ [Piece.mk sq (↑k : Int) (wrap64 (Int.tdiv (wrap64 (wrap64 ((↑(ByteArray.size s) : Int) + z) - (1 : Int))) z)) (ByteArray.extract s (Int.toNat (wrap64 ((↑k : Int) * z))) (Int.toNat (if (↑(ByteArray.size s) : Int) < wrap64 (wrap64 ((↑k : Int) * z) + z) then (↑(ByteArray.size s) : Int) else wrap64 (wrap64 ((↑k : Int) * z) + z))))] = mixK sq s (Int.toNat z) (k + (1 : Nat)) (k + (1 : Nat)) (↑(ofN s (Int.toNat z)) : Int)) ∧ (decide ((↑k : Int) < wrap64 (Int.tdiv (wrap64 (wrap64 ((↑(ByteArray.size s) : Int) + z) - (1 : Int))) z)) = false → Out.tup (U := U) [D.mk false [CV.sl Kind.piece (mixK sq s (Int.toNat z) k k (↑(ofN s (Int.toNat z)) : Int))], D.mk false [CV.v (Value.int IntKind.i64 (0 : Int))]] = Out.tup (U := U) [D.mk false [CV.sl Kind.piece (splitL sq s z)], D.mk false [CV.v (Value.int IntKind.i64 (er1 (splitB sq s z)))]])), by kernel_rfl, ?_⟩
      have key : splitB sq s z = !(!btw sq 1 65535 || decide ((s.size : Int) < 1) || decide ((20 : Int) < (s.size : Int)) || decide (z < 1) || decide ((16 : Int) < z)) := by
        unfold splitB btw
        rw [Bool.eq_iff_iff]
        simp only [Bool.and_eq_true, decide_eq_true_eq, Bool.not_eq_true', Bool.or_eq_false_iff, decide_eq_false_iff_not, Bool.not_eq_false']
        omega
      refine ⟨fun h => ?_, fun h => ?_⟩
      · rw [h] at key
        unfold splitL er1
        rw [key]; rfl
      · rw [h] at key
        have hb := key
        unfold splitB at hb
        simp only [Bool.and_eq_true, btw_iff, Bool.not_false] at hb
        obtain ⟨⟨_, hs⟩, hz⟩ := hb
        obtain ⟨n, rfl⟩ := Int.eq_ofNat_of_zero_le (show 0 ≤ z by omega)
        have hL : splitL sq s (n : Int) = mixK sq s n (ofN s n) (ofN s n) (ofN s n : Int) := by unfold splitL; rw [key]; rfl
        have e1 : wrap64 (Int.tdiv (wrap64 (wrap64 ((s.size : Int) + (n : Int)) - 1)) (n : Int)) = (ofN s n : Int) := by
          rw [w64 (x := (s.size : Int) + (n : Int)) (by omega), w64 (x := (s.size : Int) + (n : Int) - 1) (by omega), Int.tdiv_eq_ediv_of_nonneg (by omega)]
          have : ((s.size : Int) + (n : Int) - 1) = ((s.size + n - 1 : Nat) : Int) := by omega
          rw [this]
          have h2 : ((s.size + n - 1 : Nat) : Int) / (n : Int) = (((s.size + n - 1) / n : Nat) : Int) := by rw [Int.natCast_ediv]
          have h3 : (s.size + n - 1) / n ≤ s.size + n - 1 := Nat.div_le_self _ _
          rw [h2]
          generalize hq : (s.size + n - 1) / n = q at h3
          rw [w64 (by omega), ← hq]; rfl
        rw [e1, hL, Int.toNat_natCast]
        have hN : ofN s n ≤ s.size := by
          have h1 := (ofN_lt (s := s) (z := n) (by omega) s.size).mp
          have h2 : s.size * 1 ≤ s.size * n := Nat.mul_le_mul_left _ (by omega)
          rcases Nat.lt_or_ge s.size (ofN s n) with q | q
          · have := h1 q; omega
          · exact q
        refine ⟨by omega, trivial, ⟨rfl, rfl⟩, fun k hk _ => ⟨fun hlt => ?_, fun hge => ?_⟩⟩
        · have hlt : k < ofN s n := by have := of_decide_eq_true hlt; omega
          have hkn := (ofN_lt (s := s) (z := n) (by omega) k).mp hlt
          have ec : ((k : Int) * (n : Int)) = ((k * n : Nat) : Int) := (Int.natCast_mul k n).symm
          rw [ec, w64 (x := ((k * n : Nat) : Int)) (by omega), w64 (x := ((k * n : Nat) : Int) + (n : Int)) (by omega), minI]
          have et : (min (s.size : Int) (((k * n : Nat) : Int) + (n : Int))).toNat = min (k * n + n) s.size := by omega
          rw [et, Int.toNat_natCast]
          refine ⟨by omega, by rw [mixK_length]; simp only [List.length_cons, List.length_nil]; omega, hlt, trivial, ?_, trivial, ?_⟩
          · rw [w64 (by omega)]; rfl
          · rw [mixK_succ, mixK_more sq s n k (k + 1) _ (by omega), if_pos (by omega)]; rfl
        · have hge := of_decide_eq_false hge
          have hkN : k = ofN s n := by omega
          subst hkN
          unfold er1
          rw [key]; rfl
    · cases hg

def fSplit_S : RX.Spec U := fun
  | [⟨false, [.v (.int .i64 sq)]⟩, ⟨false, [.v (.string s)]⟩, ⟨false, [.v (.int .i64 z)]⟩] => some ⟨none, (.tup [⟨false, [.sl .piece (splitL sq s z)]⟩, ⟨false, [.v (.int .i64 (er1 (splitB sq s z)))]⟩])⟩
  | _ => none

theorem fSplit_ok : ConOk Try.prog U GV 12 fSplit_S :=
  fn_go gs ty (RX.glX_ok glok) (conCons fsmall_ok (conCons fbtw_ok conNil)) Try.func12 (by kernel_rfl) fun ds r hg hp => by
    unfold fSplit_S at hg
    split at hg
    · rename_i sq s z
      cases hg
      refine ⟨fun st key => if key = 0 then some { N := ofN s z.toNat, mods := fun k => [.cv 1 0 (.string (s.extract (k * z.toNat) s.size)), .cx 1000004 0 .piece (mixK sq s z.toNat k 0 0)] } else if key = 7 then some { N := ofN s z.toNat, mods := fun k => [.tv 38 (.int .i64 (k : Int)), .xc 1000004 0 .piece (mixK sq s z.toNat (ofN s z.toNat) k (ofN s z.toNat : Int))] } else none, ((!btw sq (1 : Int) (65535 : Int) || !btw (↑(ByteArray.size s) : Int) (1 : Int) (20 : Int) || !btw z (1 : Int) (16 : Int)) = true → Out.tup (U := U) [D.mk false [CV.sl Kind.piece []], D.mk false [CV.v (Value.int IntKind.i64 (1 : Int))]] = Out.tup (U := U) [D.mk false [CV.sl Kind.piece (splitL sq s z)], D.mk false [CV.v (Value.int IntKind.i64 (er1 (splitB sq s z)))]]) ∧ ((!btw sq (1 : Int) (65535 : Int) || !btw (↑(ByteArray.size s) : Int) (1 : Int) (20 : Int) || !btw z (1 : Int) (16 : Int)) = false → True ∧ (Value.string s = Value.string (ByteArray.extract s ((0 : Nat) * Int.toNat z) (ByteArray.size s)) ∧ mixK sq s (Int.toNat z) (0 : Nat) (0 : Nat) (0 : Int) = []) ∧ ∀ (k : Nat), k ≤ ofN s (Int.toNat z) → True → (decide ((0 : Int) < (↑(ByteArray.size (ByteArray.extract s (k * Int.toNat z) (ByteArray.size s))) : Int)) = true → (((0 : Int) ≤ if (↑(ByteArray.size (ByteArray.extract s (k * Int.toNat z) (ByteArray.size s))) : Int) < z then (↑(ByteArray.size (ByteArray.extract s (k * Int.toNat z) (ByteArray.size s))) : Int) else z) ∧ (if (↑(ByteArray.size (ByteArray.extract s (k * Int.toNat z) (ByteArray.size s))) : Int) < z then (↑(ByteArray.size (ByteArray.extract s (k * Int.toNat z) (ByteArray.size s))) : Int) else z) ≤ (↑(ByteArray.size (ByteArray.extract s (k * Int.toNat z) (ByteArray.size s))) : Int)) ∧ List.length (mixK sq s (Int.toNat z) k (0 : Nat) (0 : Int)) + List.length [Piece.mk sq (↑(List.length (mixK sq s (Int.toNat z) k (0 : Nat) (0 : Int))) : Int) (0 : Int) (ByteArray.extract (ByteArray.extract s (k * Int.toNat z) (ByteArray.size s)) (0 : Nat) (Int.toNat (if (↑(ByteArray.size (ByteArray.extract s (k * Int.toNat z) (ByteArray.size s))) : Int) < z then (↑(ByteArray.size (ByteArray.extract s (k * Int.toNat z) (ByteArray.size s))) : Int) else z)))] ≤ (1000000 : Nat) ∧ (false = true → True ∧ (Value.int IntKind.i64 (0 : Int) = Value.int IntKind.i64 (0 : Int) ∧ mixK sq s (Int.toNat z) k (0 : Nat) (0 : Int) ++ [Piece.mk sq (↑(List.length (mixK sq s (Int.toNat z) k (0 : Nat) (0 : Int))) : Int) (0 : Int) (ByteArray.extract (ByteArray.extract s (k * Int.toNat z) (ByteArray.size s)) (0 : Nat) (Int.toNat (if (↑(ByteArray.size (ByteArray.extract s (k * Int.toNat z) (ByteArray.size s))) : Int) < z then (↑(ByteArray.size (ByteArray.extract s (k * Int.toNat z) (ByteArray.size s))) : Int) else z)))] = mixK sq s (Int.toNat z) (ofN s (Int.toNat z)) (0 : Nat) (↑(ofN s (Int.toNat z)) : Int)) ∧ ∀ (k_1 : Nat), k_1 ≤ ofN s (Int.toNat z) → True → (decide ((↑k_1 : Int) < (↑(List.length (mixK sq s (Int.toNat z) k (0 : Nat) (0 : Int) ++ [Piece.mk sq (↑(List.length (mixK sq s (Int.toNat z) k (0 : Nat) (0 : Int))) : Int) (0 : Int) (ByteArray.extract (ByteArray.extract s (k * Int.toNat z) (ByteArray.size s)) (0 : Nat) (Int.toNat (if (↑(ByteArray.size (ByteArray.extract s (k * Int.toNat z) (ByteArray.size s))) : Int) < z then (↑(ByteArray.size (ByteArray.extract s (k * Int.toNat z) (ByteArray.size s))) : Int) else z)))])) : Int)) = true → ((0 : Int) ≤ (↑k_1 : Int) ∧ (↑k_1 : Int) < (↑(List.length (mixK sq s (Int.toNat z) (ofN s (Int.toNat z)) k_1 (↑(ofN s (Int.toNat z)) : Int))) : Int)) ∧ k_1 < ofN s (Int.toNat z) ∧ True ∧ Value.int IntKind.i64 (wrap64 ((↑k_1 : Int) + (1 : Int))) = Value.int IntKind.i64 (↑(k_1 + (1 : Nat)) : Int) ∧ List.set (mixK sq s (Int.toNat z) (ofN s (Int.toNat z)) k_1 (↑(ofN s (Int.toNat z)) : Int)) (Int.toNat (↑k_1 : Int)) (Piece.mk (Piece.seq (List.getD (mixK sq s (Int.toNat z) (ofN s (Int.toNat z)) k_1 (↑(ofN s (Int.toNat z)) : Int)) (Int.toNat (↑k_1 : Int)) (d_piece))) (Piece.at_ (List.getD (mixK sq s (Int.toNat z) (ofN s (Int.toNat z)) k_1 (↑(ofN s (Int.toNat z)) : Int)) (Int.toNat (↑k_1 : Int)) (d_piece))) (↑(List.length (mixK sq s (Int.toNat z) (ofN s (Int.toNat z)) k_1 (↑(ofN s (Int.toNat z)) : Int))) : Int) (Piece.bytes (List.getD (mixK sq s (Int.toNat z) (ofN s (Int.toNat z)) k_1 (↑(ofN s (Int.toNat z)) : Int)) (Int.toNat (↑k_1 : Int)) (d_piece)))) = mixK sq s (Int.toNat z) (ofN s (Int.toNat z)) (k_1 + (1 : Nat)) (↑(ofN s (Int.toNat z)) : Int)) ∧ (decide ((↑k_1 : Int) < (↑(List.length (mixK sq s (Int.toNat z) k (0 : Nat) (0 : Int) ++ [Piece.mk sq (↑(List.length (mixK sq s (Int.toNat z) k (0 : Nat) (0 : Int))) : Int) (0 : Int) (ByteArray.extract (ByteArray.extract s (k * Int.toNat z) (ByteArray.size s)) (0 : Nat) (Int.toNat (if (↑(ByteArray.size (ByteArray.extract s (k * Int.toNat z) (ByteArray.size s))) : Int) < z then (↑(ByteArray.size (ByteArray.extract s (k * Int.toNat z) (ByteArray.size s))) : Int) else z)))])) : Int)) = false → Out.tup (U := U) [D.mk false [CV.sl Kind.piece (mixK sq s (Int.toNat z) (ofN s (Int.toNat z)) k_1 (↑(ofN s (Int.toNat z)) : Int))], D.mk false [CV.v (Value.int IntKind.i64 (0 : Int))]] = Out.tup (U := U) [D.mk false [CV.sl Kind.piece (splitL sq s z)], D.mk false [CV.v (Value.int IntKind.i64 (er1 (splitB sq s z)))]])) ∧ (false = false → (((0 : Int) ≤ if (↑(ByteArray.size (ByteArray.extract s (k * Int.toNat z) (ByteArray.size s))) : Int) < z then (↑(ByteArray.size (ByteArray.extract s (k * Int.toNat z) (ByteArray.size s))) : Int) else z) ∧ (if (↑(ByteArray.size (ByteArray.extract s (k * Int.toNat z) (ByteArray.size s))) : Int) < z then (↑(ByteArray.size (ByteArray.extract s (k * Int.toNat z) (ByteArray.size s))) : Int) else z) ≤ (↑(ByteArray.size (ByteArray.extract s (k * Int.toNat z) (ByteArray.size s))) : Int)) ∧ k < ofN s (Int.toNat z) ∧ True ∧ Value.string (ByteArray.extract (ByteArray.extract s (k * Int.toNat z) (ByteArray.size s)) (Int.toNat (if (↑(ByteArray.size (ByteArray.extract s (k * Int.toNat z) (ByteArray.size s))) : Int) < z then (↑(ByteArray.size (ByteArray.extract s (k * Int.toNat z) (ByteArray.size s))) : Int) else z)) (ByteArray.size (ByteArray.extract s (k * Int.toNat z) (ByteArray.size s)))) = Value.string (ByteArray.extract s ((k + (1 : Nat)) * Int.toNat z) (ByteArray.size s)) ∧ mixK sq s (Int.toNat z) k (0 : Nat) (0 : Int) ++ [Piece.mk sq (↑(List.length (mixK sq s (Int.toNat z) k (0 : Nat) (0 : Int))) : Int) (0 : Int) (ByteArray.extract (ByteArray.extract s (k * Int.toNat z) (ByteArray.size s)) (0 : Nat) (Int.toNat (if (↑(ByteArray.size (ByteArray.extract s (k * Int.toNat z) (ByteArray.size s))) : Int) < z then (↑(ByteArray.size (ByteArray.extract s (k * Int.toNat z) (ByteArray.size s))) : Int) else z)))] = mixK sq s (Int.toNat z) (k + (1 : Nat)) (0 : Nat) (0 : Int))) ∧ (decide ((0 : Int) < (↑(ByteArray.size (ByteArray.extract s (k * Int.toNat z) (ByteArray.size s))) : Int)) = false → True ∧ (Value.int IntKind.i64 (0 : Int) = Value.int IntKind.i64 (0 : Int) ∧ mixK sq s (Int.toNat z) k (0 : Nat) (0 : Int) = mixK sq s (Int.toNat z) (ofN s (Int.toNat z)) (0 : Nat) (↑(ofN s (Int.toNat z)) : Int)) ∧ ∀ (k_1 : Nat), k_1 ≤ ofN s (Int.toNat z) → True → (decide ((↑k_1 : Int) < (↑(List.length (mixK sq s (Int.toNat z) k (0 : Nat) (0 : Int))) : Int)) = true → ((0 : Int) ≤ (↑k_1 : Int) ∧ (↑k_1 : Int) < (↑(List.length (mixK sq s (Int.toNat z) (ofN s (Int.toNat z)) k_1 (↑(ofN s (Int.toNat z)) : Int))) : Int)) ∧ k_1 < ofN s (Int.toNat z) ∧ True ∧ Value.int IntKind.i64 (wrap64 ((↑k_1 : Int) + (1 : Int))) = Value.int IntKind.i64 (↑(k_1 + (1 : Nat)) : Int) ∧ List.set (mixK sq s (Int.toNat z) (ofN s (Int.toNat z)) k_1 (↑(ofN s (Int.toNat z)) : Int)) (Int.toNat (↑k_1 : Int)) (Piece.mk (Piece.seq (List.getD (mixK sq s (Int.toNat z) (ofN s (Int.toNat z)) k_1 (↑(ofN s (Int.toNat z)) : Int)) (Int.toNat (↑k_1 : Int)) (d_piece))) (Piece.at_ (List.getD (mixK sq s (Int.toNat z) (ofN s (Int.toNat z)) k_1 (↑(ofN s (Int.toNat z)) : Int)) (Int.toNat (↑k_1 : Int)) (d_piece))) (↑(List.length (mixK sq s (Int.toNat z) (ofN s (Int.toNat z)) k_1 (↑(ofN s (Int.toNat z)) : Int))) : Int) (Piece.bytes (List.getD (mixK sq s (Int.toNat z) (ofN s (Int.toNat z)) k_1 (↑(ofN s (Int.toNat z)) : Int)) (Int.toNat (↑k_1 : Int)) (d_piece)))) = mixK sq s (Int.toNat z) (ofN s (Int.toNat z)) (k_1 + (1 : Nat)) (↑(ofN s (Int.toNat z)) : Int)) ∧ (decide ((↑k_1 : Int) < (↑(List.length (mixK sq s (Int.toNat z) k (0 : Nat) (0 : Int))) : Int)) = false → Out.tup (U := U) [D.mk false [CV.sl Kind.piece (mixK sq s (Int.toNat z) (ofN s (Int.toNat z)) k_1 (↑(ofN s (Int.toNat z)) : Int))], D.mk false [CV.v (Value.int IntKind.i64 (0 : Int))]] = Out.tup (U := U) [D.mk false [CV.sl Kind.piece (splitL sq s z)], D.mk false [CV.v (Value.int IntKind.i64 (er1 (splitB sq s z)))]]))), by kernel_rfl, ?_⟩
      have key : splitB sq s z = !(!btw sq 1 65535 || !btw (s.size : Int) 1 20 || !btw z 1 16) := by
        unfold splitB
        simp only [Bool.not_or, Bool.not_not]
      refine ⟨fun h => ?_, fun h => ?_⟩
      · rw [h] at key
        unfold splitL er1
        rw [key]; rfl
      · rw [h] at key
        have hb := key
        unfold splitB at hb
        simp only [Bool.and_eq_true, btw_iff, Bool.not_false] at hb
        obtain ⟨⟨_, hs⟩, hz⟩ := hb
        obtain ⟨n, rfl⟩ := Int.eq_ofNat_of_zero_le (show 0 ≤ z by omega)
        have hL : splitL sq s (n : Int) = mixK sq s n (ofN s n) (ofN s n) (ofN s n : Int) := by unfold splitL; rw [key]; rfl
        have he : er1 (splitB sq s (n : Int)) = 0 := by unfold er1; rw [key]; rfl
        rw [hL, he, Int.toNat_natCast]
        simp only [minI, size5, mixK_length, List.length_append, List.length_cons, List.length_nil]
        have hN : ofN s n ≤ s.size := by
          have h1 := (ofN_lt (s := s) (z := n) (by omega) s.size).mp
          have h2 : s.size * 1 ≤ s.size * n := Nat.mul_le_mul_left _ (by omega)
          rcases Nat.lt_or_ge s.size (ofN s n) with q | q
          · have := h1 q; omega
          · exact q
        refine ⟨trivial, ⟨by rw [Nat.zero_mul, ByteArray.extract_zero_size], rfl⟩, fun k hk _ => ⟨fun hlt => ?_, fun hge => ?_⟩⟩
        · have hlt := of_decide_eq_true hlt
          have hkn : k * n < s.size := by omega
          have hk2 := (ofN_lt (s := s) (z := n) (by omega) k).mpr hkn
          have et : (min ((s.size - k * n : Nat) : Int) (n : Int)).toNat = min (s.size - k * n) n := by omega
          rw [et, head5 s n k _ (by omega)]
          refine ⟨by omega, by omega, fun c => (by cases c), fun _ => ⟨by omega, hk2, trivial, ?_, ?_⟩⟩
          · have e2 : (s.extract (k * n) s.size).extract (min (s.size - k * n) n) (s.size - k * n) = s.extract (k * n + min (s.size - k * n) n) s.size := by
              rw [← tail5, size5]
            rw [e2, Nat.succ_mul]
            by_cases c : n ≤ s.size - k * n
            · rw [Nat.min_eq_right c]
            · rw [emp5 s _ (by omega), emp5 s _ (by omega)]
          · rw [mixK_succ, if_neg (Nat.not_lt_zero _)]
        · have hge := of_decide_eq_false hge
          have hkN : k = ofN s n := by
            have h1 := (ofN_lt (s := s) (z := n) (by omega) k).mp
            rcases Nat.lt_or_ge k (ofN s n) with q | q
            · have := h1 q; omega
            · omega
          subst hkN
          refine ⟨trivial, ⟨trivial, mixK_zero _ _ _ _ _ _⟩, fun j hj _ => ⟨fun hlt => ?_, fun hge => ?_⟩⟩
          · have hlt : j < ofN s n := by have := of_decide_eq_true hlt; omega
            have hjl : j < (mixK sq s n (ofN s n) j (ofN s n : Int)).length := by rw [mixK_length]; exact hlt
            rw [getD_at _ j _ hjl, mixK_get, Int.toNat_natCast, mixK_set _ _ _ _ _ _ hlt]
            refine ⟨by omega, hlt, trivial, ?_, rfl⟩
            rw [w64 (by omega)]; rfl
          · have hge := of_decide_eq_false hge
            have hjN : j = ofN s n := by omega
            subst hjN
            rfl
    · cases hg

end Go.Proofs.Ytelpblhhpdonkaa.X
