/- How an entry's bytes are read. -/
import Derived.Test.YtdpoimomipdgjaaDoorREnt
import Derived.Test.YtdpoimomipdgjaaDoorRMdec
import Derived.Test.YtdpoimomipdgjaaDoorRDec06
namespace Go.Proofs.YtdpoimomipdgjaaDoor.X
open Go Go.RX Go.RowKit Go.Proofs
set_option linter.unusedVariables false
set_option linter.unusedSimpArgs false
/-- A cursor's next byte. -/
def byE (s : ByteArray) (e : Int) : Int := if e = 0 then (if s = .empty then 3 else 0) else e
def byV (s : ByteArray) (e : Int) : Int := if byE s e = 0 then bt s 0 else 0
def byR (s : ByteArray) (e : Int) : ByteArray := if byE s e = 0 then s.extract 1 s.size else s
def nuR (s : ByteArray) (e : Int) : ByteArray := byR (byR s e) (byE s e)
def nuE (s : ByteArray) (e : Int) : Int := byE (byR s e) (byE s e)
def nuV (s : ByteArray) (e : Int) : Int := 256 * byV s e + byV (byR s e) (byE s e)
def meE (s : ByteArray) (e : Int) : Int := if e = 0 then decE s else e
def meR (s : ByteArray) (e : Int) : ByteArray := if e = 0 then decR s else s
def meM (s : ByteArray) (e : Int) : Msg := if e = 0 then decM s else d_msg
def faE (e f : Int) : Int := if e = 0 then f else e
def byCut : Cut := ⟨[(0, 0), (0, 1)], fun vs => match vs with
  | [.string s, .int _ e] => ([(0, 0, .string (byR s e)), (0, 1, .int .i64 (byE s e))], [(false, [.int .i64 (byV s e)])])
  | _ => ([], [])⟩
def nuCut : Cut := ⟨[(0, 0), (0, 1)], fun vs => match vs with
  | [.string s, .int _ e] => ([(0, 0, .string (nuR s e)), (0, 1, .int .i64 (nuE s e))], [(false, [.int .i64 (nuV s e)])])
  | _ => ([], [])⟩
def faCut : Cut := ⟨[(0, 1), (1, 0)], fun vs => match vs with
  | [.int _ e, .int _ f] => ([(0, 1, .int .i64 (faE e f))], [])
  | _ => ([], [])⟩
def meCut : Cut := ⟨[(0, 0), (0, 1)], fun vs => match vs with
  | [.string s, .int _ e] => ([(0, 0, .string (meR s e)), (0, 1, .int .i64 (meE s e))], [(true, [.bool (meM s e).ext, .int .i64 (meM s e).id, .int .i64 (meM s e).sender, .int .i64 (meM s e).inc, .int .i64 (meM s e).seq, .int .i64 (meM s e).number, .string (meM s e).data])])
  | _ => ([], [])⟩
/-- The reader behind j numbers. -/
def rdP (s : ByteArray) : Nat → ByteArray × Int
  | 0 => (s, 0)
  | j + 1 => (nuR (rdP s j).1 (rdP s j).2, nuE (rdP s j).1 (rdP s j).2)
def rdV (s : ByteArray) (j : Nat) : Int := nuV (rdP s j).1 (rdP s j).2
def rdN (s : ByteArray) : Nat := (vl (rdV s 2) 16).length
def rdI (s : ByteArray) (k : Nat) : List Int := (List.range k).map fun i => rdV s (3 + i)
def rdM (s : ByteArray) : Int := byV (rdP s (3 + rdN s)).1 (rdP s (3 + rdN s)).2
/-- .. and i messages. -/
def rmP (b : ByteArray) (e : Int) : Nat → ByteArray × Int
  | 0 => (b, e)
  | i + 1 => (meR (rmP b e i).1 (rmP b e i).2, meE (rmP b e i).1 (rmP b e i).2)
def rmL (b : ByteArray) (e : Int) (k : Nat) : List Msg := (List.range k).map fun i => meM (rmP b e i).1 (rmP b e i).2
def rd1 (s : ByteArray) : ByteArray := byR (rdP s (3 + rdN s)).1 (rdP s (3 + rdN s)).2
def rdE1 (s : ByteArray) : Int := byE (rdP s (3 + rdN s)).1 (rdP s (3 + rdN s)).2
def rdE2 (s : ByteArray) : Int := if 16 < rdM s then faE (rdE1 s) 2 else rdE1 s
theorem emp_iff (r : ByteArray) : (r == ByteArray.mk (Array.mk [])) = decide (r = .empty) := ba_beq r _
theorem pos_size {r : ByteArray} (h : r ≠ .empty) : 0 < r.size := by
  rcases Nat.eq_zero_or_pos r.size with q | q
  · exact absurd (ByteArray.ext (Array.eq_empty_of_size_eq_zero q)) h
  · exact q
theorem by_vc (r : ByteArray) (e : Int) : (((r == ByteArray.mk (Array.mk [])) = true → (((e == (0 : Int)) = true → Value.int IntKind.i64 (3 : Int) = Value.int IntKind.i64 (faE e (3 : Int))) ∧ ((e == (0 : Int)) = false → Value.int IntKind.i64 e = Value.int IntKind.i64 (faE e (3 : Int)))) ∧ ((faE e (3 : Int) != (0 : Int)) = true → Value.int IntKind.i64 (0 : Int) = Value.int IntKind.i64 (byV r e) ∧ Value.string r = Value.string (byR r e) ∧ Value.int IntKind.i64 (faE e (3 : Int)) = Value.int IntKind.i64 (byE r e)) ∧ ((faE e (3 : Int) != (0 : Int)) = false → ((0 : Int) ≤ (0 : Int) ∧ (0 : Int) < (↑(ByteArray.size r) : Int)) ∧ ((0 : Int) ≤ (1 : Int) ∧ (1 : Int) ≤ (↑(ByteArray.size r) : Int)) ∧ Value.int IntKind.i64 (IntKind.wrap IntKind.i64 (bt r (0 : Int))) = Value.int IntKind.i64 (byV r e) ∧ Value.string (ByteArray.extract r (1 : Nat) (ByteArray.size r)) = Value.string (byR r e) ∧ Value.int IntKind.i64 (faE e (3 : Int)) = Value.int IntKind.i64 (byE r e))) ∧ ((r == ByteArray.mk (Array.mk [])) = false → ((e != (0 : Int)) = true → Value.int IntKind.i64 (0 : Int) = Value.int IntKind.i64 (byV r e) ∧ Value.string r = Value.string (byR r e) ∧ Value.int IntKind.i64 e = Value.int IntKind.i64 (byE r e)) ∧ ((e != (0 : Int)) = false → ((0 : Int) ≤ (0 : Int) ∧ (0 : Int) < (↑(ByteArray.size r) : Int)) ∧ ((0 : Int) ≤ (1 : Int) ∧ (1 : Int) ≤ (↑(ByteArray.size r) : Int)) ∧ Value.int IntKind.i64 (IntKind.wrap IntKind.i64 (bt r (0 : Int))) = Value.int IntKind.i64 (byV r e) ∧ Value.string (ByteArray.extract r (1 : Nat) (ByteArray.size r)) = Value.string (byR r e) ∧ Value.int IntKind.i64 e = Value.int IntKind.i64 (byE r e)))) := by
  have rr := bt_range r 0
  have wr : IntKind.wrap IntKind.i64 (bt r (0 : Int)) = bt r 0 := by rw [wr64]; exact w64 (by omega)
  simp only [emp_iff, wr]
  by_cases hr : r = .empty
  · subst hr
    refine ⟨fun _ => ⟨⟨fun h => ?_, fun h => ?_⟩, fun h => ?_, fun h => ?_⟩, fun h => ?_⟩
    · have h : e = 0 := by simpa using h
      subst h; rfl
    · have h : e ≠ 0 := by simpa using h
      simp [faE, h]
    · by_cases he : e = 0
      · subst he; exact ⟨rfl, rfl, rfl⟩
      · simp [byE, byV, byR, faE, he]
    · exfalso
      by_cases he : e = 0
      · subst he; revert h; decide
      · revert h; simp [faE, he]
    · exfalso; revert h; simp
  · have hp := pos_size hr
    refine ⟨fun h => absurd (of_decide_eq_true h) hr, fun _ => ⟨fun h => ?_, fun h => ?_⟩⟩
    · have h : e ≠ 0 := by simpa using h
      simp [byE, byV, byR, h]
    · have h : e = 0 := by simpa using h
      subst h
      have hE : byE r 0 = 0 := by simp [byE, hr]
      refine ⟨by omega, by omega, ?_, ?_, ?_⟩
      · rw [show byV r 0 = bt r 0 from if_pos hE]
      · rw [show byR r 0 = r.extract 1 r.size from if_pos hE]
      · rw [hE]
theorem byV_range (r : ByteArray) (e : Int) : 0 ≤ byV r e ∧ byV r e < 256 := by
  have rr := bt_range r 0
  unfold byV
  split <;> omega
theorem nu_vc (r : ByteArray) (e : Int) : ((((r == ByteArray.mk (Array.mk [])) = true → (((e == (0 : Int)) = true → Value.int IntKind.i64 (3 : Int) = Value.int IntKind.i64 (faE e (3 : Int))) ∧ ((e == (0 : Int)) = false → Value.int IntKind.i64 e = Value.int IntKind.i64 (faE e (3 : Int)))) ∧ ((faE e (3 : Int) != (0 : Int)) = true → Value.int IntKind.i64 (0 : Int) = Value.int IntKind.i64 (byV r e) ∧ Value.string r = Value.string (byR r e) ∧ Value.int IntKind.i64 (faE e (3 : Int)) = Value.int IntKind.i64 (byE r e)) ∧ ((faE e (3 : Int) != (0 : Int)) = false → ((0 : Int) ≤ (0 : Int) ∧ (0 : Int) < (↑(ByteArray.size r) : Int)) ∧ ((0 : Int) ≤ (1 : Int) ∧ (1 : Int) ≤ (↑(ByteArray.size r) : Int)) ∧ Value.int IntKind.i64 (IntKind.wrap IntKind.i64 (bt r (0 : Int))) = Value.int IntKind.i64 (byV r e) ∧ Value.string (ByteArray.extract r (1 : Nat) (ByteArray.size r)) = Value.string (byR r e) ∧ Value.int IntKind.i64 (faE e (3 : Int)) = Value.int IntKind.i64 (byE r e))) ∧ ((r == ByteArray.mk (Array.mk [])) = false → ((e != (0 : Int)) = true → Value.int IntKind.i64 (0 : Int) = Value.int IntKind.i64 (byV r e) ∧ Value.string r = Value.string (byR r e) ∧ Value.int IntKind.i64 e = Value.int IntKind.i64 (byE r e)) ∧ ((e != (0 : Int)) = false → ((0 : Int) ≤ (0 : Int) ∧ (0 : Int) < (↑(ByteArray.size r) : Int)) ∧ ((0 : Int) ≤ (1 : Int) ∧ (1 : Int) ≤ (↑(ByteArray.size r) : Int)) ∧ Value.int IntKind.i64 (IntKind.wrap IntKind.i64 (bt r (0 : Int))) = Value.int IntKind.i64 (byV r e) ∧ Value.string (ByteArray.extract r (1 : Nat) (ByteArray.size r)) = Value.string (byR r e) ∧ Value.int IntKind.i64 e = Value.int IntKind.i64 (byE r e)))) ∧ (0 : Int) ≤ (8 : Int) ∧ (((byR r e == ByteArray.mk (Array.mk [])) = true → (((byE r e == (0 : Int)) = true → Value.int IntKind.i64 (3 : Int) = Value.int IntKind.i64 (faE (byE r e) (3 : Int))) ∧ ((byE r e == (0 : Int)) = false → Value.int IntKind.i64 (byE r e) = Value.int IntKind.i64 (faE (byE r e) (3 : Int)))) ∧ ((faE (byE r e) (3 : Int) != (0 : Int)) = true → Value.int IntKind.i64 (0 : Int) = Value.int IntKind.i64 (byV (byR r e) (byE r e)) ∧ Value.string (byR r e) = Value.string (byR (byR r e) (byE r e)) ∧ Value.int IntKind.i64 (faE (byE r e) (3 : Int)) = Value.int IntKind.i64 (byE (byR r e) (byE r e))) ∧ ((faE (byE r e) (3 : Int) != (0 : Int)) = false → ((0 : Int) ≤ (0 : Int) ∧ (0 : Int) < (↑(ByteArray.size (byR r e)) : Int)) ∧ ((0 : Int) ≤ (1 : Int) ∧ (1 : Int) ≤ (↑(ByteArray.size (byR r e)) : Int)) ∧ Value.int IntKind.i64 (IntKind.wrap IntKind.i64 (bt (byR r e) (0 : Int))) = Value.int IntKind.i64 (byV (byR r e) (byE r e)) ∧ Value.string (ByteArray.extract (byR r e) (1 : Nat) (ByteArray.size (byR r e))) = Value.string (byR (byR r e) (byE r e)) ∧ Value.int IntKind.i64 (faE (byE r e) (3 : Int)) = Value.int IntKind.i64 (byE (byR r e) (byE r e)))) ∧ ((byR r e == ByteArray.mk (Array.mk [])) = false → ((byE r e != (0 : Int)) = true → Value.int IntKind.i64 (0 : Int) = Value.int IntKind.i64 (byV (byR r e) (byE r e)) ∧ Value.string (byR r e) = Value.string (byR (byR r e) (byE r e)) ∧ Value.int IntKind.i64 (byE r e) = Value.int IntKind.i64 (byE (byR r e) (byE r e))) ∧ ((byE r e != (0 : Int)) = false → ((0 : Int) ≤ (0 : Int) ∧ (0 : Int) < (↑(ByteArray.size (byR r e)) : Int)) ∧ ((0 : Int) ≤ (1 : Int) ∧ (1 : Int) ≤ (↑(ByteArray.size (byR r e)) : Int)) ∧ Value.int IntKind.i64 (IntKind.wrap IntKind.i64 (bt (byR r e) (0 : Int))) = Value.int IntKind.i64 (byV (byR r e) (byE r e)) ∧ Value.string (ByteArray.extract (byR r e) (1 : Nat) (ByteArray.size (byR r e))) = Value.string (byR (byR r e) (byE r e)) ∧ Value.int IntKind.i64 (byE r e) = Value.int IntKind.i64 (byE (byR r e) (byE r e))))) ∧ Value.int IntKind.i64 (bits BinOp.or IntKind.i64 (IntKind.wrap IntKind.i64 (byV r e * (256 : Int))) (byV (byR r e) (byE r e))) = Value.int IntKind.i64 (nuV r e) ∧ Value.string (byR (byR r e) (byE r e)) = Value.string (nuR r e) ∧ Value.int IntKind.i64 (byE (byR r e) (byE r e)) = Value.int IntKind.i64 (nuE r e)) := by
  refine ⟨by_vc r e, by decide, by_vc (byR r e) (byE r e), ?_, rfl, rfl⟩
  have h1 := byV_range r e
  have h2 := byV_range (byR r e) (byE r e)
  have wr : IntKind.wrap IntKind.i64 (byV r e * (256 : Int)) = byV r e * 256 := by rw [wr64]; exact w64 (by omega)
  rw [wr]
  unfold nuV
  revert h1 h2
  generalize byV r e = a
  generalize byV (byR r e) (byE r e) = b
  intro h1 h2
  obtain ⟨x, rfl⟩ := Int.eq_ofNat_of_zero_le h1.1
  obtain ⟨y, rfl⟩ := Int.eq_ofNat_of_zero_le h2.1
  have := or_byte x y (by omega) (by omega)
  exact congrArg _ this
theorem nu_vc0 (s : ByteArray) : ((((s == ByteArray.mk (Array.mk [])) = true → ((true = true → Value.int IntKind.i64 (3 : Int) = Value.int IntKind.i64 (3 : Int)) ∧ (true = false → Value.int IntKind.i64 (0 : Int) = Value.int IntKind.i64 (3 : Int))) ∧ (true = true → Value.int IntKind.i64 (0 : Int) = Value.int IntKind.i64 (byV s (0 : Int)) ∧ Value.string s = Value.string (byR s (0 : Int)) ∧ Value.int IntKind.i64 (3 : Int) = Value.int IntKind.i64 (byE s (0 : Int))) ∧ (true = false → ((0 : Int) ≤ (0 : Int) ∧ (0 : Int) < (↑(ByteArray.size s) : Int)) ∧ ((0 : Int) ≤ (1 : Int) ∧ (1 : Int) ≤ (↑(ByteArray.size s) : Int)) ∧ Value.int IntKind.i64 (IntKind.wrap IntKind.i64 (bt s (0 : Int))) = Value.int IntKind.i64 (byV s (0 : Int)) ∧ Value.string (ByteArray.extract s (1 : Nat) (ByteArray.size s)) = Value.string (byR s (0 : Int)) ∧ Value.int IntKind.i64 (3 : Int) = Value.int IntKind.i64 (byE s (0 : Int)))) ∧ ((s == ByteArray.mk (Array.mk [])) = false → (false = true → Value.int IntKind.i64 (0 : Int) = Value.int IntKind.i64 (byV s (0 : Int)) ∧ Value.string s = Value.string (byR s (0 : Int)) ∧ Value.int IntKind.i64 (0 : Int) = Value.int IntKind.i64 (byE s (0 : Int))) ∧ (false = false → ((0 : Int) ≤ (0 : Int) ∧ (0 : Int) < (↑(ByteArray.size s) : Int)) ∧ ((0 : Int) ≤ (1 : Int) ∧ (1 : Int) ≤ (↑(ByteArray.size s) : Int)) ∧ Value.int IntKind.i64 (IntKind.wrap IntKind.i64 (bt s (0 : Int))) = Value.int IntKind.i64 (byV s (0 : Int)) ∧ Value.string (ByteArray.extract s (1 : Nat) (ByteArray.size s)) = Value.string (byR s (0 : Int)) ∧ Value.int IntKind.i64 (0 : Int) = Value.int IntKind.i64 (byE s (0 : Int))))) ∧ (0 : Int) ≤ (8 : Int) ∧ (((byR s (0 : Int) == ByteArray.mk (Array.mk [])) = true → (((byE s (0 : Int) == (0 : Int)) = true → Value.int IntKind.i64 (3 : Int) = Value.int IntKind.i64 (faE (byE s (0 : Int)) (3 : Int))) ∧ ((byE s (0 : Int) == (0 : Int)) = false → Value.int IntKind.i64 (byE s (0 : Int)) = Value.int IntKind.i64 (faE (byE s (0 : Int)) (3 : Int)))) ∧ ((faE (byE s (0 : Int)) (3 : Int) != (0 : Int)) = true → Value.int IntKind.i64 (0 : Int) = Value.int IntKind.i64 (byV (byR s (0 : Int)) (byE s (0 : Int))) ∧ Value.string (byR s (0 : Int)) = Value.string (byR (byR s (0 : Int)) (byE s (0 : Int))) ∧ Value.int IntKind.i64 (faE (byE s (0 : Int)) (3 : Int)) = Value.int IntKind.i64 (byE (byR s (0 : Int)) (byE s (0 : Int)))) ∧ ((faE (byE s (0 : Int)) (3 : Int) != (0 : Int)) = false → ((0 : Int) ≤ (0 : Int) ∧ (0 : Int) < (↑(ByteArray.size (byR s (0 : Int))) : Int)) ∧ ((0 : Int) ≤ (1 : Int) ∧ (1 : Int) ≤ (↑(ByteArray.size (byR s (0 : Int))) : Int)) ∧ Value.int IntKind.i64 (IntKind.wrap IntKind.i64 (bt (byR s (0 : Int)) (0 : Int))) = Value.int IntKind.i64 (byV (byR s (0 : Int)) (byE s (0 : Int))) ∧ Value.string (ByteArray.extract (byR s (0 : Int)) (1 : Nat) (ByteArray.size (byR s (0 : Int)))) = Value.string (byR (byR s (0 : Int)) (byE s (0 : Int))) ∧ Value.int IntKind.i64 (faE (byE s (0 : Int)) (3 : Int)) = Value.int IntKind.i64 (byE (byR s (0 : Int)) (byE s (0 : Int))))) ∧ ((byR s (0 : Int) == ByteArray.mk (Array.mk [])) = false → ((byE s (0 : Int) != (0 : Int)) = true → Value.int IntKind.i64 (0 : Int) = Value.int IntKind.i64 (byV (byR s (0 : Int)) (byE s (0 : Int))) ∧ Value.string (byR s (0 : Int)) = Value.string (byR (byR s (0 : Int)) (byE s (0 : Int))) ∧ Value.int IntKind.i64 (byE s (0 : Int)) = Value.int IntKind.i64 (byE (byR s (0 : Int)) (byE s (0 : Int)))) ∧ ((byE s (0 : Int) != (0 : Int)) = false → ((0 : Int) ≤ (0 : Int) ∧ (0 : Int) < (↑(ByteArray.size (byR s (0 : Int))) : Int)) ∧ ((0 : Int) ≤ (1 : Int) ∧ (1 : Int) ≤ (↑(ByteArray.size (byR s (0 : Int))) : Int)) ∧ Value.int IntKind.i64 (IntKind.wrap IntKind.i64 (bt (byR s (0 : Int)) (0 : Int))) = Value.int IntKind.i64 (byV (byR s (0 : Int)) (byE s (0 : Int))) ∧ Value.string (ByteArray.extract (byR s (0 : Int)) (1 : Nat) (ByteArray.size (byR s (0 : Int)))) = Value.string (byR (byR s (0 : Int)) (byE s (0 : Int))) ∧ Value.int IntKind.i64 (byE s (0 : Int)) = Value.int IntKind.i64 (byE (byR s (0 : Int)) (byE s (0 : Int)))))) ∧ Value.int IntKind.i64 (bits BinOp.or IntKind.i64 (IntKind.wrap IntKind.i64 (byV s (0 : Int) * (256 : Int))) (byV (byR s (0 : Int)) (byE s (0 : Int)))) = Value.int IntKind.i64 (nuV s (0 : Int)) ∧ Value.string (byR (byR s (0 : Int)) (byE s (0 : Int))) = Value.string (nuR s (0 : Int)) ∧ Value.int IntKind.i64 (byE (byR s (0 : Int)) (byE s (0 : Int))) = Value.int IntKind.i64 (nuE s (0 : Int))) := by
  obtain ⟨h1, h2⟩ := by_vc s 0
  refine ⟨⟨fun h => ⟨⟨fun _ => rfl, fun c => (by cases c)⟩, fun _ => (h1 h).2.1 rfl, fun c => (by cases c)⟩, fun h => ⟨fun c => (by cases c), fun _ => (h2 h).2 rfl⟩⟩, by decide, by_vc _ _, (nu_vc s 0).2.2.2⟩
/-! ### What is read -/
theorem size_ext (s : ByteArray) (a : Nat) : (s.extract a s.size).size = s.size - a := by rw [ByteArray.size_extract]; omega
theorem ext_emp (s : ByteArray) (a : Nat) (h : s.size ≤ a) : s.extract a s.size = .empty := by
  apply ByteArray.ext
  apply Array.eq_empty_of_size_eq_zero
  have := size_ext s a
  show (s.extract a s.size).size = 0
  omega
theorem by_ok (s : ByteArray) (a : Nat) (h : a < s.size) : byE (s.extract a s.size) 0 = 0 ∧ byR (s.extract a s.size) 0 = s.extract (a + 1) s.size ∧ byV (s.extract a s.size) 0 = bt s (a : Int) := by
  have hne : s.extract a s.size ≠ .empty := fun c => by
    have := size_ext s a
    rw [c] at this
    have h0 : ByteArray.empty.size = 0 := rfl
    omega
  have hE : byE (s.extract a s.size) 0 = 0 := by unfold byE; rw [if_pos rfl, if_neg hne]
  refine ⟨hE, ?_, ?_⟩
  · rw [show byR (s.extract a s.size) 0 = _ from if_pos hE]; exact ext_tail s a 1
  · rw [show byV (s.extract a s.size) 0 = _ from if_pos hE]
    have := bt_ext s a s.size 0 (by omega) (Nat.le_refl _)
    rw [show (0 : Int) = ((0 : Nat) : Int) from rfl, this]; rfl
theorem by_short (s : ByteArray) (a : Nat) (h : s.size ≤ a) : byE (s.extract a s.size) 0 = 3 := by
  rw [ext_emp s a h]; rfl
theorem by_bad (r : ByteArray) (e : Int) (h : e ≠ 0) : byE r e = e ∧ byR r e = r ∧ byV r e = 0 := by
  have hE : byE r e = e := if_neg h
  exact ⟨hE, if_neg (by rw [hE]; exact h), if_neg (by rw [hE]; exact h)⟩
theorem nu_ok (s : ByteArray) (a : Nat) (h : a + 1 < s.size) : nuE (s.extract a s.size) 0 = 0 ∧ nuR (s.extract a s.size) 0 = s.extract (a + 2) s.size ∧ nuV (s.extract a s.size) 0 = toldI s (a : Int) := by
  obtain ⟨h1, h2, h3⟩ := by_ok s a (by omega)
  obtain ⟨g1, g2, g3⟩ := by_ok s (a + 1) (by omega)
  unfold nuE nuR nuV
  rw [h1, h2, h3]
  refine ⟨g1, g2, ?_⟩
  rw [g3]; rfl
theorem nu_short (s : ByteArray) (a : Nat) (h : s.size ≤ a + 1) : nuE (s.extract a s.size) 0 = 3 := by
  unfold nuE
  by_cases c : a < s.size
  · obtain ⟨h1, h2, h3⟩ := by_ok s a c
    rw [h1, h2]; exact by_short s (a + 1) h
  · have h1 := by_short s a (by omega)
    rw [h1]; rfl
theorem nu_bad (r : ByteArray) (e : Int) (h : e ≠ 0) : nuE r e = e := by
  obtain ⟨h1, h2, h3⟩ := by_bad r e h
  unfold nuE
  rw [h1, h2]; exact h1
theorem rdP_ok (s : ByteArray) : ∀ j : Nat, 2 * j ≤ s.size → rdP s j = (s.extract (2 * j) s.size, 0)
  | 0, _ => by
    unfold rdP
    rw [show 2 * 0 = 0 from rfl, ByteArray.extract_zero_size]
  | j + 1, h => by
    obtain ⟨h1, h2, h3⟩ := nu_ok s (2 * j) (by omega)
    rw [rdP, rdP_ok s j (by omega), h1, h2]
    rfl
theorem rdP_short (s : ByteArray) : ∀ j : Nat, s.size < 2 * j → (rdP s j).2 = 3
  | 0, h => by omega
  | j + 1, h => by
    rw [rdP]
    by_cases c : 2 * j ≤ s.size
    · rw [rdP_ok s j c]; exact nu_short s (2 * j) (by omega)
    · have := rdP_short s j (by omega)
      show nuE (rdP s j).1 (rdP s j).2 = 3
      rw [this]; exact nu_bad _ 3 (by decide)
theorem rdV_ok (s : ByteArray) (j : Nat) (h : 2 * j + 1 < s.size) : rdV s j = toldI s ((2 * j : Nat) : Int) := by
  unfold rdV
  rw [rdP_ok s j (by omega)]
  exact (nu_ok s (2 * j) h).2.2
theorem firstN_app (l : List Int) (x : Int) : firstN (l ++ [x]) = if firstN l = 0 then x else firstN l := by
  induction l with
  | nil => simp only [List.nil_append, firstN, if_true]; split <;> first | (rename_i c; exact c.symm) | rfl
  | cons y l ih =>
    by_cases c : y = 0
    · have e1 : firstN (y :: l) = firstN l := if_pos c
      have e2 : firstN ((y :: l) ++ [x]) = firstN (l ++ [x]) := if_pos c
      rw [e1, e2]; exact ih
    · have e1 : firstN (y :: l) = y := if_neg c
      have e2 : firstN ((y :: l) ++ [x]) = y := if_neg c
      rw [e1, e2, if_neg c]
theorem firstN_all {l : List Int} (h : firstN l = 0) : ∀ x ∈ l, x = 0 := by
  induction l with
  | nil => intro x hx; cases hx
  | cons y l ih =>
    simp only [firstN] at h
    split at h
    · rename_i c
      intro x hx
      rcases List.mem_cons.mp hx with rfl | hx
      · exact c
      · exact ih h x hx
    · rename_i c; exact absurd h c
theorem firstN_pre {l m : List Int} (h : firstN l ≠ 0) : firstN (l ++ m) = firstN l := by
  induction l with
  | nil => exact absurd rfl h
  | cons y l ih =>
    simp only [List.cons_append, firstN] at h ⊢
    split
    · rename_i c; rw [if_pos c] at h; exact ih h
    · rfl
def erK (s : ByteArray) (k : Nat) : Int := firstN ((List.range k).map fun j => decE (edSr s j))
theorem erK_succ (s : ByteArray) (k : Nat) : erK s (k + 1) = if erK s k = 0 then decE (edSr s k) else erK s k := by
  unfold erK
  rw [List.range_succ, List.map_append]
  exact firstN_app _ _
theorem erK_zero {s : ByteArray} {k : Nat} (h : erK s k = 0) : ∀ j, j < k → decE (edSr s j) = 0 := fun j hj =>
  firstN_all h _ (List.mem_map.mpr ⟨j, List.mem_range.mpr hj, rfl⟩)
theorem rmP_is (s : ByteArray) : ∀ k, (rmP (edSr s 0) 0 k).2 = erK s k ∧ (erK s k = 0 → (rmP (edSr s 0) 0 k).1 = edSr s k)
  | 0 => ⟨rfl, fun _ => rfl⟩
  | k + 1 => by
    obtain ⟨h1, h2⟩ := rmP_is s k
    rw [erK_succ]
    by_cases c : erK s k = 0
    · rw [if_pos c]
      have h2 := h2 c
      rw [c] at h1
      refine ⟨?_, fun _ => ?_⟩
      · show meE (rmP (edSr s 0) 0 k).1 (rmP (edSr s 0) 0 k).2 = _
        rw [h1, h2]; exact if_pos rfl
      · show meR (rmP (edSr s 0) 0 k).1 (rmP (edSr s 0) 0 k).2 = _
        rw [h1, h2]; exact if_pos rfl
    · rw [if_neg c]
      refine ⟨?_, fun c' => absurd c' c⟩
      show meE (rmP (edSr s 0) 0 k).1 (rmP (edSr s 0) 0 k).2 = _
      rw [h1]; exact if_neg c
theorem rmL_is (s : ByteArray) : ∀ k, erK s k = 0 → rmL (edSr s 0) 0 k = edSm s k
  | 0, _ => rfl
  | k + 1, h => by
    have h0 : erK s k = 0 := by
      rw [erK_succ] at h
      by_cases c : erK s k = 0
      · exact c
      · rw [if_neg c] at h; exact h
    have ih := rmL_is s k h0
    obtain ⟨h1, h2⟩ := rmP_is s k
    have e : rmL (edSr s 0) 0 (k + 1) = rmL (edSr s 0) 0 k ++ [meM (rmP (edSr s 0) 0 k).1 (rmP (edSr s 0) 0 k).2] := by
      unfold rmL
      rw [List.range_succ, List.map_append]; rfl
    rw [e, ih, h1, h0, h2 h0]
    show _ = edSm s k ++ [decM (edSr s k)]
    rw [show meM (edSr s k) 0 = decM (edSr s k) from if_pos rfl]
theorem rmP_sticky (b : ByteArray) (e : Int) (h : e ≠ 0) : ∀ k, (rmP b e k).2 = e
  | 0 => rfl
  | k + 1 => by
    show meE (rmP b e k).1 (rmP b e k).2 = e
    rw [rmP_sticky b e h k]; exact if_neg h
set_option maxHeartbeats 2000000 in
/-- What the program reads is what the document reads. -/
theorem ed_fin (s : ByteArray) (k : Nat) (hk : k ≤ (rdM s).toNat) (hend : (decide ((k : Int) < rdM s) && (rmP (rd1 s) (rdE2 s) k).2 == 0) = false) :
    edE s = (if entR (rdV s 0) (rdV s 1) (rdV s 2) (rdI s (rdN s)) (rmL (rd1 s) (rdE2 s) k) = true then (rmP (rd1 s) (rdE2 s) k).2 else faE (rmP (rd1 s) (rdE2 s) k).2 2) ∧
    (edE s = 0 → edT s 0 = rdV s 0 ∧ edT s 2 = rdV s 1 ∧ edT s 4 = rdV s 2 ∧ edI s = rdI s (rdN s) ∧ edL s = rmL (rd1 s) (rdE2 s) k ∧ edR s = (rmP (rd1 s) (rdE2 s) k).1) := by
  have three : rdE1 s = 3 → edE s = 3 → (edE s = (if entR (rdV s 0) (rdV s 1) (rdV s 2) (rdI s (rdN s)) (rmL (rd1 s) (rdE2 s) k) = true then (rmP (rd1 s) (rdE2 s) k).2 else faE (rmP (rd1 s) (rdE2 s) k).2 2) ∧ (edE s = 0 → edT s 0 = rdV s 0 ∧ edT s 2 = rdV s 1 ∧ edT s 4 = rdV s 2 ∧ edI s = rdI s (rdN s) ∧ edL s = rmL (rd1 s) (rdE2 s) k ∧ edR s = (rmP (rd1 s) (rdE2 s) k).1)) := fun h1 h2 => by
    have hE2 : rdE2 s = 3 := by unfold rdE2; rw [h1]; split <;> rfl
    have hst := rmP_sticky (rd1 s) (rdE2 s) (by rw [hE2]; decide) k
    rw [hst, hE2, h2]
    exact ⟨by split <;> rfl, fun c => absurd c (by decide)⟩
  by_cases c6 : s.size < 6
  · refine three ?_ (if_pos c6)
    unfold rdE1
    rw [rdP_short s (3 + rdN s) (by omega)]
    exact (by_bad _ 3 (by decide)).1
  · have hV2 : rdV s 2 = toldI s 4 := rdV_ok s 2 (by omega)
    have hN : rdN s = edN s := by unfold rdN edN; rw [hV2]
    by_cases c7 : (s.size : Int) < 7 + 2 * (edN s : Int)
    · refine three ?_ (by unfold edE; rw [if_neg c6, if_pos c7])
      unfold rdE1
      rw [hN]
      by_cases c8 : 2 * (3 + edN s) ≤ s.size
      · rw [rdP_ok s _ c8]
        exact by_short s _ (by omega)
      · rw [rdP_short s (3 + edN s) (by omega)]
        exact (by_bad _ 3 (by decide)).1
    · obtain ⟨b1, b2, b3⟩ := by_ok s (2 * (3 + edN s)) (by omega)
      have hP := rdP_ok s (3 + edN s) (by omega)
      have hP1 : (rdP s (3 + edN s)).1 = s.extract (2 * (3 + edN s)) s.size := by rw [hP]
      have hP2 : (rdP s (3 + edN s)).2 = 0 := by rw [hP]
      have hE1 : rdE1 s = 0 := by unfold rdE1; rw [hN, hP1, hP2]; exact b1
      have h1 : rd1 s = edSr s 0 := by
        unfold rd1; rw [hN, hP1, hP2, b2]
        unfold edSr
        rw [show 2 * (3 + edN s) + 1 = 7 + 2 * edN s by omega]
      have hM : rdM s = edM s := by
        unfold rdM edM; rw [hN, hP1, hP2, b3]
        congr 1; omega
      have hI : rdI s (rdN s) = edI0 s (edN s) := by
        unfold rdI edI0
        rw [hN]
        refine List.map_congr_left fun i hi => ?_
        have hi := List.mem_range.mp hi
        rw [rdV_ok s (3 + i) (by omega)]
        congr 1; omega
      have hV0 : rdV s 0 = toldI s 0 := rdV_ok s 0 (by omega)
      have hV1 : rdV s 1 = toldI s 2 := rdV_ok s 1 (by omega)
      by_cases c16 : 16 < edM s
      · have hE2 : rdE2 s = 2 := by unfold rdE2; rw [hM, if_pos c16, hE1]; rfl
        have hst := rmP_sticky (rd1 s) (rdE2 s) (by rw [hE2]; decide) k
        have hE : edE s = 2 := by unfold edE; rw [if_neg c6, if_neg c7, if_pos c16]
        rw [hst, hE2, hE]
        exact ⟨by split <;> rfl, fun c => absurd c (by decide)⟩
      · have hE2 : rdE2 s = 0 := by unfold rdE2; rw [hM, if_neg c16, hE1]
        obtain ⟨m1, m2⟩ := rmP_is s k
        rw [h1, hE2] at hend ⊢
        rw [hM] at hk hend
        have hF : edF s = (List.range (edM s).toNat).map fun j => decE (edSr s j) := rfl
        by_cases ce : erK s k = 0
        · have hkM : k = (edM s).toNat := by
            rw [m1, ce] at hend
            have : decide ((k : Int) < edM s) = false := by simpa using hend
            have := of_decide_eq_false this
            omega
          have hf : firstN (edF s) = 0 := by rw [hF, ← hkM]; exact ce
          rw [rmL_is s k ce, m1, ce, hI, hV0, hV1, hV2, m2 ce]
          have hE : edE s = if entR (toldI s 0) (toldI s 2) (toldI s 4) (edI0 s (edN s)) (edSm s k) = true then 0 else 2 := by
            unfold edE; rw [if_neg c6, if_neg c7, if_neg c16, hf, if_neg (by decide), hkM]
          refine ⟨hE, fun h0 => ?_⟩
          have m1 : ∀ k, edT s k = toldI s k := fun k => if_pos h0
          have m2 : edI s = edI0 s (edN s) := if_pos h0
          have m3 : edL s = edSm s (edM s).toNat := if_pos h0
          have m4 : edR s = edSr s (edM s).toNat := if_pos h0
          rw [m1, m1, m1, m2, m3, m4, hkM]
          exact ⟨rfl, rfl, rfl, rfl, rfl, rfl⟩
        · have hf : firstN (edF s) = erK s k := by
            have : (edM s).toNat = k + ((edM s).toNat - k) := by omega
            rw [hF, this, List.range_add, List.map_append]
            exact firstN_pre ce
          have hE : edE s = erK s k := by
            unfold edE; rw [if_neg c6, if_neg c7, if_neg c16, hf, if_pos ce]
          rw [m1, hE]
          refine ⟨?_, fun c => absurd c ce⟩
          split
          · rfl
          · exact (if_neg ce).symm
theorem ed_bad {s : ByteArray} (h : edE s ≠ 0) : (∀ k, edT s k = 0) ∧ edI s = [] ∧ edL s = [] ∧ edR s = .empty := ⟨fun k => if_neg h, if_neg h, if_neg h, if_neg h⟩
end Go.Proofs.YtdpoimomipdgjaaDoor.X
