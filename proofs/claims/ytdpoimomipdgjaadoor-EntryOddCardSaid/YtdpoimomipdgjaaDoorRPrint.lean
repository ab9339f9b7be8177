/- Identifiers as bytes, and back. -/
import Derived.Test.YtdpoimomipdgjaaDoorRIdent
namespace Go.Proofs.YtdpoimomipdgjaaDoor.X
open Go Go.RX Go.RowKit Go.Proofs
set_option linter.unusedVariables false
set_option linter.unusedSimpArgs false
theorem bt_range (s : ByteArray) (i : Int) : 0 ≤ bt s i ∧ bt s i < 256 := by
  unfold bt
  split
  · rename_i h
    have := (s[i.toNat]'h).toNat_lt
    omega
  · omega
def pv (s : ByteArray) : Int := 16777216 * bt s 0 + 65536 * bt s 1 + 256 * bt s 2 + bt s 3
theorem pv_range (s : ByteArray) : 0 ≤ pv s ∧ pv s < 4294967296 := by
  have h0 := bt_range s 0; have h1 := bt_range s 1; have h2 := bt_range s 2; have h3 := bt_range s 3
  unfold pv; omega
theorem nacc_step (x y : Int) (h0 : 0 ≤ x) (h1 : x < 16777216) (h2 : 0 ≤ y) (h3 : y < 256) : bits .or .i64 (wrap64 (x * 256)) (wrap64 y) = x * 256 + y := by
  obtain ⟨a, rfl⟩ := Int.eq_ofNat_of_zero_le h0
  obtain ⟨b, rfl⟩ := Int.eq_ofNat_of_zero_le h2
  rw [w64 (x := (a : Int) * 256) (by omega), w64 (x := (b : Int)) (by omega)]
  have := or_addN a b 8 (by omega) (by omega) (by omega)
  rw [show ((2 ^ 8 * a : Nat) : Int) = (a : Int) * 256 by omega] at this
  rw [this]; omega
theorem bit31 (v : Int) (h0 : 0 ≤ v) (h1 : v < 4294967296) : (bits .and .i64 v 2147483648 != (0 : Int)) = decide (2147483648 ≤ v) := by
  obtain ⟨m, rfl⟩ := Int.eq_ofNat_of_zero_le h0
  have := and_nat m 2147483648 (by omega) (by omega)
  rw [show ((2147483648 : Nat) : Int) = 2147483648 from rfl] at this
  rw [this, show 2147483648 = 2 ^ 31 from rfl, and_pow]
  by_cases c : m / 2 ^ 31 % 2 = 1
  · rw [if_pos c, decide_eq_true (show (2147483648 : Int) ≤ (m : Int) by omega)]; rfl
  · rw [if_neg c, decide_eq_false (show ¬ (2147483648 : Int) ≤ (m : Int) by omega)]; rfl
theorem rest31 (v : Int) (h0 : 0 ≤ v) (h1 : v < 4294967296) : bits .andNot .i64 v 2147483648 = v % 2147483648 := by
  obtain ⟨m, rfl⟩ := Int.eq_ofNat_of_zero_le h0
  have := andNot_nat m 2147483648 (by omega) (by omega)
  rw [show ((2147483648 : Nat) : Int) = 2147483648 from rfl] at this
  rw [this]
  have e : m &&& (2 ^ 64 - (2147483648 + 1)) = m % 2 ^ 31 := by
    apply Nat.eq_of_testBit_eq
    intro j
    rw [Nat.testBit_and, Nat.testBit_two_pow_sub_succ (by omega), Nat.testBit_mod_two_pow, show 2147483648 = 2 ^ 31 from rfl, Nat.testBit_two_pow]
    by_cases c : j < 31
    · simp [c, show j < 64 by omega, show ¬ 31 = j by omega]
    · by_cases d : j = 31
      · subst d; simp
      · have : m.testBit j = false := Nat.testBit_lt_two_pow (Nat.lt_of_lt_of_le (show m < 2 ^ 32 by omega) (Nat.pow_le_pow_right (by omega) (by omega)))
        simp [this]
  rw [e]; omega
def parseE (s : ByteArray) : Bool := decide (2147483648 ≤ pv s)
def parseN (s : ByteArray) : Int := pv s % 2147483648
def parseX (s : ByteArray) : Int := if (s.size : Int) < 4 then 3 else if (s.size : Int) > 4 then 4 else if right (parseE s) (parseN s) = true then 0 else 2
def parseB (s : ByteArray) : Bool := decide (parseX s = 0)
def printV (e : Bool) (n : Int) : Int := if e = true then n + 2147483648 else n
def printB (e : Bool) (n : Int) : ByteArray := if right e n = true then strOfNums [printV e n / 16777216 % 256, printV e n / 65536 % 256, printV e n / 256 % 256, printV e n % 256] else .empty
theorem wu8 (x : Int) : IntKind.wrap IntKind.u8 x = x % 256 := by rw [IntKind.wrap_u8]
theorem wu32 (x : Int) : IntKind.wrap IntKind.u32 x = x % 4294967296 := by rw [IntKind.wrap_u32]
theorem or31 (n : Int) (h0 : 0 ≤ n) (h1 : n ≤ 536870911) : bits .or .u32 n 2147483648 = n + 2147483648 := by
  obtain ⟨m, rfl⟩ := Int.eq_ofNat_of_zero_le h0
  have := (bits_nat .u32 32 (by decide) (fun n a b => by rw [IntKind.wrap_u32]; omega) m 2147483648 (by omega) (by omega)).2
  rw [show ((2147483648 : Nat) : Int) = 2147483648 from rfl] at this
  rw [this, Nat.or_comm, show 2147483648 = 2 ^ 31 * 1 from rfl, ← Nat.two_pow_add_eq_or_of_lt (show m < 2 ^ 31 by omega)]
  omega
def Print_S : RX.Spec U := fun
  | [⟨true, [.v (.bool e), .v (.int .i64 n)]⟩] => some ⟨none, (.tup [⟨false, [.v (.string (printB e n))]⟩, ⟨false, [.v (.int .i64 (errI (right e n) 1))]⟩])⟩
  | _ => none

theorem Print_ok : ConOk Tryd.prog U GV 56 Print_S :=
  fn_go gs ty glok (conCons Right_ok conNil) Tryd.func56 (by kernel_rfl) fun ds r hg hp => by
    unfold Print_S at hg
    split at hg
    · rename_i e n
      cases hg
      refine ⟨fun st key => if key = 8 then some { N := 0, mods := fun _ => [], un := some 5 } else none, ((!right e n) = true → Out.tup (U := U) [D.mk false [CV.v (Value.string (ByteArray.mk (Array.mk [])))], D.mk false [CV.v (Value.int IntKind.i64 (1 : Int))]] = Out.tup (U := U) [D.mk false [CV.v (Value.string (printB e n))], D.mk false [CV.v (Value.int IntKind.i64 (errI (right e n) (1 : Int)))]]) ∧ ((!right e n) = false → (e = true → (true = true → (0 : Int) ≤ (24 : Int) ∧ ((0 : Int) ≤ (0 : Int) ∧ (0 : Int) < (4 : Int)) ∧ (true = true → (0 : Int) ≤ (16 : Int) ∧ ((0 : Int) ≤ (1 : Int) ∧ (1 : Int) < (4 : Int)) ∧ (true = true → (0 : Int) ≤ (8 : Int) ∧ ((0 : Int) ≤ (2 : Int) ∧ (2 : Int) < (4 : Int)) ∧ (true = true → (0 : Int) ≤ (0 : Int) ∧ ((0 : Int) ≤ (3 : Int) ∧ (3 : Int) < (4 : Int)) ∧ (false = true → (0 : Int) ≤ (-8 : Int) ∧ ((0 : Int) ≤ (4 : Int) ∧ (4 : Int) < (4 : Int)) ∧ False) ∧ (false = false → Out.tup (U := U) [D.mk false [CV.v (Value.string (strOfNums [IntKind.wrap IntKind.u8 (Int.fdiv (bits BinOp.or IntKind.u32 (IntKind.wrap IntKind.u32 n) (2147483648 : Int)) (16777216 : Int)), IntKind.wrap IntKind.u8 (Int.fdiv (bits BinOp.or IntKind.u32 (IntKind.wrap IntKind.u32 n) (2147483648 : Int)) (65536 : Int)), IntKind.wrap IntKind.u8 (Int.fdiv (bits BinOp.or IntKind.u32 (IntKind.wrap IntKind.u32 n) (2147483648 : Int)) (256 : Int)), IntKind.wrap IntKind.u8 (Int.fdiv (bits BinOp.or IntKind.u32 (IntKind.wrap IntKind.u32 n) (2147483648 : Int)) (1 : Int))]))], D.mk false [CV.v (Value.int IntKind.i64 (0 : Int))]] = Out.tup (U := U) [D.mk false [CV.v (Value.string (printB e n))], D.mk false [CV.v (Value.int IntKind.i64 (errI (right e n) (1 : Int)))]])) ∧ (true = false → Out.tup (U := U) [D.mk false [CV.v (Value.string (strOfNums [IntKind.wrap IntKind.u8 (Int.fdiv (bits BinOp.or IntKind.u32 (IntKind.wrap IntKind.u32 n) (2147483648 : Int)) (16777216 : Int)), IntKind.wrap IntKind.u8 (Int.fdiv (bits BinOp.or IntKind.u32 (IntKind.wrap IntKind.u32 n) (2147483648 : Int)) (65536 : Int)), IntKind.wrap IntKind.u8 (Int.fdiv (bits BinOp.or IntKind.u32 (IntKind.wrap IntKind.u32 n) (2147483648 : Int)) (256 : Int)), (0 : Int)]))], D.mk false [CV.v (Value.int IntKind.i64 (0 : Int))]] = Out.tup (U := U) [D.mk false [CV.v (Value.string (printB e n))], D.mk false [CV.v (Value.int IntKind.i64 (errI (right e n) (1 : Int)))]])) ∧ (true = false → Out.tup (U := U) [D.mk false [CV.v (Value.string (strOfNums [IntKind.wrap IntKind.u8 (Int.fdiv (bits BinOp.or IntKind.u32 (IntKind.wrap IntKind.u32 n) (2147483648 : Int)) (16777216 : Int)), IntKind.wrap IntKind.u8 (Int.fdiv (bits BinOp.or IntKind.u32 (IntKind.wrap IntKind.u32 n) (2147483648 : Int)) (65536 : Int)), (0 : Int), (0 : Int)]))], D.mk false [CV.v (Value.int IntKind.i64 (0 : Int))]] = Out.tup (U := U) [D.mk false [CV.v (Value.string (printB e n))], D.mk false [CV.v (Value.int IntKind.i64 (errI (right e n) (1 : Int)))]])) ∧ (true = false → Out.tup (U := U) [D.mk false [CV.v (Value.string (strOfNums [IntKind.wrap IntKind.u8 (Int.fdiv (bits BinOp.or IntKind.u32 (IntKind.wrap IntKind.u32 n) (2147483648 : Int)) (16777216 : Int)), (0 : Int), (0 : Int), (0 : Int)]))], D.mk false [CV.v (Value.int IntKind.i64 (0 : Int))]] = Out.tup (U := U) [D.mk false [CV.v (Value.string (printB e n))], D.mk false [CV.v (Value.int IntKind.i64 (errI (right e n) (1 : Int)))]])) ∧ (true = false → Out.tup (U := U) [D.mk false [CV.v (Value.string (strOfNums [(0 : Int), (0 : Int), (0 : Int), (0 : Int)]))], D.mk false [CV.v (Value.int IntKind.i64 (0 : Int))]] = Out.tup (U := U) [D.mk false [CV.v (Value.string (printB e n))], D.mk false [CV.v (Value.int IntKind.i64 (errI (right e n) (1 : Int)))]])) ∧ (e = false → (true = true → (0 : Int) ≤ (24 : Int) ∧ ((0 : Int) ≤ (0 : Int) ∧ (0 : Int) < (4 : Int)) ∧ (true = true → (0 : Int) ≤ (16 : Int) ∧ ((0 : Int) ≤ (1 : Int) ∧ (1 : Int) < (4 : Int)) ∧ (true = true → (0 : Int) ≤ (8 : Int) ∧ ((0 : Int) ≤ (2 : Int) ∧ (2 : Int) < (4 : Int)) ∧ (true = true → (0 : Int) ≤ (0 : Int) ∧ ((0 : Int) ≤ (3 : Int) ∧ (3 : Int) < (4 : Int)) ∧ (false = true → (0 : Int) ≤ (-8 : Int) ∧ ((0 : Int) ≤ (4 : Int) ∧ (4 : Int) < (4 : Int)) ∧ False) ∧ (false = false → Out.tup (U := U) [D.mk false [CV.v (Value.string (strOfNums [IntKind.wrap IntKind.u8 (Int.fdiv (IntKind.wrap IntKind.u32 n) (16777216 : Int)), IntKind.wrap IntKind.u8 (Int.fdiv (IntKind.wrap IntKind.u32 n) (65536 : Int)), IntKind.wrap IntKind.u8 (Int.fdiv (IntKind.wrap IntKind.u32 n) (256 : Int)), IntKind.wrap IntKind.u8 (Int.fdiv (IntKind.wrap IntKind.u32 n) (1 : Int))]))], D.mk false [CV.v (Value.int IntKind.i64 (0 : Int))]] = Out.tup (U := U) [D.mk false [CV.v (Value.string (printB e n))], D.mk false [CV.v (Value.int IntKind.i64 (errI (right e n) (1 : Int)))]])) ∧ (true = false → Out.tup (U := U) [D.mk false [CV.v (Value.string (strOfNums [IntKind.wrap IntKind.u8 (Int.fdiv (IntKind.wrap IntKind.u32 n) (16777216 : Int)), IntKind.wrap IntKind.u8 (Int.fdiv (IntKind.wrap IntKind.u32 n) (65536 : Int)), IntKind.wrap IntKind.u8 (Int.fdiv (IntKind.wrap IntKind.u32 n) (256 : Int)), (0 : Int)]))], D.mk false [CV.v (Value.int IntKind.i64 (0 : Int))]] = Out.tup (U := U) [D.mk false [CV.v (Value.string (printB e n))], D.mk false [CV.v (Value.int IntKind.i64 (errI (right e n) (1 : Int)))]])) ∧ (true = false → Out.tup (U := U) [D.mk false [CV.v (Value.string (strOfNums [IntKind.wrap IntKind.u8 (Int.fdiv (IntKind.wrap IntKind.u32 n) (16777216 : Int)), IntKind.wrap IntKind.u8 (Int.fdiv (IntKind.wrap IntKind.u32 n) (65536 : Int)), (0 : Int), (0 : Int)]))], D.mk false [CV.v (Value.int IntKind.i64 (0 : Int))]] = Out.tup (U := U) [D.mk false [CV.v (Value.string (printB e n))], D.mk false [CV.v (Value.int IntKind.i64 (errI (right e n) (1 : Int)))]])) ∧ (true = false → Out.tup (U := U) [D.mk false [CV.v (Value.string (strOfNums [IntKind.wrap IntKind.u8 (Int.fdiv (IntKind.wrap IntKind.u32 n) (16777216 : Int)), (0 : Int), (0 : Int), (0 : Int)]))], D.mk false [CV.v (Value.int IntKind.i64 (0 : Int))]] = Out.tup (U := U) [D.mk false [CV.v (Value.string (printB e n))], D.mk false [CV.v (Value.int IntKind.i64 (errI (right e n) (1 : Int)))]])) ∧ (true = false → Out.tup (U := U) [D.mk false [CV.v (Value.string (strOfNums [(0 : Int), (0 : Int), (0 : Int), (0 : Int)]))], D.mk false [CV.v (Value.int IntKind.i64 (0 : Int))]] = Out.tup (U := U) [D.mk false [CV.v (Value.string (printB e n))], D.mk false [CV.v (Value.int IntKind.i64 (errI (right e n) (1 : Int)))]]))), by kernel_rfl, ?_⟩
      refine ⟨fun h => ?_, fun h => ⟨fun he => ?_, fun he => ?_⟩⟩
      · have h : right e n = false := by simpa using h
        simp only [Out.one.injEq, Out.tup.injEq, D.mk.injEq, List.cons.injEq, CV.v.injEq, CV.sl.injEq, Value.bool.injEq, Value.int.injEq, Value.string.injEq, and_true, true_and, heq_eq_eq]
        simp [printB, errI, h]
        rfl
      · have h : right e n = true := by simpa using h
        subst he
        have hb := right_is h
        have h2 : n ≤ 536870911 := hb.2
        have h1 := hb.1
        simp only [decide_true, true_implies, Bool.true_eq_false, false_implies, reduceCtorEq, and_true, true_and, Int.reduceLE, Int.reduceLT, implies_true]
        rw [wu32, show n % 4294967296 = n by omega, or31 n h1 h2]
        obtain ⟨v, hv⟩ : ∃ v, n + 2147483648 = v := ⟨_, rfl⟩
        rw [hv]
        have f1 : ∀ d : Int, 0 ≤ d → Int.fdiv v d = v / d := fun d hd => Int.fdiv_eq_ediv_of_nonneg _ hd
        simp only [Out.one.injEq, Out.tup.injEq, D.mk.injEq, List.cons.injEq, CV.v.injEq, CV.sl.injEq, Value.bool.injEq, Value.int.injEq, Value.string.injEq, and_true, true_and, heq_eq_eq]
        rw [f1 _ (by omega), f1 _ (by omega), f1 _ (by omega), f1 _ (by omega)]
        simp [wu8, printB, h, printV, hv, errI]
      · have h : right e n = true := by simpa using h
        subst he
        have hb := right_is h
        have h2 : n ≤ 2047 := hb.2
        have h1 := hb.1
        simp only [decide_true, true_implies, Bool.true_eq_false, false_implies, reduceCtorEq, and_true, true_and, Int.reduceLE, Int.reduceLT, implies_true]
        rw [wu32, show n % 4294967296 = n by omega]
        have f1 : ∀ d : Int, 0 ≤ d → Int.fdiv n d = n / d := fun d hd => Int.fdiv_eq_ediv_of_nonneg _ hd
        simp only [Out.one.injEq, Out.tup.injEq, D.mk.injEq, List.cons.injEq, CV.v.injEq, CV.sl.injEq, Value.bool.injEq, Value.int.injEq, Value.string.injEq, and_true, true_and, heq_eq_eq]
        rw [f1 _ (by omega), f1 _ (by omega), f1 _ (by omega), f1 _ (by omega)]
        simp [wu8, printB, h, printV, errI]
    · cases hg

def pvk (s : ByteArray) : Nat → Int
  | 0 => 0
  | k + 1 => pvk s k * 256 + bt s k
theorem pvk_4 (s : ByteArray) : pvk s 4 = pv s := by
  simp only [pvk, pv]
  rw [show ((0 : Nat) : Int) = 0 from rfl, show ((1 : Nat) : Int) = 1 from rfl, show ((2 : Nat) : Int) = 2 from rfl, show ((3 : Nat) : Int) = 3 from rfl]
  omega
theorem pvk_range (s : ByteArray) (k : Nat) (h : k ≤ 3) : 0 ≤ pvk s k ∧ pvk s k < 16777216 := by
  have h0 := bt_range s 0; have h1 := bt_range s 1; have h2 := bt_range s 2
  match k, h with
  | 0, _ => exact ⟨Int.le_refl 0, by show (0 : Int) < 16777216; omega⟩
  | 1, _ => simp only [pvk]; rw [show ((0 : Nat) : Int) = 0 from rfl]; omega
  | 2, _ => simp only [pvk]; rw [show ((0 : Nat) : Int) = 0 from rfl, show ((1 : Nat) : Int) = 1 from rfl]; omega
  | 3, _ => simp only [pvk]; rw [show ((0 : Nat) : Int) = 0 from rfl, show ((1 : Nat) : Int) = 1 from rfl, show ((2 : Nat) : Int) = 2 from rfl]; omega
def Parse_S : RX.Spec U := fun
  | [⟨false, [.v (.string s)]⟩] => some ⟨none, (.tup [⟨true, [.v (.bool (parseB s && parseE s)), .v (.int .i64 (if parseB s = true then parseN s else 0))]⟩, ⟨false, [.v (.int .i64 (parseX s))]⟩])⟩
  | _ => none

theorem Parse_ok : ConOk Tryd.prog U GV 82 Parse_S :=
  fn_go gs ty glok (conCons Right_ok conNil) Tryd.func82 (by kernel_rfl) fun ds r hg hp => by
    unfold Parse_S at hg
    split at hg
    · rename_i s
      cases hg
      refine ⟨fun st key => if key = 7 then some { N := 4, mods := fun k => [.tv 21 (.int .i64 (k : Int)), .tv 4 (.int .i64 (pvk s k))] } else none, (decide ((↑(ByteArray.size s) : Int) < (4 : Int)) = true → Out.tup (U := U) [D.mk true [CV.v (Value.bool false), CV.v (Value.int IntKind.i64 (0 : Int))], D.mk false [CV.v (Value.int IntKind.i64 (3 : Int))]] = Out.tup (U := U) [D.mk true [CV.v (Value.bool (parseB s && parseE s)), CV.v (Value.int IntKind.i64 (if parseB s = true then parseN s else (0 : Int)))], D.mk false [CV.v (Value.int IntKind.i64 (parseX s))]]) ∧ (decide ((↑(ByteArray.size s) : Int) < (4 : Int)) = false → (decide ((4 : Int) < (↑(ByteArray.size s) : Int)) = true → Out.tup (U := U) [D.mk true [CV.v (Value.bool false), CV.v (Value.int IntKind.i64 (0 : Int))], D.mk false [CV.v (Value.int IntKind.i64 (4 : Int))]] = Out.tup (U := U) [D.mk true [CV.v (Value.bool (parseB s && parseE s)), CV.v (Value.int IntKind.i64 (if parseB s = true then parseN s else (0 : Int)))], D.mk false [CV.v (Value.int IntKind.i64 (parseX s))]]) ∧ (decide ((4 : Int) < (↑(ByteArray.size s) : Int)) = false → ByteArray.size s ≤ (1000000 : Nat) ∧ True ∧ (Value.int IntKind.i64 (0 : Int) = Value.int IntKind.i64 (0 : Int) ∧ Value.int IntKind.i64 (0 : Int) = Value.int IntKind.i64 (pvk s (0 : Nat))) ∧ ∀ (k : Nat), k ≤ (4 : Nat) → True → (decide ((↑k : Int) < (↑(List.length (bytesI s)) : Int)) = true → ((0 : Int) ≤ (↑k : Int) ∧ (↑k : Int) < (↑(List.length (bytesI s)) : Int)) ∧ (0 : Int) ≤ (8 : Int) ∧ k < (4 : Nat) ∧ True ∧ Value.int IntKind.i64 (wrap64 ((↑k : Int) + (1 : Int))) = Value.int IntKind.i64 (↑(k + (1 : Nat)) : Int) ∧ Value.int IntKind.i64 (bits BinOp.or IntKind.i64 (IntKind.wrap IntKind.i64 (pvk s k * (256 : Int))) (IntKind.wrap IntKind.i64 (List.getD (bytesI s) (Int.toNat (↑k : Int)) (d_u8)))) = Value.int IntKind.i64 (pvk s (k + (1 : Nat)))) ∧ (decide ((↑k : Int) < (↑(List.length (bytesI s)) : Int)) = false → ((!right (bits BinOp.and IntKind.i64 (pvk s k) (2147483648 : Int) != (0 : Int)) (bits BinOp.andNot IntKind.i64 (pvk s k) (2147483648 : Int))) = true → Out.tup (U := U) [D.mk true [CV.v (Value.bool false), CV.v (Value.int IntKind.i64 (0 : Int))], D.mk false [CV.v (Value.int IntKind.i64 (2 : Int))]] = Out.tup (U := U) [D.mk true [CV.v (Value.bool (parseB s && parseE s)), CV.v (Value.int IntKind.i64 (if parseB s = true then parseN s else (0 : Int)))], D.mk false [CV.v (Value.int IntKind.i64 (parseX s))]]) ∧ ((!right (bits BinOp.and IntKind.i64 (pvk s k) (2147483648 : Int) != (0 : Int)) (bits BinOp.andNot IntKind.i64 (pvk s k) (2147483648 : Int))) = false → Out.tup (U := U) [D.mk true [CV.v (Value.bool (bits BinOp.and IntKind.i64 (pvk s k) (2147483648 : Int) != (0 : Int))), CV.v (Value.int IntKind.i64 (bits BinOp.andNot IntKind.i64 (pvk s k) (2147483648 : Int)))], D.mk false [CV.v (Value.int IntKind.i64 (0 : Int))]] = Out.tup (U := U) [D.mk true [CV.v (Value.bool (parseB s && parseE s)), CV.v (Value.int IntKind.i64 (if parseB s = true then parseN s else (0 : Int)))], D.mk false [CV.v (Value.int IntKind.i64 (parseX s))]])))), by kernel_rfl, ?_⟩
      simp only [wr64]
      have hl := bytesI_len s
      have tr : ∀ {a b : Int}, a = b → Value.int IntKind.i64 a = Value.int IntKind.i64 b := fun h => by rw [h]
      refine ⟨fun h => ?_, fun h => ⟨fun h2 => ?_, fun h2 => ⟨by have := of_decide_eq_false h2; omega, trivial, ⟨by first | exact trivial | rfl, by first | exact trivial | rfl⟩, fun k hk _ => ⟨fun h3 => ?_, fun h3 => ?_⟩⟩⟩⟩
      · have hx : parseX s = 3 := by unfold parseX; rw [if_pos (of_decide_eq_true h)]
        simp only [Out.one.injEq, Out.tup.injEq, D.mk.injEq, List.cons.injEq, CV.v.injEq, CV.sl.injEq, Value.bool.injEq, Value.int.injEq, Value.string.injEq, and_true, true_and, heq_eq_eq]
        simp [hx, parseB]
      · have hx : parseX s = 4 := by unfold parseX; rw [if_neg (of_decide_eq_false h), if_pos (of_decide_eq_true h2)]
        simp only [Out.one.injEq, Out.tup.injEq, D.mk.injEq, List.cons.injEq, CV.v.injEq, CV.sl.injEq, Value.bool.injEq, Value.int.injEq, Value.string.injEq, and_true, true_and, heq_eq_eq]
        simp [hx, parseB]
      · have h3 := of_decide_eq_true h3
        have h4 : k < 4 := by have := of_decide_eq_false h; have := of_decide_eq_false h2; omega
        refine ⟨⟨by omega, h3⟩, by omega, h4, trivial, ?_, ?_⟩
        · rw [w64 (by omega)]; rfl
        · have hr := pvk_range s k (by omega)
          have hb := bt_range s (k : Int)
          rw [bytesI_at s k _ (by omega)]
          exact congrArg (Value.int IntKind.i64) (nacc_step _ _ hr.1 hr.2 hb.1 hb.2)
      · have h3 := of_decide_eq_false h3
        have h4 : k = 4 := by have := of_decide_eq_false h; have := of_decide_eq_false h2; omega
        subst h4
        have hv := pv_range s
        rw [pvk_4, bit31 _ hv.1 hv.2, rest31 _ hv.1 hv.2]
        have e1 : decide (2147483648 ≤ pv s) = parseE s := rfl
        have e2 : pv s % 2147483648 = parseN s := rfl
        rw [e1, e2]
        refine ⟨fun h5 => ?_, fun h5 => ?_⟩
        · have h5 : right (parseE s) (parseN s) = false := by simpa using h5
          have hx : parseX s = 2 := by unfold parseX; rw [if_neg (of_decide_eq_false h), if_neg (of_decide_eq_false h2), h5, if_neg (by decide)]
          simp only [Out.one.injEq, Out.tup.injEq, D.mk.injEq, List.cons.injEq, CV.v.injEq, CV.sl.injEq, Value.bool.injEq, Value.int.injEq, Value.string.injEq, and_true, true_and, heq_eq_eq]
          simp [hx, parseB]
        · have h5 : right (parseE s) (parseN s) = true := by simpa using h5
          have hx : parseX s = 0 := by unfold parseX; rw [if_neg (of_decide_eq_false h), if_neg (of_decide_eq_false h2), h5, if_pos rfl]
          simp only [Out.one.injEq, Out.tup.injEq, D.mk.injEq, List.cons.injEq, CV.v.injEq, CV.sl.injEq, Value.bool.injEq, Value.int.injEq, Value.string.injEq, and_true, true_and, heq_eq_eq]
          simp [hx, parseB]
    · cases hg

end Go.Proofs.YtdpoimomipdgjaaDoor.X
