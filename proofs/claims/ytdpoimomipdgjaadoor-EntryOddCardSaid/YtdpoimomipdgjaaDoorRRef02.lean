/- The document's answer for identifiers and filters, function by function. -/
import Derived.Test.YtdpoimomipdgjaaDoorRAnyOf
import Derived.Test.YtdpoimomipdgjaaDoorRNat02
namespace Go.Proofs.YtdpoimomipdgjaaDoor.X
open Go Go.RX Go.RowKit Go.Proofs
set_option linter.unusedVariables false
set_option linter.unusedSimpArgs false
def rlimit_S : RX.Spec U := fun
  | [⟨false, [.v (.bool e)]⟩] => some ⟨none, (.one ⟨false, [.v (.int .i64 (lim e))]⟩)⟩
  | _ => none

theorem rlimit_ok : ConOk Tryd.prog U GV 74 rlimit_S :=
  fn_go gs ty glok conNil Tryd.func74 (by kernel_rfl) fun ds r hg hp => by
    unfold rlimit_S at hg
    split at hg
    · rename_i e
      cases hg
      refine ⟨fun _ _ => none, (e = true → Out.one (U := U) (D.mk false [CV.v (Value.int IntKind.i64 (536870911 : Int))]) = Out.one (U := U) (D.mk false [CV.v (Value.int IntKind.i64 (lim e))])) ∧ (e = false → Out.one (U := U) (D.mk false [CV.v (Value.int IntKind.i64 (2047 : Int))]) = Out.one (U := U) (D.mk false [CV.v (Value.int IntKind.i64 (lim e))])), by kernel_rfl, ?_⟩
      refine ⟨fun h => ?_, fun h => ?_⟩ <;> subst h <;> rfl
    · cases hg

def rRight_S : RX.Spec U := fun
  | [⟨true, [.v (.bool e), .v (.int .i64 n)]⟩] => some ⟨none, (.one ⟨false, [.v (.bool (right e n))]⟩)⟩
  | _ => none

theorem rRight_ok : ConOk Tryd.prog U GV 55 rRight_S :=
  fn_go gs ty glok (conCons rlimit_ok conNil) Tryd.func55 (by kernel_rfl) fun ds r hg hp => by
    unfold rRight_S at hg
    split at hg
    · rename_i e n
      cases hg
      refine ⟨fun _ _ => none, Out.one (U := U) (D.mk false [CV.v (Value.bool (decide ((0 : Int) ≤ n) && decide (n ≤ lim e)))]) = Out.one (U := U) (D.mk false [CV.v (Value.bool (right e n))]), by kernel_rfl, ?_⟩
      simp only [Out.one.injEq, Out.tup.injEq, D.mk.injEq, List.cons.injEq, CV.v.injEq, CV.sl.injEq, Value.bool.injEq, Value.int.injEq, Value.string.injEq, and_true, true_and, heq_eq_eq]
      simp [right, Bool.decide_and]
    · cases hg

def rKey_S : RX.Spec U := fun
  | [⟨true, [.v (.bool e), .v (.int .i64 n)]⟩] => some ⟨none, (.tup [⟨false, [.v (.int .i64 (keyI e n))]⟩, ⟨false, [.v (.int .i64 (errI (right e n) 1))]⟩])⟩
  | _ => none

theorem rKey_ok : ConOk Tryd.prog U GV 81 rKey_S :=
  fn_go gs ty glok (conCons rRight_ok conNil) Tryd.func81 (by kernel_rfl) fun ds r hg hp => by
    unfold rKey_S at hg
    split at hg
    · rename_i e n
      cases hg
      refine ⟨fun _ _ => none, ((!right e n) = true → Out.tup (U := U) [D.mk false [CV.v (Value.int IntKind.i64 (0 : Int))], D.mk false [CV.v (Value.int IntKind.i64 (1 : Int))]] = Out.tup (U := U) [D.mk false [CV.v (Value.int IntKind.i64 (keyI e n))], D.mk false [CV.v (Value.int IntKind.i64 (errI (right e n) (1 : Int)))]]) ∧ ((!right e n) = false → ((!e) = true → Out.tup (U := U) [D.mk false [CV.v (Value.int IntKind.i64 (wrap64 ((524288 : Int) * n)))], D.mk false [CV.v (Value.int IntKind.i64 (0 : Int))]] = Out.tup (U := U) [D.mk false [CV.v (Value.int IntKind.i64 (keyI e n))], D.mk false [CV.v (Value.int IntKind.i64 (errI (right e n) (1 : Int)))]]) ∧ ((!e) = false → (262144 : Int) ≠ (0 : Int) ∧ (262144 : Int) ≠ (0 : Int) ∧ Out.tup (U := U) [D.mk false [CV.v (Value.int IntKind.i64 (wrap64 (wrap64 (wrap64 ((524288 : Int) * wrap64 (Int.tdiv n (262144 : Int))) + (262144 : Int)) + Int.tmod n (262144 : Int))))], D.mk false [CV.v (Value.int IntKind.i64 (0 : Int))]] = Out.tup (U := U) [D.mk false [CV.v (Value.int IntKind.i64 (keyI e n))], D.mk false [CV.v (Value.int IntKind.i64 (errI (right e n) (1 : Int)))]])), by kernel_rfl, ?_⟩
      refine ⟨fun h => ?_, fun h => ⟨fun he => ?_, fun he => ⟨by omega, by omega, ?_⟩⟩⟩
      · have h' : right e n = false := by simpa using h
        simp only [Out.one.injEq, Out.tup.injEq, D.mk.injEq, List.cons.injEq, CV.v.injEq, CV.sl.injEq, Value.bool.injEq, Value.int.injEq, Value.string.injEq, and_true, true_and, heq_eq_eq]
        simp [keyI, errI, h']
      · have h' : right e n = true := by simpa using h
        have he' : e = false := by simpa using he
        subst he'
        have hb : 0 ≤ n ∧ n ≤ 2047 := by simpa [right, lim] using h'
        simp only [Out.one.injEq, Out.tup.injEq, D.mk.injEq, List.cons.injEq, CV.v.injEq, CV.sl.injEq, Value.bool.injEq, Value.int.injEq, Value.string.injEq, and_true, true_and, heq_eq_eq]
        simp only [keyI, errI, h', if_true, and_true]
        rw [w64 (by omega), if_neg (by decide)]
      · have h' : right e n = true := by simpa using h
        have he' : e = true := by simpa using he
        subst he'
        have hb : 0 ≤ n ∧ n ≤ 536870911 := by simpa [right, lim] using h'
        simp only [Out.one.injEq, Out.tup.injEq, D.mk.injEq, List.cons.injEq, CV.v.injEq, CV.sl.injEq, Value.bool.injEq, Value.int.injEq, Value.string.injEq, and_true, true_and, heq_eq_eq]
        simp only [keyI, errI, h', if_true, and_true]
        rw [Int.tdiv_eq_ediv_of_nonneg hb.1, Int.tmod_eq_emod_of_nonneg hb.1, w64 (x := n / 262144) (by omega), w64 (x := 524288 * (n / 262144)) (by omega), w64 (x := 524288 * (n / 262144) + 262144) (by omega), w64 (by omega)]
    · cases hg

def rLess_S : RX.Spec U := fun
  | [⟨true, [.v (.bool e), .v (.int .i64 n)]⟩, ⟨true, [.v (.bool f), .v (.int .i64 m)]⟩] => some ⟨none, (.one ⟨false, [.v (.bool (right e n && right f m && decide (keyI e n < keyI f m)))]⟩)⟩
  | _ => none

theorem rLess_ok : ConOk Tryd.prog U GV 69 rLess_S :=
  fn_go gs ty glok (conCons rKey_ok conNil) Tryd.func69 (by kernel_rfl) fun ds r hg hp => by
    unfold rLess_S at hg
    split at hg
    · rename_i e n f m
      cases hg
      refine ⟨fun _ _ => none, Out.one (U := U) (D.mk false [CV.v (Value.bool (errI (right e n) (1 : Int) == (0 : Int) && errI (right f m) (1 : Int) == (0 : Int) && decide (keyI e n < keyI f m)))]) = Out.one (U := U) (D.mk false [CV.v (Value.bool (right e n && right f m && decide (keyI e n < keyI f m)))]), by kernel_rfl, ?_⟩
      simp only [Out.one.injEq, Out.tup.injEq, D.mk.injEq, List.cons.injEq, CV.v.injEq, CV.sl.injEq, Value.bool.injEq, Value.int.injEq, Value.string.injEq, and_true, true_and, heq_eq_eq]
      cases right e n <;> cases right f m <;> simp [errI]
    · cases hg

-- not reached here: omnibus/omnibusref02.Fits
def bitOf (n : Int) (k : Nat) : Int := bits .and .i64 (n.fdiv (2 ^ min (Int.toNat (k : Int)) (IntKind.bits .i64))) 1
def odd1 (c m n : Int) (k : Nat) : Bool := (bitOf m k == (1 : Int)) && (bitOf n k != bitOf c k)
theorem bitOf_nat (m k : Nat) (hm : m < 2 ^ 62) (hk : k < 64) : bitOf (m : Int) k = ((m / 2 ^ k % 2 : Nat) : Int) := by
  unfold bitOf
  rw [Int.toNat_natCast, show min k (IntKind.bits .i64) = k from Nat.min_eq_left (by show k ≤ 64; omega), Int.fdiv_eq_ediv_of_nonneg _ (Int.pow_nonneg (by omega))]
  have e1 : (m : Int) / 2 ^ k = ((m / 2 ^ k : Nat) : Int) := by rw [Int.natCast_ediv, Int.natCast_pow]; rfl
  have hlt : m / 2 ^ k < 2 ^ 63 := Nat.lt_of_le_of_lt (Nat.div_le_self _ _) (Nat.lt_trans hm (by decide))
  have := and_nat (m / 2 ^ k) 1 hlt (by decide)
  rw [show ((1 : Nat) : Int) = 1 from rfl] at this
  rw [e1, this, Nat.and_one_is_mod]
theorem odd_nat (X Y Z k : Nat) (hx : X < 2 ^ 62) (hy : Y < 2 ^ 62) (hz : Z < 2 ^ 62) (hk : k < 64) : odd1 X Y Z k = (Y.testBit k && (Z.testBit k != X.testBit k)) := by
  unfold odd1
  rw [bitOf_nat X k hx hk, bitOf_nat Y k hy hk, bitOf_nat Z k hz hk]
  simp only [Nat.testBit_eq_decide_div_mod_eq]
  have h1 : X / 2 ^ k % 2 = 0 ∨ X / 2 ^ k % 2 = 1 := by omega
  have h2 : Y / 2 ^ k % 2 = 0 ∨ Y / 2 ^ k % 2 = 1 := by omega
  have h3 : Z / 2 ^ k % 2 = 0 ∨ Z / 2 ^ k % 2 = 1 := by omega
  rcases h1 with h1 | h1 <;> rcases h2 with h2 | h2 <;> rcases h3 with h3 | h3 <;> rw [h1, h2, h3] <;> rfl
theorem match_bits {e : Bool} {c m n : Int} (hc : right e c = true) (hm : right e m = true) (hn : right e n = true) : matchB e c m e n = true ↔ ∀ j, j < 29 → odd1 c m n j = false := by
  obtain ⟨X, rfl, lx⟩ := right_nat hc
  obtain ⟨Y, rfl, ly⟩ := right_nat hm
  obtain ⟨Z, rfl, lz⟩ := right_nat hn
  have hw := wide e
  unfold matchB
  have l4 : X ^^^ Z < 2 ^ 29 := Nat.xor_lt_two_pow (by omega) (by omega)
  rw [hc, hm, hn, xor_nat X Z (by omega) (by omega), and_nat _ Y (by omega) (by omega)]
  have key : ((((X ^^^ Z) &&& Y : Nat) : Int) = 0) ↔ ∀ j, j < 29 → odd1 X Y Z j = false := by
    constructor
    · intro h j hj
      rw [odd_nat X Y Z j (by omega) (by omega) (by omega) (by omega)]
      have h0 : (X ^^^ Z) &&& Y = 0 := by omega
      have h5 := congrArg (fun q => Nat.testBit q j) h0
      simp only [Nat.testBit_and, Nat.testBit_xor, Nat.zero_testBit] at h5
      revert h5
      cases X.testBit j <;> cases Y.testBit j <;> cases Z.testBit j <;> decide
    · intro h
      have : (X ^^^ Z) &&& Y = 0 := by
        apply Nat.eq_of_testBit_eq
        intro j
        rw [Nat.zero_testBit, Nat.testBit_and, Nat.testBit_xor]
        by_cases hj : j < 29
        · have h5 := h j hj
          rw [odd_nat X Y Z j (by omega) (by omega) (by omega) (by omega)] at h5
          revert h5
          cases X.testBit j <;> cases Y.testBit j <;> cases Z.testBit j <;> decide
        · have : Y.testBit j = false := Nat.testBit_lt_two_pow (Nat.lt_of_lt_of_le (show Y < 2 ^ 29 by omega) (Nat.pow_le_pow_right (by omega) (by omega)))
          rw [this, Bool.and_false]
      omega
  simp only [Bool.and_self, beq_self_eq_true, Bool.true_and, decide_eq_true_eq]
  exact key
-- not reached here: omnibus/omnibusref02.Match
-- not reached here: omnibus/omnibusref02.Any
theorem ref_at (k : Int) (h0 : 0 ≤ k) (h1 : k ≤ 9223372036854775807) (E : Bool) (N : Int) (hE : atE k = E) (hN : N = if E = true then k / 524288 % 262144 * 262144 + k % 524288 - 262144 else k / 524288) :
    (errI (right E N) 1 != (0 : Int) || keyI E N != k) = !atR k ∧ (atR k = true → N = atN k) := by
  have key : (right E N && decide (keyI E N = k)) = atR k := by
    unfold atR
    rw [hE]
    have hNa : atN k = if E = true then k / 524288 * 262144 + k % 262144 else k / 524288 := by unfold atN; rw [hE]
    rw [hNa]
    cases E with
    | false => rw [hN]; rfl
    | true =>
      have hE := of_decide_eq_true (show decide (262144 ≤ k % 524288) = true from hE)
      rw [if_pos rfl] at hN ⊢
      by_cases hb : k / 524288 < 262144
      · have : N = k / 524288 * 262144 + k % 262144 := by omega
        rw [this]
      · have r2 : right true (k / 524288 * 262144 + k % 262144) = false := decide_eq_false (by show ¬ (0 ≤ _ ∧ _ ≤ (536870911 : Int)); omega)
        rw [r2, Bool.false_and]
        cases hr : right true N with
        | false => rfl
        | true =>
          have hb2 := of_decide_eq_true hr
          rw [Bool.true_and]
          apply decide_eq_false
          unfold keyI
          rw [if_pos hr, if_pos rfl]
          omega
  refine ⟨by rw [at_is, key], fun h => ?_⟩
  rw [← key] at h
  simp only [Bool.and_eq_true, decide_eq_true_eq] at h
  unfold atN
  rw [hE]
  cases E with
  | false => rw [hN]; rfl
  | true =>
    have hE := of_decide_eq_true (show decide (262144 ≤ k % 524288) = true from hE)
    rw [if_pos rfl] at hN ⊢
    have hb2 := of_decide_eq_true h.1
    have h2 := h.2
    unfold keyI at h2
    rw [if_pos h.1, if_pos rfl] at h2
    omega
-- not reached here: omnibus/omnibusref02.At
theorem pv_wrap (s : ByteArray) : wrap64 (wrap64 (wrap64 (wrap64 (16777216 * wrap64 (bt s 0)) + wrap64 (65536 * wrap64 (bt s 1))) + wrap64 (256 * wrap64 (bt s 2))) + wrap64 (bt s 3)) = pv s := by
  have h0 := bt_range s 0; have h1 := bt_range s 1; have h2 := bt_range s 2; have h3 := bt_range s 3
  rw [w64 (x := bt s 0) (by omega), w64 (x := bt s 1) (by omega), w64 (x := bt s 2) (by omega), w64 (x := bt s 3) (by omega), w64 (x := 16777216 * bt s 0) (by omega), w64 (x := 65536 * bt s 1) (by omega), w64 (x := 256 * bt s 2) (by omega),
    w64 (x := 16777216 * bt s 0 + 65536 * bt s 1) (by omega), w64 (x := 16777216 * bt s 0 + 65536 * bt s 1 + 256 * bt s 2) (by omega), w64 (by omega)]
  rfl
def rParse_S : RX.Spec U := fun
  | [⟨false, [.v (.string s)]⟩] => some ⟨none, (.tup [⟨true, [.v (.bool (parseB s && parseE s)), .v (.int .i64 (if parseB s = true then parseN s else 0))]⟩, ⟨false, [.v (.int .i64 (parseX s))]⟩])⟩
  | _ => none

theorem rParse_ok : ConOk Tryd.prog U GV 71 rParse_S :=
  fn_go gs ty glok (conCons rRight_ok conNil) Tryd.func71 (by kernel_rfl) fun ds r hg hp => by
    unfold rParse_S at hg
    split at hg
    · rename_i s
      cases hg
      refine ⟨fun _ _ => none, (decide ((↑(ByteArray.size s) : Int) < (4 : Int)) = true → Out.tup (U := U) [D.mk true [CV.v (Value.bool false), CV.v (Value.int IntKind.i64 (0 : Int))], D.mk false [CV.v (Value.int IntKind.i64 (3 : Int))]] = Out.tup (U := U) [D.mk true [CV.v (Value.bool (parseB s && parseE s)), CV.v (Value.int IntKind.i64 (if parseB s = true then parseN s else (0 : Int)))], D.mk false [CV.v (Value.int IntKind.i64 (parseX s))]]) ∧ (decide ((↑(ByteArray.size s) : Int) < (4 : Int)) = false → (decide ((4 : Int) < (↑(ByteArray.size s) : Int)) = true → Out.tup (U := U) [D.mk true [CV.v (Value.bool false), CV.v (Value.int IntKind.i64 (0 : Int))], D.mk false [CV.v (Value.int IntKind.i64 (4 : Int))]] = Out.tup (U := U) [D.mk true [CV.v (Value.bool (parseB s && parseE s)), CV.v (Value.int IntKind.i64 (if parseB s = true then parseN s else (0 : Int)))], D.mk false [CV.v (Value.int IntKind.i64 (parseX s))]]) ∧ (decide ((4 : Int) < (↑(ByteArray.size s) : Int)) = false → ((0 : Int) ≤ (0 : Int) ∧ (0 : Int) < (↑(ByteArray.size s) : Int)) ∧ ((0 : Int) ≤ (1 : Int) ∧ (1 : Int) < (↑(ByteArray.size s) : Int)) ∧ ((0 : Int) ≤ (2 : Int) ∧ (2 : Int) < (↑(ByteArray.size s) : Int)) ∧ ((0 : Int) ≤ (3 : Int) ∧ (3 : Int) < (↑(ByteArray.size s) : Int)) ∧ (2147483648 : Int) ≠ (0 : Int) ∧ ((!right (decide ((2147483648 : Int) ≤ wrap64 (wrap64 (wrap64 (wrap64 ((16777216 : Int) * IntKind.wrap IntKind.i64 (bt s (0 : Int))) + wrap64 ((65536 : Int) * IntKind.wrap IntKind.i64 (bt s (1 : Int)))) + wrap64 ((256 : Int) * IntKind.wrap IntKind.i64 (bt s (2 : Int)))) + IntKind.wrap IntKind.i64 (bt s (3 : Int))))) (Int.tmod (wrap64 (wrap64 (wrap64 (wrap64 ((16777216 : Int) * IntKind.wrap IntKind.i64 (bt s (0 : Int))) + wrap64 ((65536 : Int) * IntKind.wrap IntKind.i64 (bt s (1 : Int)))) + wrap64 ((256 : Int) * IntKind.wrap IntKind.i64 (bt s (2 : Int)))) + IntKind.wrap IntKind.i64 (bt s (3 : Int)))) (2147483648 : Int))) = true → Out.tup (U := U) [D.mk true [CV.v (Value.bool false), CV.v (Value.int IntKind.i64 (0 : Int))], D.mk false [CV.v (Value.int IntKind.i64 (2 : Int))]] = Out.tup (U := U) [D.mk true [CV.v (Value.bool (parseB s && parseE s)), CV.v (Value.int IntKind.i64 (if parseB s = true then parseN s else (0 : Int)))], D.mk false [CV.v (Value.int IntKind.i64 (parseX s))]]) ∧ ((!right (decide ((2147483648 : Int) ≤ wrap64 (wrap64 (wrap64 (wrap64 ((16777216 : Int) * IntKind.wrap IntKind.i64 (bt s (0 : Int))) + wrap64 ((65536 : Int) * IntKind.wrap IntKind.i64 (bt s (1 : Int)))) + wrap64 ((256 : Int) * IntKind.wrap IntKind.i64 (bt s (2 : Int)))) + IntKind.wrap IntKind.i64 (bt s (3 : Int))))) (Int.tmod (wrap64 (wrap64 (wrap64 (wrap64 ((16777216 : Int) * IntKind.wrap IntKind.i64 (bt s (0 : Int))) + wrap64 ((65536 : Int) * IntKind.wrap IntKind.i64 (bt s (1 : Int)))) + wrap64 ((256 : Int) * IntKind.wrap IntKind.i64 (bt s (2 : Int)))) + IntKind.wrap IntKind.i64 (bt s (3 : Int)))) (2147483648 : Int))) = false → Out.tup (U := U) [D.mk true [CV.v (Value.bool (decide ((2147483648 : Int) ≤ wrap64 (wrap64 (wrap64 (wrap64 ((16777216 : Int) * IntKind.wrap IntKind.i64 (bt s (0 : Int))) + wrap64 ((65536 : Int) * IntKind.wrap IntKind.i64 (bt s (1 : Int)))) + wrap64 ((256 : Int) * IntKind.wrap IntKind.i64 (bt s (2 : Int)))) + IntKind.wrap IntKind.i64 (bt s (3 : Int)))))), CV.v (Value.int IntKind.i64 (Int.tmod (wrap64 (wrap64 (wrap64 (wrap64 ((16777216 : Int) * IntKind.wrap IntKind.i64 (bt s (0 : Int))) + wrap64 ((65536 : Int) * IntKind.wrap IntKind.i64 (bt s (1 : Int)))) + wrap64 ((256 : Int) * IntKind.wrap IntKind.i64 (bt s (2 : Int)))) + IntKind.wrap IntKind.i64 (bt s (3 : Int)))) (2147483648 : Int)))], D.mk false [CV.v (Value.int IntKind.i64 (0 : Int))]] = Out.tup (U := U) [D.mk true [CV.v (Value.bool (parseB s && parseE s)), CV.v (Value.int IntKind.i64 (if parseB s = true then parseN s else (0 : Int)))], D.mk false [CV.v (Value.int IntKind.i64 (parseX s))]]))), by kernel_rfl, ?_⟩
      simp only [wr64]
      rw [pv_wrap, Int.tmod_eq_emod_of_nonneg (pv_range s).1]
      have e1 : decide (2147483648 ≤ pv s) = parseE s := rfl
      have e2 : pv s % 2147483648 = parseN s := rfl
      rw [e1, e2]
      refine ⟨fun h => ?_, fun h => ⟨fun h2 => ?_, fun h2 => ⟨by have := of_decide_eq_false h; omega, by have := of_decide_eq_false h; omega, by have := of_decide_eq_false h; omega, by have := of_decide_eq_false h; omega, by omega, fun h3 => ?_, fun h3 => ?_⟩⟩⟩
      · have hx : parseX s = 3 := by unfold parseX; rw [if_pos (of_decide_eq_true h)]
        simp only [Out.one.injEq, Out.tup.injEq, D.mk.injEq, List.cons.injEq, CV.v.injEq, CV.sl.injEq, Value.bool.injEq, Value.int.injEq, Value.string.injEq, and_true, true_and, heq_eq_eq]
        simp [hx, parseB]
      · have hx : parseX s = 4 := by unfold parseX; rw [if_neg (of_decide_eq_false h), if_pos (of_decide_eq_true h2)]
        simp only [Out.one.injEq, Out.tup.injEq, D.mk.injEq, List.cons.injEq, CV.v.injEq, CV.sl.injEq, Value.bool.injEq, Value.int.injEq, Value.string.injEq, and_true, true_and, heq_eq_eq]
        simp [hx, parseB]
      · have h3 : right (parseE s) (parseN s) = false := by simpa using h3
        have hx : parseX s = 2 := by unfold parseX; rw [if_neg (of_decide_eq_false h), if_neg (of_decide_eq_false h2), h3, if_neg (by decide)]
        simp only [Out.one.injEq, Out.tup.injEq, D.mk.injEq, List.cons.injEq, CV.v.injEq, CV.sl.injEq, Value.bool.injEq, Value.int.injEq, Value.string.injEq, and_true, true_and, heq_eq_eq]
        simp [hx, parseB]
      · have h3 : right (parseE s) (parseN s) = true := by simpa using h3
        have hx : parseX s = 0 := by unfold parseX; rw [if_neg (of_decide_eq_false h), if_neg (of_decide_eq_false h2), h3, if_pos rfl]
        simp only [Out.one.injEq, Out.tup.injEq, D.mk.injEq, List.cons.injEq, CV.v.injEq, CV.sl.injEq, Value.bool.injEq, Value.int.injEq, Value.string.injEq, and_true, true_and, heq_eq_eq]
        simp [hx, parseB]
    · cases hg

def rPrint_S : RX.Spec U := fun
  | [⟨true, [.v (.bool e), .v (.int .i64 n)]⟩] => some ⟨none, (.tup [⟨false, [.v (.string (printB e n))]⟩, ⟨false, [.v (.int .i64 (errI (right e n) 1))]⟩])⟩
  | _ => none

theorem rPrint_ok : ConOk Tryd.prog U GV 59 rPrint_S :=
  fn_go gs ty glok (conCons rRight_ok conNil) Tryd.func59 (by kernel_rfl) fun ds r hg hp => by
    unfold rPrint_S at hg
    split at hg
    · rename_i e n
      cases hg
      refine ⟨fun _ _ => none, ((!right e n) = true → Out.tup (U := U) [D.mk false [CV.v (Value.string (ByteArray.mk (Array.mk [])))], D.mk false [CV.v (Value.int IntKind.i64 (1 : Int))]] = Out.tup (U := U) [D.mk false [CV.v (Value.string (printB e n))], D.mk false [CV.v (Value.int IntKind.i64 (errI (right e n) (1 : Int)))]]) ∧ ((!right e n) = false → (e = true → (16777216 : Int) ≠ (0 : Int) ∧ (65536 : Int) ≠ (0 : Int) ∧ (256 : Int) ≠ (0 : Int) ∧ (256 : Int) ≠ (0 : Int) ∧ (256 : Int) ≠ (0 : Int) ∧ (256 : Int) ≠ (0 : Int) ∧ Out.tup (U := U) [D.mk false [CV.v (Value.string (strOfNums (List.map (fun x => x) [IntKind.wrap IntKind.u8 (wrap64 (Int.tdiv (wrap64 (n + (2147483648 : Int))) (16777216 : Int))), IntKind.wrap IntKind.u8 (Int.tmod (wrap64 (Int.tdiv (wrap64 (n + (2147483648 : Int))) (65536 : Int))) (256 : Int)), IntKind.wrap IntKind.u8 (Int.tmod (wrap64 (Int.tdiv (wrap64 (n + (2147483648 : Int))) (256 : Int))) (256 : Int)), IntKind.wrap IntKind.u8 (Int.tmod (wrap64 (n + (2147483648 : Int))) (256 : Int))])))], D.mk false [CV.v (Value.int IntKind.i64 (0 : Int))]] = Out.tup (U := U) [D.mk false [CV.v (Value.string (printB e n))], D.mk false [CV.v (Value.int IntKind.i64 (errI (right e n) (1 : Int)))]]) ∧ (e = false → (16777216 : Int) ≠ (0 : Int) ∧ (65536 : Int) ≠ (0 : Int) ∧ (256 : Int) ≠ (0 : Int) ∧ (256 : Int) ≠ (0 : Int) ∧ (256 : Int) ≠ (0 : Int) ∧ (256 : Int) ≠ (0 : Int) ∧ Out.tup (U := U) [D.mk false [CV.v (Value.string (strOfNums (List.map (fun x => x) [IntKind.wrap IntKind.u8 (wrap64 (Int.tdiv n (16777216 : Int))), IntKind.wrap IntKind.u8 (Int.tmod (wrap64 (Int.tdiv n (65536 : Int))) (256 : Int)), IntKind.wrap IntKind.u8 (Int.tmod (wrap64 (Int.tdiv n (256 : Int))) (256 : Int)), IntKind.wrap IntKind.u8 (Int.tmod n (256 : Int))])))], D.mk false [CV.v (Value.int IntKind.i64 (0 : Int))]] = Out.tup (U := U) [D.mk false [CV.v (Value.string (printB e n))], D.mk false [CV.v (Value.int IntKind.i64 (errI (right e n) (1 : Int)))]])), by kernel_rfl, ?_⟩
      refine ⟨fun h => ?_, fun h => ⟨fun he => ⟨by omega, by omega, by omega, by omega, by omega, by omega, ?_⟩, fun he => ⟨by omega, by omega, by omega, by omega, by omega, by omega, ?_⟩⟩⟩
      · have h : right e n = false := by simpa using h
        simp only [Out.one.injEq, Out.tup.injEq, D.mk.injEq, List.cons.injEq, CV.v.injEq, CV.sl.injEq, Value.bool.injEq, Value.int.injEq, Value.string.injEq, and_true, true_and, heq_eq_eq]
        simp [printB, errI, h]
        rfl
      · have h : right e n = true := by simpa using h
        subst he
        have hb := right_is h
        have h2 : n ≤ 536870911 := hb.2
        have h1 := hb.1
        simp only [Out.one.injEq, Out.tup.injEq, D.mk.injEq, List.cons.injEq, CV.v.injEq, CV.sl.injEq, Value.bool.injEq, Value.int.injEq, Value.string.injEq, and_true, true_and, heq_eq_eq]
        rw [w64 (x := n + 2147483648) (by omega)]
        obtain ⟨v, hv⟩ : ∃ v, n + 2147483648 = v := ⟨_, rfl⟩
        rw [hv, Int.tdiv_eq_ediv_of_nonneg (by omega), Int.tdiv_eq_ediv_of_nonneg (by omega), Int.tdiv_eq_ediv_of_nonneg (by omega), w64 (x := v / 16777216) (by omega), w64 (x := v / 65536) (by omega), w64 (x := v / 256) (by omega), Int.tmod_eq_emod_of_nonneg (by omega), Int.tmod_eq_emod_of_nonneg (by omega), Int.tmod_eq_emod_of_nonneg (by omega)]
        simp only [wu8, printB, h, if_true, printV, hv, errI, and_true, List.map_cons, List.map_nil, Int.emod_emod_of_dvd _ (Int.dvd_refl 256)]
      · have h : right e n = true := by simpa using h
        subst he
        have hb := right_is h
        have h2 : n ≤ 2047 := hb.2
        have h1 := hb.1
        simp only [Out.one.injEq, Out.tup.injEq, D.mk.injEq, List.cons.injEq, CV.v.injEq, CV.sl.injEq, Value.bool.injEq, Value.int.injEq, Value.string.injEq, and_true, true_and, heq_eq_eq]
        rw [Int.tdiv_eq_ediv_of_nonneg (by omega), Int.tdiv_eq_ediv_of_nonneg (by omega), Int.tdiv_eq_ediv_of_nonneg (by omega), w64 (x := n / 16777216) (by omega), w64 (x := n / 65536) (by omega), w64 (x := n / 256) (by omega), Int.tmod_eq_emod_of_nonneg (by omega), Int.tmod_eq_emod_of_nonneg (by omega), Int.tmod_eq_emod_of_nonneg (by omega)]
        simp only [wu8, printB, h, if_true, printV, errI, and_true, List.map_cons, List.map_nil, Int.emod_emod_of_dvd _ (Int.dvd_refl 256), Bool.false_eq_true, if_false]
    · cases hg

end Go.Proofs.YtdpoimomipdgjaaDoor.X
