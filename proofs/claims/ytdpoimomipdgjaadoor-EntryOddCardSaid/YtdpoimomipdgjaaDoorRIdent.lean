/- The package of identifiers, function by function. -/
import Derived.Test.YtdpoimomipdgjaaDoorRDoor
import Derived.Test.YtdpoimomipdgjaaDoorRBits
namespace Go.Proofs.YtdpoimomipdgjaaDoor.X
open Go Go.RX Go.RowKit Go.Proofs
set_option linter.unusedVariables false
set_option linter.unusedSimpArgs false
def lim (e : Bool) : Int := if e = true then 536870911 else 2047
def right (e : Bool) (n : Int) : Bool := decide (0 ≤ n ∧ n ≤ lim e)
theorem right_is {p : Bool} {n : Int} (h : right p n = true) : 0 ≤ n ∧ n ≤ lim p := of_decide_eq_true h
def limit_S : RX.Spec U := fun
  | [⟨false, [.v (.bool e)]⟩] => some ⟨none, (.one ⟨false, [.v (.int .i64 (lim e))]⟩)⟩
  | _ => none

theorem limit_ok : ConOk Tryd.prog U GV 84 limit_S :=
  fn_go gs ty glok conNil Tryd.func84 (by kernel_rfl) fun ds r hg hp => by
    unfold limit_S at hg
    split at hg
    · rename_i e
      cases hg
      refine ⟨fun _ _ => none, (e = true → ((0 : Int) ≤ (1 : Int) ∧ (1 : Int) < (2 : Int)) ∧ Out.one (U := U) (D.mk false [CV.v (Value.int IntKind.i64 (536870911 : Int))]) = Out.one (U := U) (D.mk false [CV.v (Value.int IntKind.i64 (lim e))])) ∧ (e = false → ((0 : Int) ≤ (0 : Int) ∧ (0 : Int) < (2 : Int)) ∧ Out.one (U := U) (D.mk false [CV.v (Value.int IntKind.i64 (2047 : Int))]) = Out.one (U := U) (D.mk false [CV.v (Value.int IntKind.i64 (lim e))])), by kernel_rfl, ?_⟩
      refine ⟨fun h => ⟨by omega, ?_⟩, fun h => ⟨by omega, ?_⟩⟩ <;> subst h <;> rfl
    · cases hg

def within_S : RX.Spec U := fun
  | [⟨false, [.v (.int .i64 n)]⟩, ⟨false, [.v (.bool e)]⟩] => some ⟨none, (.one ⟨false, [.v (.bool (right e n))]⟩)⟩
  | _ => none

theorem within_ok : ConOk Tryd.prog U GV 77 within_S :=
  fn_go gs ty glok (conCons limit_ok conNil) Tryd.func77 (by kernel_rfl) fun ds r hg hp => by
    unfold within_S at hg
    split at hg
    · rename_i n e
      cases hg
      refine ⟨fun _ _ => none, Out.one (U := U) (D.mk false [CV.v (Value.bool (decide ((0 : Int) ≤ n) && decide (n ≤ lim e)))]) = Out.one (U := U) (D.mk false [CV.v (Value.bool (right e n))]), by kernel_rfl, ?_⟩
      simp only [Out.one.injEq, Out.tup.injEq, D.mk.injEq, List.cons.injEq, CV.v.injEq, CV.sl.injEq, Value.bool.injEq, Value.int.injEq, Value.string.injEq, and_true, true_and, heq_eq_eq]
      simp [right, Bool.decide_and]
    · cases hg

def Right_S : RX.Spec U := fun
  | [⟨true, [.v (.bool e), .v (.int .i64 n)]⟩] => some ⟨none, (.one ⟨false, [.v (.bool (right e n))]⟩)⟩
  | _ => none

theorem Right_ok : ConOk Tryd.prog U GV 63 Right_S :=
  fn_go gs ty glok (conCons within_ok conNil) Tryd.func63 (by kernel_rfl) fun ds r hg hp => by
    unfold Right_S at hg
    split at hg
    · rename_i e n
      cases hg
      refine ⟨fun _ _ => none, Out.one (U := U) (D.mk false [CV.v (Value.bool (right e n))]) = Out.one (U := U) (D.mk false [CV.v (Value.bool (right e n))]), by kernel_rfl, ?_⟩
      rfl
    · cases hg

def keyI (e : Bool) (n : Int) : Int := if right e n = true then (if e = true then 524288 * (n / 262144) + 262144 + n % 262144 else 524288 * n) else 0
def errI (b : Bool) (k : Int) : Int := if b = true then 0 else k
theorem key_bits (n : Int) (h0 : 0 ≤ n) (h1 : n ≤ 536870911) : bits .or .i64 (bits .or .i64 (wrap64 (bits .andNot .i64 n 262143 * 2)) 262144) (bits .and .i64 n 262143) = 524288 * (n / 262144) + 262144 + n % 262144 := by
  obtain ⟨m, rfl⟩ := Int.eq_ofNat_of_zero_le h0
  have e1 := andNot_lowN m 18 (by omega) (by omega)
  have e2 := and_lowN m 18 (by omega) (by omega)
  rw [show ((2 ^ 18 - 1 : Nat) : Int) = 262143 from rfl] at e1 e2
  have hq : m / 2 ^ 18 < 2048 := by omega
  rw [e1, e2, w64 (by omega), show ((2 ^ 18 * (m / 2 ^ 18) : Nat) : Int) * 2 = ((2 ^ 19 * (m / 2 ^ 18) : Nat) : Int) by omega]
  have e3 := or_addN (m / 2 ^ 18) 262144 19 (by omega) (by omega) (by omega)
  rw [show ((262144 : Nat) : Int) = 262144 from rfl] at e3
  rw [e3, show 2 ^ 19 * (m / 2 ^ 18) + 262144 = 2 ^ 18 * (2 * (m / 2 ^ 18) + 1) by omega]
  have e4 := or_addN (2 * (m / 2 ^ 18) + 1) (m % 2 ^ 18) 18 (by omega) (by omega) (by omega)
  rw [e4]
  omega
def Key_S : RX.Spec U := fun
  | [⟨true, [.v (.bool e), .v (.int .i64 n)]⟩] => some ⟨none, (.tup [⟨false, [.v (.int .i64 (keyI e n))]⟩, ⟨false, [.v (.int .i64 (errI (right e n) 1))]⟩])⟩
  | _ => none

theorem Key_ok : ConOk Tryd.prog U GV 85 Key_S :=
  fn_go gs ty glok (conCons Right_ok conNil) Tryd.func85 (by kernel_rfl) fun ds r hg hp => by
    unfold Key_S at hg
    split at hg
    · rename_i e n
      cases hg
      refine ⟨fun _ _ => none, ((!right e n) = true → Out.tup (U := U) [D.mk false [CV.v (Value.int IntKind.i64 (0 : Int))], D.mk false [CV.v (Value.int IntKind.i64 (1 : Int))]] = Out.tup (U := U) [D.mk false [CV.v (Value.int IntKind.i64 (keyI e n))], D.mk false [CV.v (Value.int IntKind.i64 (errI (right e n) (1 : Int)))]]) ∧ ((!right e n) = false → (e = true → (0 : Int) ≤ (1 : Int) ∧ Out.tup (U := U) [D.mk false [CV.v (Value.int IntKind.i64 (bits BinOp.or IntKind.i64 (bits BinOp.or IntKind.i64 (IntKind.wrap IntKind.i64 (bits BinOp.andNot IntKind.i64 n (262143 : Int) * (2 : Int))) (262144 : Int)) (bits BinOp.and IntKind.i64 n (262143 : Int))))], D.mk false [CV.v (Value.int IntKind.i64 (0 : Int))]] = Out.tup (U := U) [D.mk false [CV.v (Value.int IntKind.i64 (keyI e n))], D.mk false [CV.v (Value.int IntKind.i64 (errI (right e n) (1 : Int)))]]) ∧ (e = false → Out.tup (U := U) [D.mk false [CV.v (Value.int IntKind.i64 (wrap64 (wrap64 (n * (2 : Int)) * (262144 : Int))))], D.mk false [CV.v (Value.int IntKind.i64 (0 : Int))]] = Out.tup (U := U) [D.mk false [CV.v (Value.int IntKind.i64 (keyI e n))], D.mk false [CV.v (Value.int IntKind.i64 (errI (right e n) (1 : Int)))]])), by kernel_rfl, ?_⟩
      simp only [wr64]
      refine ⟨fun h => ?_, fun h => ⟨fun he => ⟨by omega, ?_⟩, fun he => ?_⟩⟩
      · have h' : right e n = false := by simpa using h
        simp only [Out.one.injEq, Out.tup.injEq, D.mk.injEq, List.cons.injEq, CV.v.injEq, CV.sl.injEq, Value.bool.injEq, Value.int.injEq, Value.string.injEq, and_true, true_and, heq_eq_eq]
        simp [keyI, errI, h']
      · have h' : right e n = true := by simpa using h
        subst he
        have hb : 0 ≤ n ∧ n ≤ 536870911 := by simpa [right, lim] using h'
        simp only [Out.one.injEq, Out.tup.injEq, D.mk.injEq, List.cons.injEq, CV.v.injEq, CV.sl.injEq, Value.bool.injEq, Value.int.injEq, Value.string.injEq, and_true, true_and, heq_eq_eq]
        simp only [keyI, errI, h', if_true, and_true]
        exact key_bits n hb.1 hb.2
      · have h' : right e n = true := by simpa using h
        subst he
        have hb : 0 ≤ n ∧ n ≤ 2047 := by simpa [right, lim] using h'
        simp only [Out.one.injEq, Out.tup.injEq, D.mk.injEq, List.cons.injEq, CV.v.injEq, CV.sl.injEq, Value.bool.injEq, Value.int.injEq, Value.string.injEq, and_true, true_and, heq_eq_eq]
        simp only [keyI, errI, h', if_true, and_true]
        rw [w64 (x := n * 2) (by omega), w64 (x := n * 2 * 262144) (by omega), if_neg (by decide)]
        omega
    · cases hg

def Less_S : RX.Spec U := fun
  | [⟨true, [.v (.bool e), .v (.int .i64 n)]⟩, ⟨true, [.v (.bool f), .v (.int .i64 m)]⟩] => some ⟨none, (.one ⟨false, [.v (.bool (right e n && right f m && decide (keyI e n < keyI f m)))]⟩)⟩
  | _ => none

theorem Less_ok : ConOk Tryd.prog U GV 78 Less_S :=
  fn_go gs ty glok (conCons Key_ok conNil) Tryd.func78 (by kernel_rfl) fun ds r hg hp => by
    unfold Less_S at hg
    split at hg
    · rename_i e n f m
      cases hg
      refine ⟨fun _ _ => none, Out.one (U := U) (D.mk false [CV.v (Value.bool (errI (right e n) (1 : Int) == (0 : Int) && errI (right f m) (1 : Int) == (0 : Int) && decide (keyI e n < keyI f m)))]) = Out.one (U := U) (D.mk false [CV.v (Value.bool (right e n && right f m && decide (keyI e n < keyI f m)))]), by kernel_rfl, ?_⟩
      simp only [Out.one.injEq, Out.tup.injEq, D.mk.injEq, List.cons.injEq, CV.v.injEq, CV.sl.injEq, Value.bool.injEq, Value.int.injEq, Value.string.injEq, and_true, true_and, heq_eq_eq]
      cases right e n <;> cases right f m <;> simp [errI]
    · cases hg

-- not reached here: omnibus/ident.Fits
def matchB (e : Bool) (c m : Int) (f : Bool) (n : Int) : Bool := (right e c && right e m) && right f n && (e == f) && decide (bits .and .i64 (bits .xor .i64 c n) m = 0)
-- not reached here: omnibus/ident.Match
def atE (k : Int) : Bool := decide (262144 ≤ k % 524288)
def atN (k : Int) : Int := if atE k = true then k / 524288 * 262144 + k % 262144 else k / 524288
def atR (k : Int) : Bool := right (atE k) (atN k) && decide (keyI (atE k) (atN k) = k)
theorem keyI_nonneg (e : Bool) (n : Int) : 0 ≤ keyI e n := by
  unfold keyI
  by_cases h : right e n = true
  · have hb : 0 ≤ n := by have := of_decide_eq_true h; exact this.1
    rw [if_pos h]
    cases e
    · rw [if_neg (by decide)]; omega
    · rw [if_pos rfl]; omega
  · rw [if_neg h]; exact Int.le_refl 0
theorem and_half (k : Int) (h0 : 0 ≤ k) (h1 : k ≤ 9223372036854775807) : (bits .and .i64 k 262144 != (0 : Int)) = atE k := by
  obtain ⟨m, rfl⟩ := Int.eq_ofNat_of_zero_le h0
  have := and_nat m 262144 (by omega) (by omega)
  rw [show ((262144 : Nat) : Int) = 262144 from rfl] at this
  rw [this, show 262144 = 2 ^ 18 from rfl, and_pow]
  unfold atE
  by_cases c : m / 2 ^ 18 % 2 = 1
  · rw [if_pos c, decide_eq_true (show (262144 : Int) ≤ (m : Int) % 524288 by omega)]; rfl
  · rw [if_neg c, decide_eq_false (show ¬ (262144 : Int) ≤ (m : Int) % 524288 by omega)]; rfl
theorem and_rest (k : Int) (h0 : 0 ≤ k) (h1 : k ≤ 9223372036854775807) : bits .and .i64 k 262143 = k % 262144 := by
  obtain ⟨m, rfl⟩ := Int.eq_ofNat_of_zero_le h0
  have := and_lowN m 18 (by omega) (by omega)
  rw [show ((2 ^ 18 - 1 : Nat) : Int) = 262143 from rfl] at this
  rw [this]; omega
theorem atR_neg (k : Int) (h : k < 0) : atR k = false := by
  unfold atR
  cases c : right (atE k) (atN k)
  · rfl
  · have := of_decide_eq_true c
    unfold atN at this
    by_cases d : atE k = true
    · rw [if_pos d] at this; omega
    · rw [if_neg d] at this; omega
theorem at_no (e : Bool) (n k : Int) (h : k < 0) : (errI (right e n) 1 != (0 : Int) || keyI e n != k) = true := by
  have := keyI_nonneg e n
  have h2 : (keyI e n != k) = true := by simp only [bne_iff_ne]; omega
  rw [h2, Bool.or_true]
theorem at_is (e : Bool) (n k : Int) : (errI (right e n) 1 != (0 : Int) || keyI e n != k) = !(right e n && decide (keyI e n = k)) := by
  by_cases h : keyI e n = k
  · subst h; cases right e n <;> simp [errI]
  · cases right e n <;> simp [errI, h]
-- not reached here: omnibus/ident.At
def pickI (c n : Int) : Int := (if c < 0 then -(c + 1) else c) % n
def pick_S : RX.Spec U := fun
  | [⟨false, [.v (.int .i64 c)]⟩, ⟨false, [.v (.int .i64 n)]⟩] => some ⟨some ((in64 c ∧ 0 < n ∧ n ≤ 1000000000)), (.one ⟨false, [.v (.int .i64 (pickI c n))]⟩)⟩
  | _ => none

theorem pick_ok : ConOk Tryd.prog U GV 73 pick_S :=
  fn_go gs ty glok conNil Tryd.func73 (by kernel_rfl) fun ds r hg hp => by
    unfold pick_S at hg
    split at hg
    · rename_i c n
      cases hg
      replace hp : ((in64 c ∧ 0 < n ∧ n ≤ 1000000000)) := hp
      refine ⟨fun _ _ => none, (decide (c < (0 : Int)) = true → n ≠ (0 : Int) ∧ Out.one (U := U) (D.mk false [CV.v (Value.int IntKind.i64 (Int.tmod (wrap64 ((0 : Int) - wrap64 (c + (1 : Int)))) n))]) = Out.one (U := U) (D.mk false [CV.v (Value.int IntKind.i64 (pickI c n))])) ∧ (decide (c < (0 : Int)) = false → n ≠ (0 : Int) ∧ Out.one (U := U) (D.mk false [CV.v (Value.int IntKind.i64 (Int.tmod c n))]) = Out.one (U := U) (D.mk false [CV.v (Value.int IntKind.i64 (pickI c n))])), by kernel_rfl, ?_⟩
      unfold in64 at hp
      refine ⟨fun h => ⟨by omega, ?_⟩, fun h => ⟨by omega, ?_⟩⟩
      · have h' := of_decide_eq_true h
        simp only [Out.one.injEq, Out.tup.injEq, D.mk.injEq, List.cons.injEq, CV.v.injEq, CV.sl.injEq, Value.bool.injEq, Value.int.injEq, Value.string.injEq, and_true, true_and, heq_eq_eq]
        rw [pickI, if_pos h', w64 (x := c + 1) (by omega), w64 (by omega), Int.tmod_eq_emod_of_nonneg (by omega)]
        congr 1; omega
      · have h' := of_decide_eq_false h
        simp only [Out.one.injEq, Out.tup.injEq, D.mk.injEq, List.cons.injEq, CV.v.injEq, CV.sl.injEq, Value.bool.injEq, Value.int.injEq, Value.string.injEq, and_true, true_and, heq_eq_eq]
        rw [pickI, if_neg h', Int.tmod_eq_emod_of_nonneg (by omega)]
    · cases hg

def Ident_S : RX.Spec U := fun
  | [⟨false, [.v (.int .i64 n)]⟩, ⟨false, [.v (.bool e)]⟩] => some ⟨some (in64 n), (.one ⟨true, [.v (.bool e), .v (.int .i64 (pickI n (lim e + 1)))]⟩)⟩
  | _ => none

theorem Ident_ok : ConOk Tryd.prog U GV 53 Ident_S :=
  fn_go gs ty glok (conCons pick_ok conNil) Tryd.func53 (by kernel_rfl) fun ds r hg hp => by
    unfold Ident_S at hg
    split at hg
    · rename_i n e
      cases hg
      replace hp : (in64 n) := hp
      refine ⟨fun _ _ => none, (e = true → (((-9223372036854775808 : Int) ≤ n ∧ n ≤ (9223372036854775807 : Int)) ∧ (0 : Int) < (536870912 : Int) ∧ (536870912 : Int) ≤ (1000000000 : Int)) ∧ Out.one (U := U) (D.mk true [CV.v (Value.bool true), CV.v (Value.int IntKind.i64 (pickI n (536870912 : Int)))]) = Out.one (U := U) (D.mk true [CV.v (Value.bool e), CV.v (Value.int IntKind.i64 (pickI n (lim e + (1 : Int))))])) ∧ (e = false → (((-9223372036854775808 : Int) ≤ n ∧ n ≤ (9223372036854775807 : Int)) ∧ (0 : Int) < (2048 : Int) ∧ (2048 : Int) ≤ (1000000000 : Int)) ∧ Out.one (U := U) (D.mk true [CV.v (Value.bool false), CV.v (Value.int IntKind.i64 (pickI n (2048 : Int)))]) = Out.one (U := U) (D.mk true [CV.v (Value.bool e), CV.v (Value.int IntKind.i64 (pickI n (lim e + (1 : Int))))])), by kernel_rfl, ?_⟩
      refine ⟨fun h => ⟨?_, ?_⟩, fun h => ⟨?_, ?_⟩⟩
      · exact ⟨hp, by omega, by omega⟩
      · subst h; rfl
      · exact ⟨hp, by omega, by omega⟩
      · subst h; rfl
    · cases hg

end Go.Proofs.YtdpoimomipdgjaaDoor.X
