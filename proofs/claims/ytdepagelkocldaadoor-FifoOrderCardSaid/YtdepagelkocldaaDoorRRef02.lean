/- The document's answer for identifiers and filters, function by function. -/
import Derived.Test.YtdepagelkocldaaDoorRAnyOf
import Derived.Test.YtdepagelkocldaaDoorRNat02
namespace Go.Proofs.YtdepagelkocldaaDoor.X
open Go Go.RX Go.RowKit Go.Proofs
set_option linter.unusedVariables false
set_option linter.unusedSimpArgs false
def rlimit_S : RX.Spec U := fun
  | [⟨false, [.v (.bool e)]⟩] => some ⟨none, (.one ⟨false, [.v (.int .i64 (lim e))]⟩)⟩
  | _ => none

theorem rlimit_ok : ConOk Tryd.prog U GV 53 rlimit_S :=
  fn_go gs ty glok conNil Tryd.func53 (by kernel_rfl) fun ds r hg hp => by
    unfold rlimit_S at hg
    split at hg
    · rename_i e
      cases hg
      refine ⟨fun _ _ => none, (e = true → Out.one (U := U) (D.mk false [CV.v (Value.int IntKind.i64 (536870911 : Int))]) = Out.one (U := U) (D.mk false [CV.v (Value.int IntKind.i64 (lim e))])) ∧ (e = false → Out.one (U := U) (D.mk false [CV.v (Value.int IntKind.i64 (2047 : Int))]) = Out.one (U := U) (D.mk false [CV.v (Value.int IntKind.i64 (lim e))])), by kernel_rfl, ?_⟩
      refine ⟨fun h => ?_, fun h => ?_⟩ <;> subst h <;> rfl
    · cases hg

def rRight_S : RX.Spec U := fun
  | [⟨true, [.v (.bool e), .v (.int .i64 n)]⟩] => some ⟨none, (.one ⟨false, [.v (.bool (right e n))]⟩)⟩
  | _ => none

theorem rRight_ok : ConOk Tryd.prog U GV 45 rRight_S :=
  fn_go gs ty glok (conCons rlimit_ok conNil) Tryd.func45 (by kernel_rfl) fun ds r hg hp => by
    unfold rRight_S at hg
    split at hg
    · rename_i e n
      cases hg
      refine ⟨fun _ _ => none, Out.one (U := U) (D.mk false [CV.v (Value.bool (decide ((0 : Int) ≤ n) && decide (n ≤ lim e)))]) = Out.one (U := U) (D.mk false [CV.v (Value.bool (right e n))]), by kernel_rfl, ?_⟩
      simp only [Out.one.injEq, Out.tup.injEq, D.mk.injEq, List.cons.injEq, CV.v.injEq, CV.sl.injEq, Value.bool.injEq, Value.int.injEq, Value.string.injEq, and_true, true_and, heq_eq_eq]
      simp [right, Bool.decide_and]
    · cases hg

-- not reached here: omnibus/omnibusref02.Key
-- not reached here: omnibus/omnibusref02.Less
def rFits_S : RX.Spec U := fun
  | [⟨true, [.v (.bool e), .v (.int .i64 c), .v (.int .i64 m)]⟩] => some ⟨none, (.one ⟨false, [.v (.bool (right e c && right e m))]⟩)⟩
  | _ => none

theorem rFits_ok : ConOk Tryd.prog U GV 51 rFits_S :=
  fn_go gs ty glok (conCons rlimit_ok conNil) Tryd.func51 (by kernel_rfl) fun ds r hg hp => by
    unfold rFits_S at hg
    split at hg
    · rename_i e c m
      cases hg
      refine ⟨fun _ _ => none, Out.one (U := U) (D.mk false [CV.v (Value.bool (decide ((0 : Int) ≤ c) && decide (c ≤ lim e) && decide ((0 : Int) ≤ m) && decide (m ≤ lim e)))]) = Out.one (U := U) (D.mk false [CV.v (Value.bool (right e c && right e m))]), by kernel_rfl, ?_⟩
      simp only [Out.one.injEq, Out.tup.injEq, D.mk.injEq, List.cons.injEq, CV.v.injEq, CV.sl.injEq, Value.bool.injEq, Value.int.injEq, Value.string.injEq, and_true, true_and, heq_eq_eq]
      simp [right, Bool.decide_and, Bool.and_assoc]
    · cases hg

def bitOf (n : Int) (k : Nat) : Int := bits .and .i64 (n.fdiv (2 ^ min (Int.toNat (k : Int)) (IntKind.bits .i64))) 1
def odd1 (c m n : Int) (k : Nat) : Bool := (bitOf m k == (1 : Int)) && (bitOf n k != bitOf c k)
theorem bitOf_nat (m k : Nat) (hm : m < 2 ^ 62) (hk : k < 64) : bitOf (m : Int) k = ((m / 2 ^ k % 2 : Nat) : Int) := by
  unfold bitOf
  rw [Int.toNat_natCast, show min k (IntKind.bits .i64) = k from Nat.min_eq_left (by show k ≤ 64; omega), Int.fdiv_eq_ediv_of_nonneg _ (Int.pow_nonneg (by omega))]
  have e1 : (m : Int) / 2 ^ k = ((m / 2 ^ k : Nat) : Int) := by rw [Int.natCast_ediv, Int.natCast_pow]; rfl
  have hlt : m / 2 ^ k < 2 ^ 63 := Nat.lt_of_le_of_lt (Nat.div_le_self _ _) (Nat.lt_trans hm (by decide))
  have := and_nat (m / 2 ^ k) 1 hlt (by decide)
  rw [show ((1 : Nat) : Int) = 1 from rfl] at this
  rw [e1, this, Nat.and_one_is_mod]
theorem odd_nat (X Y Z k : Nat) (hx : X < 2 ^ 62) (hy : Y < 2 ^ 62) (hz : Z < 2 ^ 62) (hk : k < 64) : odd1 X Y Z k = (Y.testBit k && (Z.testBit k != X.testBit k)) := by
  unfold odd1
  rw [bitOf_nat X k hx hk, bitOf_nat Y k hy hk, bitOf_nat Z k hz hk]
  simp only [Nat.testBit_eq_decide_div_mod_eq]
  have h1 : X / 2 ^ k % 2 = 0 ∨ X / 2 ^ k % 2 = 1 := by omega
  have h2 : Y / 2 ^ k % 2 = 0 ∨ Y / 2 ^ k % 2 = 1 := by omega
  have h3 : Z / 2 ^ k % 2 = 0 ∨ Z / 2 ^ k % 2 = 1 := by omega
  rcases h1 with h1 | h1 <;> rcases h2 with h2 | h2 <;> rcases h3 with h3 | h3 <;> rw [h1, h2, h3] <;> rfl
theorem match_bits {e : Bool} {c m n : Int} (hc : right e c = true) (hm : right e m = true) (hn : right e n = true) : matchB e c m e n = true ↔ ∀ j, j < 29 → odd1 c m n j = false := by
  obtain ⟨X, rfl, lx⟩ := right_nat hc
  obtain ⟨Y, rfl, ly⟩ := right_nat hm
  obtain ⟨Z, rfl, lz⟩ := right_nat hn
  have hw := wide e
  unfold matchB
  have l4 : X ^^^ Z < 2 ^ 29 := Nat.xor_lt_two_pow (by omega) (by omega)
  rw [hc, hm, hn, xor_nat X Z (by omega) (by omega), and_nat _ Y (by omega) (by omega)]
  have key : ((((X ^^^ Z) &&& Y : Nat) : Int) = 0) ↔ ∀ j, j < 29 → odd1 X Y Z j = false := by
    constructor
    · intro h j hj
      rw [odd_nat X Y Z j (by omega) (by omega) (by omega) (by omega)]
      have h0 : (X ^^^ Z) &&& Y = 0 := by omega
      have h5 := congrArg (fun q => Nat.testBit q j) h0
      simp only [Nat.testBit_and, Nat.testBit_xor, Nat.zero_testBit] at h5
      revert h5
      cases X.testBit j <;> cases Y.testBit j <;> cases Z.testBit j <;> decide
    · intro h
      have : (X ^^^ Z) &&& Y = 0 := by
        apply Nat.eq_of_testBit_eq
        intro j
        rw [Nat.zero_testBit, Nat.testBit_and, Nat.testBit_xor]
        by_cases hj : j < 29
        · have h5 := h j hj
          rw [odd_nat X Y Z j (by omega) (by omega) (by omega) (by omega)] at h5
          revert h5
          cases X.testBit j <;> cases Y.testBit j <;> cases Z.testBit j <;> decide
        · have : Y.testBit j = false := Nat.testBit_lt_two_pow (Nat.lt_of_lt_of_le (show Y < 2 ^ 29 by omega) (Nat.pow_le_pow_right (by omega) (by omega)))
          rw [this, Bool.and_false]
      omega
  simp only [Bool.and_self, beq_self_eq_true, Bool.true_and, decide_eq_true_eq]
  exact key
def rMatch_S : RX.Spec U := fun
  | [⟨true, [.v (.bool e), .v (.int .i64 c), .v (.int .i64 m)]⟩, ⟨true, [.v (.bool f), .v (.int .i64 n)]⟩] => some ⟨none, (.one ⟨false, [.v (.bool (matchB e c m f n))]⟩)⟩
  | _ => none

theorem rMatch_ok : ConOk Tryd.prog U GV 40 rMatch_S :=
  fn_go gs ty glok (conCons rFits_ok (conCons rRight_ok conNil)) Tryd.func40 (by kernel_rfl) fun ds r hg hp => by
    unfold rMatch_S at hg
    split at hg
    · rename_i e c m f n
      cases hg
      refine ⟨fun st key => if key = 4 then some { N := 29, mods := fun k => [.tv 5 (.int .i64 (k : Int))], inv := fun k => ∀ j, j < k → odd1 c m n j = false } else none, ((!(right e c && right e m) || !right f n || !e == f) = true → Out.one (U := U) (D.mk false [CV.v (Value.bool false)]) = Out.one (U := U) (D.mk false [CV.v (Value.bool (matchB e c m f n))])) ∧ ((!(right e c && right e m) || !right f n || !e == f) = false → (∀ (j : Nat), j < (0 : Nat) → odd1 c m n j = false) ∧ Value.int IntKind.i64 (0 : Int) = Value.int IntKind.i64 (0 : Int) ∧ ∀ (k : Nat), k ≤ (29 : Nat) → (∀ (j : Nat), j < k → odd1 c m n j = false) → (decide ((↑k : Int) < (29 : Int)) = true → (0 : Int) ≤ (↑k : Int) ∧ ((bits BinOp.and IntKind.i64 (Int.fdiv m ((2 : Int) ^ min (Int.toNat (↑k : Int)) (64 : Nat))) (1 : Int) == (1 : Int)) = true → (0 : Int) ≤ (↑k : Int)) ∧ ((bits BinOp.and IntKind.i64 (Int.fdiv m ((2 : Int) ^ min (Int.toNat (↑k : Int)) (64 : Nat))) (1 : Int) == (1 : Int)) = true → (0 : Int) ≤ (↑k : Int)) ∧ ((bits BinOp.and IntKind.i64 (Int.fdiv m ((2 : Int) ^ min (Int.toNat (↑k : Int)) (64 : Nat))) (1 : Int) == (1 : Int) && bits BinOp.and IntKind.i64 (Int.fdiv n ((2 : Int) ^ min (Int.toNat (↑k : Int)) (64 : Nat))) (1 : Int) != bits BinOp.and IntKind.i64 (Int.fdiv c ((2 : Int) ^ min (Int.toNat (↑k : Int)) (64 : Nat))) (1 : Int)) = true → Out.one (U := U) (D.mk false [CV.v (Value.bool false)]) = Out.one (U := U) (D.mk false [CV.v (Value.bool (matchB e c m f n))])) ∧ ((bits BinOp.and IntKind.i64 (Int.fdiv m ((2 : Int) ^ min (Int.toNat (↑k : Int)) (64 : Nat))) (1 : Int) == (1 : Int) && bits BinOp.and IntKind.i64 (Int.fdiv n ((2 : Int) ^ min (Int.toNat (↑k : Int)) (64 : Nat))) (1 : Int) != bits BinOp.and IntKind.i64 (Int.fdiv c ((2 : Int) ^ min (Int.toNat (↑k : Int)) (64 : Nat))) (1 : Int)) = false → k < (29 : Nat) ∧ (∀ (j : Nat), j < k + (1 : Nat) → odd1 c m n j = false) ∧ Value.int IntKind.i64 (wrap64 ((↑k : Int) + (1 : Int))) = Value.int IntKind.i64 (↑(k + (1 : Nat)) : Int))) ∧ (decide ((↑k : Int) < (29 : Int)) = false → Out.one (U := U) (D.mk false [CV.v (Value.bool true)]) = Out.one (U := U) (D.mk false [CV.v (Value.bool (matchB e c m f n))]))), by kernel_rfl, ?_⟩
      refine ⟨fun h => ?_, fun h => ?_⟩
      · simp only [Out.one.injEq, Out.tup.injEq, D.mk.injEq, List.cons.injEq, CV.v.injEq, CV.sl.injEq, Value.bool.injEq, Value.int.injEq, Value.string.injEq, and_true, true_and, heq_eq_eq]
        revert h
        unfold matchB
        cases right e c <;> cases right e m <;> cases right f n <;> cases e <;> cases f <;> simp
      · obtain ⟨h1, h2, h3, h4⟩ : right e c = true ∧ right e m = true ∧ right f n = true ∧ e = f := by
          revert h
          cases right e c <;> cases right e m <;> cases right f n <;> cases e <;> cases f <;> simp
        subst h4
        have hb := match_bits h1 h2 h3
        refine ⟨fun j hj => absurd hj (by omega), rfl, fun k hk hik => ⟨fun hlt => ⟨by omega, fun _ => by omega, fun _ => by omega, fun ho => ?_, fun ho => ?_⟩, fun hge => ?_⟩⟩
        · have hlt : k < 29 := by have := of_decide_eq_true hlt; omega
          simp only [Out.one.injEq, Out.tup.injEq, D.mk.injEq, List.cons.injEq, CV.v.injEq, CV.sl.injEq, Value.bool.injEq, Value.int.injEq, Value.string.injEq, and_true, true_and, heq_eq_eq]
          cases hh : matchB e c m e n with
          | false => rfl
          | true => have := hb.mp hh k hlt; rw [show odd1 c m n k = true from ho] at this; cases this
        · have hlt : k < 29 := by have := of_decide_eq_true hlt; omega
          refine ⟨hlt, fun j hj => ?_, ?_⟩
          · by_cases hjk : j = k
            · subst hjk; exact ho
            · exact hik j (by omega)
          · rw [w64 (by omega)]; rfl
        · have hge := of_decide_eq_false hge
          simp only [Out.one.injEq, Out.tup.injEq, D.mk.injEq, List.cons.injEq, CV.v.injEq, CV.sl.injEq, Value.bool.injEq, Value.int.injEq, Value.string.injEq, and_true, true_and, heq_eq_eq]
          exact (hb.mpr fun j hj => hik j (by omega)).symm
    · cases hg

def rAny_S : RX.Spec U := fun
  | [⟨true, [.v (.bool e), .v (.int .i64 n)]⟩, ⟨false, [.sl .filter l]⟩] => some ⟨some (l.length ≤ 1000), (.one ⟨false, [.v (.bool (anyB e n l))]⟩)⟩
  | _ => none

theorem rAny_ok : ConOk Tryd.prog U GV 25 rAny_S :=
  fn_go gs ty glok (conCons rMatch_ok conNil) Tryd.func25 (by kernel_rfl) fun ds r hg hp => by
    unfold rAny_S at hg
    split at hg
    · rename_i e n l
      obtain ⟨l, rfl⟩ : ∃ q_ : List Filter, q_ = l := ⟨l, rfl⟩
      cases hg
      replace hp : (l.length ≤ 1000) := hp
      refine ⟨fun st key => if key = 2 then some { N := l.length, mods := fun k => [.tv 5 (.int .i64 (k : Int))], inv := fun k => anyB e n (l.take k) = false } else none, anyB e n (List.take (0 : Nat) l) = false ∧ Value.int IntKind.i64 (0 : Int) = Value.int IntKind.i64 (0 : Int) ∧ ∀ (k : Nat), k ≤ List.length l → anyB e n (List.take k l) = false → (decide ((↑k : Int) < (↑(List.length l) : Int)) = true → ((0 : Int) ≤ (↑k : Int) ∧ (↑k : Int) < (↑(List.length l) : Int)) ∧ (matchB (Filter.ext (List.getD l (Int.toNat (↑k : Int)) (d_filter))) (Filter.code (List.getD l (Int.toNat (↑k : Int)) (d_filter))) (Filter.mask (List.getD l (Int.toNat (↑k : Int)) (d_filter))) e n = true → Out.one (U := U) (D.mk false [CV.v (Value.bool true)]) = Out.one (U := U) (D.mk false [CV.v (Value.bool (anyB e n l))])) ∧ (matchB (Filter.ext (List.getD l (Int.toNat (↑k : Int)) (d_filter))) (Filter.code (List.getD l (Int.toNat (↑k : Int)) (d_filter))) (Filter.mask (List.getD l (Int.toNat (↑k : Int)) (d_filter))) e n = false → k < List.length l ∧ anyB e n (List.take (k + (1 : Nat)) l) = false ∧ Value.int IntKind.i64 (wrap64 ((↑k : Int) + (1 : Int))) = Value.int IntKind.i64 (↑(k + (1 : Nat)) : Int))) ∧ (decide ((↑k : Int) < (↑(List.length l) : Int)) = false → Out.one (U := U) (D.mk false [CV.v (Value.bool false)]) = Out.one (U := U) (D.mk false [CV.v (Value.bool (anyB e n l))])), by kernel_rfl, ?_⟩
      refine ⟨rfl, rfl, fun k hk hik => ⟨fun hlt => ?_, fun hge => ?_⟩⟩
      · have hlt : k < l.length := by have := of_decide_eq_true hlt; omega
        rw [getD_at l k _ hlt]
        refine ⟨⟨by omega, by omega⟩, fun ho => ?_, fun ho => ⟨hlt, ?_, ?_⟩⟩
        · simp only [Out.one.injEq, Out.tup.injEq, D.mk.injEq, List.cons.injEq, CV.v.injEq, CV.sl.injEq, Value.bool.injEq, Value.int.injEq, Value.string.injEq, and_true, true_and, heq_eq_eq]
          exact (List.any_eq_true.mpr ⟨l[k], List.getElem_mem hlt, ho⟩).symm
        · have : l.take (k + 1) = l.take k ++ [l[k]] := by rw [List.take_succ_eq_append_getElem hlt]
          show (List.take (k + 1) l).any _ = false
          rw [this, List.any_append, List.any_cons]
          have hik : (List.take k l).any (fun f => matchB f.ext f.code f.mask e n) = false := hik
          rw [hik, ho]; rfl
        · rw [w64 (by omega)]; rfl
      · have hge := of_decide_eq_false hge
        have : l.take k = l := List.take_of_length_le (by omega)
        rw [this] at hik
        simp only [Out.one.injEq, Out.tup.injEq, D.mk.injEq, List.cons.injEq, CV.v.injEq, CV.sl.injEq, Value.bool.injEq, Value.int.injEq, Value.string.injEq, and_true, true_and, heq_eq_eq]
        exact hik.symm
    · cases hg

theorem ref_at (k : Int) (h0 : 0 ≤ k) (h1 : k ≤ 9223372036854775807) (E : Bool) (N : Int) (hE : atE k = E) (hN : N = if E = true then k / 524288 % 262144 * 262144 + k % 524288 - 262144 else k / 524288) :
    (errI (right E N) 1 != (0 : Int) || keyI E N != k) = !atR k ∧ (atR k = true → N = atN k) := by
  have key : (right E N && decide (keyI E N = k)) = atR k := by
    unfold atR
    rw [hE]
    have hNa : atN k = if E = true then k / 524288 * 262144 + k % 262144 else k / 524288 := by unfold atN; rw [hE]
    rw [hNa]
    cases E with
    | false => rw [hN]; rfl
    | true =>
      have hE := of_decide_eq_true (show decide (262144 ≤ k % 524288) = true from hE)
      rw [if_pos rfl] at hN ⊢
      by_cases hb : k / 524288 < 262144
      · have : N = k / 524288 * 262144 + k % 262144 := by omega
        rw [this]
      · have r2 : right true (k / 524288 * 262144 + k % 262144) = false := decide_eq_false (by show ¬ (0 ≤ _ ∧ _ ≤ (536870911 : Int)); omega)
        rw [r2, Bool.false_and]
        cases hr : right true N with
        | false => rfl
        | true =>
          have hb2 := of_decide_eq_true hr
          rw [Bool.true_and]
          apply decide_eq_false
          unfold keyI
          rw [if_pos hr, if_pos rfl]
          omega
  refine ⟨by rw [at_is, key], fun h => ?_⟩
  rw [← key] at h
  simp only [Bool.and_eq_true, decide_eq_true_eq] at h
  unfold atN
  rw [hE]
  cases E with
  | false => rw [hN]; rfl
  | true =>
    have hE := of_decide_eq_true (show decide (262144 ≤ k % 524288) = true from hE)
    rw [if_pos rfl] at hN ⊢
    have hb2 := of_decide_eq_true h.1
    have h2 := h.2
    unfold keyI at h2
    rw [if_pos h.1, if_pos rfl] at h2
    omega
-- not reached here: omnibus/omnibusref02.At
theorem pv_wrap (s : ByteArray) : wrap64 (wrap64 (wrap64 (wrap64 (16777216 * wrap64 (bt s 0)) + wrap64 (65536 * wrap64 (bt s 1))) + wrap64 (256 * wrap64 (bt s 2))) + wrap64 (bt s 3)) = pv s := by
  have h0 := bt_range s 0; have h1 := bt_range s 1; have h2 := bt_range s 2; have h3 := bt_range s 3
  rw [w64 (x := bt s 0) (by omega), w64 (x := bt s 1) (by omega), w64 (x := bt s 2) (by omega), w64 (x := bt s 3) (by omega), w64 (x := 16777216 * bt s 0) (by omega), w64 (x := 65536 * bt s 1) (by omega), w64 (x := 256 * bt s 2) (by omega),
    w64 (x := 16777216 * bt s 0 + 65536 * bt s 1) (by omega), w64 (x := 16777216 * bt s 0 + 65536 * bt s 1 + 256 * bt s 2) (by omega), w64 (by omega)]
  rfl
-- not reached here: omnibus/omnibusref02.Parse
-- not reached here: omnibus/omnibusref02.Print
end Go.Proofs.YtdepagelkocldaaDoor.X
