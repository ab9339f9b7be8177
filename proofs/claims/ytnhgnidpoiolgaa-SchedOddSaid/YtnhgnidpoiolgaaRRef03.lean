/- The document's answer for vectors. -/
import Derived.Test.YtnhgnidpoiolgaaRVec
namespace Go.Proofs.Ytnhgnidpoiolgaa.X
open Go Go.RX Go.RowKit Go.Proofs
set_option linter.unusedVariables false
set_option linter.unusedSimpArgs false
theorem hasB_mod (v n : Int) : hasB (v % 65536) n = hasB v n := by
  by_cases h : 0 ≤ n ∧ n ≤ 15
  · obtain ⟨m, rfl⟩ := Int.eq_ofNat_of_zero_le h.1
    rw [hasB_nat v (v % 65536).toNat m (by omega) (by omega), hasB_nat (v % 65536) (v % 65536).toNat m (by omega) (by omega)]
  · rw [hasB_out h, hasB_out h]
def rMod_S : RX.Spec U := fun
  | [⟨false, [.v (.int .i64 n)]⟩] => some ⟨none, (.one ⟨false, [.v (.int .i64 (n % 65536))]⟩)⟩
  | _ => none

theorem rMod_ok : ConOk Try.prog U GV 35 rMod_S :=
  fn_go gs ty glok conNil Try.func35 (by kernel_rfl) fun ds r hg hp => by
    unfold rMod_S at hg
    split at hg
    · rename_i n
      cases hg
      refine ⟨fun _ _ => none, (65536 : Int) ≠ (0 : Int) ∧ (decide (Int.tmod n (65536 : Int) < (0 : Int)) = true → Out.one (U := U) (D.mk false [CV.v (Value.int IntKind.i64 (wrap64 (Int.tmod n (65536 : Int) + (65536 : Int))))]) = Out.one (U := U) (D.mk false [CV.v (Value.int IntKind.i64 (n % (65536 : Int)))])) ∧ (decide (Int.tmod n (65536 : Int) < (0 : Int)) = false → Out.one (U := U) (D.mk false [CV.v (Value.int IntKind.i64 (Int.tmod n (65536 : Int)))]) = Out.one (U := U) (D.mk false [CV.v (Value.int IntKind.i64 (n % (65536 : Int)))])), by kernel_rfl, ?_⟩
      have e := Int.tmod_eq_emod (a := n) (b := 65536)
      refine ⟨by decide, fun h => ?_, fun h => ?_⟩
      · have h := of_decide_eq_true h
        simp only [Out.one.injEq, Out.tup.injEq, D.mk.injEq, List.cons.injEq, CV.v.injEq, CV.sl.injEq, Value.bool.injEq, Value.int.injEq, Value.string.injEq, and_true, true_and, heq_eq_eq]
        rw [w64 (by split at e <;> omega)]
        split at e <;> omega
      · have h := of_decide_eq_false h
        simp only [Out.one.injEq, Out.tup.injEq, D.mk.injEq, List.cons.injEq, CV.v.injEq, CV.sl.injEq, Value.bool.injEq, Value.int.injEq, Value.string.injEq, and_true, true_and, heq_eq_eq]
        split at e <;> omega
    · cases hg

def rHas_S : RX.Spec U := fun
  | [⟨false, [.v (.int .i64 v)]⟩, ⟨false, [.v (.int .i64 n)]⟩] => some ⟨none, (.one ⟨false, [.v (.bool (hasB v n))]⟩)⟩
  | _ => none

theorem rHas_ok : ConOk Try.prog U GV 26 rHas_S :=
  fn_go gs ty glok (conCons rMod_ok conNil) Try.func26 (by kernel_rfl) fun ds r hg hp => by
    unfold rHas_S at hg
    split at hg
    · rename_i v n
      cases hg
      refine ⟨fun _ _ => none, ((decide ((0 : Int) ≤ n) && decide (n ≤ (15 : Int))) = true → (0 : Int) ≤ n) ∧ Out.one (U := U) (D.mk false [CV.v (Value.bool (decide ((0 : Int) ≤ n) && decide (n ≤ (15 : Int)) && bits BinOp.and IntKind.i64 (Int.fdiv (v % (65536 : Int)) ((2 : Int) ^ min (Int.toNat n) (64 : Nat))) (1 : Int) == (1 : Int)))]) = Out.one (U := U) (D.mk false [CV.v (Value.bool (hasB v n))]), by kernel_rfl, ?_⟩
      refine ⟨fun h => ?_, ?_⟩
      · simp only [Bool.and_eq_true, decide_eq_true_eq] at h; exact h.1
      · simp only [Out.one.injEq, Out.tup.injEq, D.mk.injEq, List.cons.injEq, CV.v.injEq, CV.sl.injEq, Value.bool.injEq, Value.int.injEq, Value.string.injEq, and_true, true_and, heq_eq_eq]
        by_cases h : 0 ≤ n ∧ n ≤ 15
        · rw [decide_eq_true h.1, decide_eq_true h.2, Bool.true_and, Bool.true_and, bit_at _ n h.1 h.2, hasB_mod]
        · have e : (decide (0 ≤ n) && decide (n ≤ 15)) = false := by rw [← Bool.decide_and]; exact decide_eq_false h
          rw [hasB_out h, e]; rfl
    · cases hg

def rWith_S : RX.Spec U := fun
  | [⟨false, [.v (.int .i64 v)]⟩, ⟨false, [.v (.int .i64 n)]⟩] => some ⟨none, (.one ⟨false, [.v (.int .i64 (withB v n))]⟩)⟩
  | _ => none

theorem rWith_ok : ConOk Try.prog U GV 27 rWith_S :=
  fn_go gs ty glok (conCons rMod_ok (conCons rHas_ok conNil)) Try.func27 (by kernel_rfl) fun ds r hg hp => by
    unfold rWith_S at hg
    split at hg
    · rename_i v n
      cases hg
      refine ⟨fun _ _ => none, ((decide (n < (0 : Int)) || decide ((15 : Int) < n) || hasB v n) = true → Out.one (U := U) (D.mk false [CV.v (Value.int IntKind.i64 (v % (65536 : Int)))]) = Out.one (U := U) (D.mk false [CV.v (Value.int IntKind.i64 (withB v n))])) ∧ ((decide (n < (0 : Int)) || decide ((15 : Int) < n) || hasB v n) = false → (0 : Int) ≤ n ∧ Out.one (U := U) (D.mk false [CV.v (Value.int IntKind.i64 (wrap64 (v % (65536 : Int) + IntKind.wrap IntKind.i64 ((1 : Int) * (2 : Int) ^ min (Int.toNat n) (64 : Nat)))))]) = Out.one (U := U) (D.mk false [CV.v (Value.int IntKind.i64 (withB v n))])), by kernel_rfl, ?_⟩
      simp only [wr64]
      refine ⟨fun h => ?_, fun h => ?_⟩
      · have e : (decide (0 ≤ n ∧ n ≤ 15) && !hasB v n) = false := by
          by_cases c : 0 ≤ n ∧ n ≤ 15
          · rw [decide_eq_false (show ¬ n < 0 by omega), decide_eq_false (show ¬ (15 : Int) < n by omega), Bool.false_or, Bool.false_or] at h
            rw [h, Bool.not_true, Bool.and_false]
          · rw [decide_eq_false c]; rfl
        simp only [Out.one.injEq, Out.tup.injEq, D.mk.injEq, List.cons.injEq, CV.v.injEq, CV.sl.injEq, Value.bool.injEq, Value.int.injEq, Value.string.injEq, and_true, true_and, heq_eq_eq]
        unfold withB
        rw [e]; rfl
      · simp only [Bool.or_eq_false_iff, decide_eq_false_iff_not] at h
        obtain ⟨⟨a, b⟩, c⟩ := h
        have hp := pow_small n (by omega) (by omega)
        refine ⟨by omega, ?_⟩
        simp only [Out.one.injEq, Out.tup.injEq, D.mk.injEq, List.cons.injEq, CV.v.injEq, CV.sl.injEq, Value.bool.injEq, Value.int.injEq, Value.string.injEq, and_true, true_and, heq_eq_eq]
        rw [show min n.toNat 64 = n.toNat by omega, Int.one_mul, w64 (x := 2 ^ n.toNat) (by omega), w64 (by omega)]
        unfold withB
        rw [decide_eq_true (show 0 ≤ n ∧ n ≤ 15 by omega), c]; rfl
    · cases hg

-- not reached here: omnibus/omnibusref03.Without
-- not reached here: omnibus/omnibusref03.List
-- not reached here: omnibus/omnibusref03.Count
def intsEq (l m : List Int) : Bool := decide (l = m)
-- not reached here: omnibus/omnibusref03.Ints
end Go.Proofs.Ytnhgnidpoiolgaa.X
