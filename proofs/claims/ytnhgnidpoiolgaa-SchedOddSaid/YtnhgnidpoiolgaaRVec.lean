/- The package of vectors, function by function. -/
import Derived.Test.YtnhgnidpoiolgaaRDoor
import Derived.Test.YtnhgnidpoiolgaaRBits
namespace Go.Proofs.Ytnhgnidpoiolgaa.X
open Go Go.RX Go.RowKit Go.Proofs
set_option linter.unusedVariables false
set_option linter.unusedSimpArgs false
/-- The bit of a number. -/
def hasB (v n : Int) : Bool := decide (0 ≤ n ∧ n ≤ 15) && decide (v / 2 ^ n.toNat % 2 = 1)
/-- Those of the first k nodes that v has. -/
def vl (v : Int) : Nat → List Int
  | 0 => []
  | k + 1 => if hasB v k = true then vl v k ++ [(k : Int)] else vl v k
theorem vl_length (v : Int) (k : Nat) : (vl v k).length ≤ k := by
  induction k with
  | zero => simp [vl]
  | succ k ih => unfold vl; split <;> first | (simp; omega) | omega
theorem ofInt_nat (x : Int) : (BitVec.ofInt 64 x).toNat = (x % 18446744073709551616).toNat := by
  rw [BitVec.toNat_ofInt]; rfl
/-- The low bits of any number. -/
theorem and_low (x : Int) (k : Nat) (hk : k ≤ 62) : Go.bits .and .i64 x ((2 ^ k - 1 : Nat) : Int) = x % ((2 ^ k : Nat) : Int) := by
  have hp : 2 ^ k ≤ 2 ^ 62 := Nat.pow_le_pow_right (by omega) hk
  have hp0 : 0 < 2 ^ k := Nat.pow_pos (by omega)
  have e1 : Go.bits .and .i64 x ((2 ^ k - 1 : Nat) : Int) = IntKind.i64.wrap (((BitVec.ofInt 64 x).toNat &&& (BitVec.ofInt 64 ((2 ^ k - 1 : Nat) : Int)).toNat : Nat) : Int) := by
    simp only [Go.bits, ← BitVec.toNat_and]
    rfl
  have e2 : (BitVec.ofInt 64 ((2 ^ k - 1 : Nat) : Int)).toNat = 2 ^ k - 1 := by rw [ofInt_nat]; omega
  rw [e1, e2, Nat.and_two_pow_sub_one_eq_mod, ofInt_nat]
  have hd : (2 ^ k : Nat) ∣ 18446744073709551616 := ⟨2 ^ (64 - k), by rw [← Nat.pow_add, show k + (64 - k) = 64 by omega]⟩
  have hlt : (x % 18446744073709551616).toNat % 2 ^ k < 2 ^ k := Nat.mod_lt _ hp0
  rw [wraps_i64 _ (by omega) (by omega)]
  rw [Int.natCast_emod, Int.toNat_of_nonneg (Int.emod_nonneg _ (by omega))]
  exact Int.emod_emod_of_dvd x (by have := Int.natCast_dvd_natCast.mpr hd; simpa using this)
theorem and1 (x : Int) : Go.bits .and .i64 x 1 = x % 2 := and_low x 1 (by omega)
theorem and16 (x : Int) : Go.bits .and .i64 x 65535 = x % 65536 := and_low x 16 (by omega)
theorem bit_at (v : Int) (n : Int) (h0 : 0 ≤ n) (h1 : n ≤ 15) : (Go.bits .and .i64 (Int.fdiv v (2 ^ min n.toNat 64)) 1 == 1) = hasB v n := by
  rw [and1, show min n.toNat 64 = n.toNat by omega, Int.fdiv_eq_ediv_of_nonneg _ (by exact Int.le_of_lt (Int.pow_pos (by omega)))]
  unfold hasB
  rw [decide_eq_true (show 0 ≤ n ∧ n ≤ 15 from ⟨h0, h1⟩), Bool.true_and]
  exact Bool.beq_eq_decide_eq _ _
theorem hasB_out {v n : Int} (h : ¬ (0 ≤ n ∧ n ≤ 15)) : hasB v n = false := by unfold hasB; rw [decide_eq_false h]; rfl
theorem vl_yes {v : Int} {k : Nat} (h : hasB v k = true) : vl v (k + 1) = vl v k ++ [(k : Int)] := by rw [vl, if_pos h]
theorem vl_no {v : Int} {k : Nat} (h : hasB v k = false) : vl v (k + 1) = vl v k := by rw [vl, if_neg (by rw [h]; decide)]
/-- With a node. -/
def withB (v n : Int) : Int := if (decide (0 ≤ n ∧ n ≤ 15) && !hasB v n) = true then v % 65536 + 2 ^ n.toNat else v % 65536
def lessB (v n : Int) : Int := if hasB v n = true then v % 65536 - 2 ^ n.toNat else v % 65536
theorem or_add_pow (x m : Nat) (hx : x < 65536) (hm : m ≤ 15) (h : x.testBit m = false) : x ||| 2 ^ m = x + 2 ^ m := by
  have hp : (2 : Nat) ^ m ≤ 2 ^ 15 := Nat.pow_le_pow_right (by omega) hm
  have hand : x &&& 2 ^ m = 0 := by
    apply Nat.eq_of_testBit_eq
    intro j
    rw [Nat.testBit_and, Nat.testBit_two_pow, Nat.zero_testBit]
    by_cases d : m = j
    · subst d; simp [h]
    · simp [d]
  have e1 : x % 2 ^ 17 = x := Nat.mod_eq_of_lt (by omega)
  have e2 : 2 ^ m % 2 ^ 17 = 2 ^ m := Nat.mod_eq_of_lt (by omega)
  have := BitVec.add_eq_or_of_and_eq_zero (BitVec.ofNat 17 x) (BitVec.ofNat 17 (2 ^ m)) (by
    apply BitVec.eq_of_toNat_eq
    simp only [BitVec.toNat_and, BitVec.toNat_ofNat]
    rw [e1, e2, hand])
  have := congrArg BitVec.toNat this
  simp only [BitVec.toNat_add, BitVec.toNat_or, BitVec.toNat_ofNat] at this
  rw [e1, e2, Nat.mod_eq_of_lt (show x + 2 ^ m < 2 ^ 17 by omega)] at this
  exact this.symm
theorem wrap_mod (x : Int) : IntKind.i64.wrap x % 65536 = x % 65536 := by rw [IntKind.wrap_i64]; omega
theorem or_raw (v p : Int) : ∃ a b : Nat, Go.bits .or .i64 v p = IntKind.i64.wrap ((a ||| b : Nat) : Int) ∧ (a : Int) % 65536 = v % 65536 ∧ (0 ≤ p → p < 65536 → (b : Int) = p) := by
  refine ⟨(BitVec.ofInt 64 v).toNat, (BitVec.ofInt 64 p).toNat, ?_, ?_, fun h0 h1 => ?_⟩
  · simp only [Go.bits, ← BitVec.toNat_or]; rfl
  · rw [ofInt_nat]; omega
  · rw [ofInt_nat]; omega
theorem hasB_nat (v : Int) (a m : Nat) (hm : m ≤ 15) (h : (a : Int) % 65536 = v % 65536) : hasB v (m : Int) = (a % 65536).testBit m := by
  have hpi : ((2 : Int) ^ m) = ((2 ^ m : Nat) : Int) := by simp
  unfold hasB
  rw [decide_eq_true (show (0 : Int) ≤ (m : Int) ∧ (m : Int) ≤ 15 by omega), Bool.true_and, Nat.testBit_eq_decide_div_mod_eq, show (Int.toNat ((m : Nat) : Int)) = m from rfl]
  have hdvd : v / 2 ^ m % 2 = (v % 65536) / 2 ^ m % 2 := by
    have h2 : (65536 : Int) = 2 ^ m * 2 ^ (16 - m) := by rw [← Int.pow_add, show m + (16 - m) = 16 by omega]; rfl
    have h3 : (2 : Int) ^ (16 - m) = 2 * 2 ^ (15 - m) := by rw [show 16 - m = 15 - m + 1 by omega, Int.pow_succ]; omega
    have hpos : (0 : Int) < 2 ^ m := Int.pow_pos (by omega)
    have e : v = v % 65536 + 2 ^ m * (2 ^ (16 - m) * (v / 65536)) := by
      have := Int.emod_add_mul_ediv v 65536
      rw [← Int.mul_assoc, ← h2]; omega
    conv => lhs; rw [e]
    rw [Int.add_mul_ediv_left _ _ (by omega), h3, Int.mul_assoc, Int.add_mul_emod_self_left]
  rw [hdvd, ← h, hpi]
  have : (((a : Nat) : Int) % 65536 / ((2 ^ m : Nat) : Int) % 2) = (((a % 65536) / 2 ^ m % 2 : Nat) : Int) := by simp
  rw [this]
  by_cases c : a % 65536 / 2 ^ m % 2 = 1
  · rw [decide_eq_true c, decide_eq_true (by rw [c]; rfl)]
  · rw [decide_eq_false c, decide_eq_false (by omega)]
theorem pow_small (n : Int) (h0 : 0 ≤ n) (h1 : n ≤ 15) : 0 < (2 : Int) ^ n.toNat ∧ (2 : Int) ^ n.toNat ≤ 32768 := by
  obtain ⟨m, rfl⟩ := Int.eq_ofNat_of_zero_le h0
  have hp : (2 : Nat) ^ m ≤ 2 ^ 15 := Nat.pow_le_pow_right (by omega) (by omega)
  have hp0 : 0 < (2 : Nat) ^ m := Nat.pow_pos (by omega)
  have hpi : ((2 : Int) ^ m) = ((2 ^ m : Nat) : Int) := by simp
  rw [show (Int.toNat ((m : Nat) : Int)) = m from rfl, hpi]
  omega
theorem or_one (v n : Int) (h0 : 0 ≤ n) (h1 : n ≤ 15) : Go.bits .or .i64 v (2 ^ n.toNat) % 65536 = withB v n := by
  have hps := pow_small n h0 h1
  obtain ⟨a, b, e1, e2, e3⟩ := or_raw v (2 ^ n.toNat)
  have e3 := e3 (by omega) (by omega)
  rw [e1, wrap_mod]
  clear e1
  obtain ⟨m, rfl⟩ := Int.eq_ofNat_of_zero_le h0
  have hm : m ≤ 15 := by omega
  rw [show (Int.toNat ((m : Nat) : Int)) = m from rfl] at e3 hps
  have hpi : ((2 : Int) ^ m) = ((2 ^ m : Nat) : Int) := by simp
  have hb : b = 2 ^ m := by rw [hpi] at e3; omega
  subst hb
  have hlt : 2 ^ m < 65536 := by rw [hpi] at hps; omega
  have hmod : ((a ||| 2 ^ m : Nat) : Int) % 65536 = (((a % 65536) ||| 2 ^ m : Nat) : Int) := by
    have := Nat.or_mod_two_pow (a := a) (b := 2 ^ m) (n := 16)
    rw [show (2 : Nat) ^ 16 = 65536 from rfl, Nat.mod_eq_of_lt hlt] at this
    rw [← this]; rfl
  rw [hmod]
  have hbit := hasB_nat v a m hm e2
  unfold withB
  rw [decide_eq_true (show (0 : Int) ≤ (m : Int) ∧ (m : Int) ≤ 15 by omega), Bool.true_and, hbit, ← e2, show (Int.toNat ((m : Nat) : Int)) = m from rfl, hpi]
  cases c : (a % 65536).testBit m with
  | true =>
    rw [if_neg (by decide)]
    have : (a % 65536) ||| 2 ^ m = a % 65536 := by
      apply Nat.eq_of_testBit_eq
      intro j
      rw [Nat.testBit_or, Nat.testBit_two_pow]
      by_cases d : m = j
      · subst d; simp [c]
      · simp [d]
    rw [this]; rfl
  | false =>
    rw [if_pos (by decide), or_add_pow _ _ (Nat.mod_lt _ (by omega)) hm c]; rfl
def vNode_S : RX.Spec U := fun
  | [⟨false, [.v (.int .i64 n)]⟩] => some ⟨none, (.one ⟨false, [.v (.bool (decide (0 ≤ n ∧ n ≤ 15)))]⟩)⟩
  | _ => none

theorem vNode_ok : ConOk Try.prog U GV 37 vNode_S :=
  fn_go gs ty glok conNil Try.func37 (by kernel_rfl) fun ds r hg hp => by
    unfold vNode_S at hg
    split at hg
    · rename_i n
      cases hg
      refine ⟨fun _ _ => none, Out.one (U := U) (D.mk false [CV.v (Value.bool (decide ((0 : Int) ≤ n) && decide (n < (16 : Int))))]) = Out.one (U := U) (D.mk false [CV.v (Value.bool (decide ((0 : Int) ≤ n ∧ n ≤ (15 : Int))))]), by kernel_rfl, ?_⟩
      simp only [Out.one.injEq, Out.tup.injEq, D.mk.injEq, List.cons.injEq, CV.v.injEq, CV.sl.injEq, Value.bool.injEq, Value.int.injEq, Value.string.injEq, and_true, true_and, heq_eq_eq]
      rw [Bool.eq_iff_iff]
      simp only [Bool.and_eq_true, decide_eq_true_eq]
      omega
    · cases hg

def vCut_S : RX.Spec U := fun
  | [⟨false, [.v (.int .i64 v)]⟩] => some ⟨none, (.one ⟨false, [.v (.int .i64 (v % 65536))]⟩)⟩
  | _ => none

theorem vCut_ok : ConOk Try.prog U GV 38 vCut_S :=
  fn_go gs ty glok conNil Try.func38 (by kernel_rfl) fun ds r hg hp => by
    unfold vCut_S at hg
    split at hg
    · rename_i v
      cases hg
      refine ⟨fun _ _ => none, Out.one (U := U) (D.mk false [CV.v (Value.int IntKind.i64 (bits BinOp.and IntKind.i64 v (65535 : Int)))]) = Out.one (U := U) (D.mk false [CV.v (Value.int IntKind.i64 (v % (65536 : Int)))]), by kernel_rfl, ?_⟩
      simp only [Out.one.injEq, Out.tup.injEq, D.mk.injEq, List.cons.injEq, CV.v.injEq, CV.sl.injEq, Value.bool.injEq, Value.int.injEq, Value.string.injEq, and_true, true_and, heq_eq_eq]
      exact and16 v
    · cases hg

-- not reached here: omnibus/vec.Has
def vWith_S : RX.Spec U := fun
  | [⟨false, [.v (.int .i64 v)]⟩, ⟨false, [.v (.int .i64 n)]⟩] => some ⟨none, (.one ⟨false, [.v (.int .i64 (withB v n))]⟩)⟩
  | _ => none

theorem vWith_ok : ConOk Try.prog U GV 30 vWith_S :=
  fn_go gs ty glok (conCons vNode_ok (conCons vCut_ok conNil)) Try.func30 (by kernel_rfl) fun ds r hg hp => by
    unfold vWith_S at hg
    split at hg
    · rename_i v n
      cases hg
      refine ⟨fun _ _ => none, (decide ((0 : Int) ≤ n ∧ n ≤ (15 : Int)) = true → (0 : Int) ≤ n ∧ Out.one (U := U) (D.mk false [CV.v (Value.int IntKind.i64 (bits BinOp.or IntKind.i64 v (IntKind.wrap IntKind.i64 ((1 : Int) * (2 : Int) ^ min (Int.toNat n) (64 : Nat))) % (65536 : Int)))]) = Out.one (U := U) (D.mk false [CV.v (Value.int IntKind.i64 (withB v n))])) ∧ (decide ((0 : Int) ≤ n ∧ n ≤ (15 : Int)) = false → Out.one (U := U) (D.mk false [CV.v (Value.int IntKind.i64 (v % (65536 : Int)))]) = Out.one (U := U) (D.mk false [CV.v (Value.int IntKind.i64 (withB v n))])), by kernel_rfl, ?_⟩
      simp only [wr64]
      refine ⟨fun h => ⟨?_, ?_⟩, fun h => ?_⟩
      · have := of_decide_eq_true h; exact this.1
      · have h := of_decide_eq_true h
        simp only [Out.one.injEq, Out.tup.injEq, D.mk.injEq, List.cons.injEq, CV.v.injEq, CV.sl.injEq, Value.bool.injEq, Value.int.injEq, Value.string.injEq, and_true, true_and, heq_eq_eq]
        rw [show min n.toNat 64 = n.toNat by omega, Int.one_mul, w64 (x := 2 ^ n.toNat) (by have := pow_small n h.1 h.2; omega)]
        exact or_one v n h.1 h.2
      · have h := of_decide_eq_false h
        simp only [Out.one.injEq, Out.tup.injEq, D.mk.injEq, List.cons.injEq, CV.v.injEq, CV.sl.injEq, Value.bool.injEq, Value.int.injEq, Value.string.injEq, and_true, true_and, heq_eq_eq]
        unfold withB
        rw [decide_eq_false h]; rfl
    · cases hg

def vCount_S : RX.Spec U := fun
  | [⟨false, [.v (.int .i64 v)]⟩] => some ⟨none, (.one ⟨false, [.v (.int .i64 (((vl v 16).length : Int)))]⟩)⟩
  | _ => none

theorem vCount_ok : ConOk Try.prog U GV 29 vCount_S :=
  fn_go gs ty glok conNil Try.func29 (by kernel_rfl) fun ds r hg hp => by
    unfold vCount_S at hg
    split at hg
    · rename_i v
      cases hg
      refine ⟨fun st key => if key = 1 then some { N := 16, mods := fun k => [.tv 4 (.int .i64 (k : Int)), .cv 1000001 0 (.int .i64 ((vl v k).length : Int))] } else none, True ∧ (Value.int IntKind.i64 (0 : Int) = Value.int IntKind.i64 (0 : Int) ∧ Value.int IntKind.i64 (0 : Int) = Value.int IntKind.i64 (↑(List.length (vl v (0 : Nat))) : Int)) ∧ ∀ (k : Nat), k ≤ (16 : Nat) → True → (decide ((↑k : Int) < (16 : Int)) = true → (0 : Int) ≤ (↑k : Int) ∧ ((bits BinOp.and IntKind.i64 (Int.fdiv v ((2 : Int) ^ min (Int.toNat (↑k : Int)) (64 : Nat))) (1 : Int) == (1 : Int)) = true → ((bits BinOp.and IntKind.i64 (Int.fdiv v ((2 : Int) ^ min (Int.toNat (↑k : Int)) (64 : Nat))) (1 : Int) == (1 : Int) && false) = true → Out.one (U := U) (D.mk false [CV.v (Value.int IntKind.i64 (wrap64 ((↑(List.length (vl v k)) : Int) + (1 : Int))))]) = Out.one (U := U) (D.mk false [CV.v (Value.int IntKind.i64 (↑(List.length (vl v (16 : Nat))) : Int))])) ∧ ((bits BinOp.and IntKind.i64 (Int.fdiv v ((2 : Int) ^ min (Int.toNat (↑k : Int)) (64 : Nat))) (1 : Int) == (1 : Int) && false) = false → k < (16 : Nat) ∧ True ∧ Value.int IntKind.i64 (wrap64 ((↑k : Int) + (1 : Int))) = Value.int IntKind.i64 (↑(k + (1 : Nat)) : Int) ∧ Value.int IntKind.i64 (wrap64 ((↑(List.length (vl v k)) : Int) + (1 : Int))) = Value.int IntKind.i64 (↑(List.length (vl v (k + (1 : Nat)))) : Int))) ∧ ((bits BinOp.and IntKind.i64 (Int.fdiv v ((2 : Int) ^ min (Int.toNat (↑k : Int)) (64 : Nat))) (1 : Int) == (1 : Int)) = false → ((bits BinOp.and IntKind.i64 (Int.fdiv v ((2 : Int) ^ min (Int.toNat (↑k : Int)) (64 : Nat))) (1 : Int) == (1 : Int) && true) = true → Out.one (U := U) (D.mk false [CV.v (Value.int IntKind.i64 (↑(List.length (vl v k)) : Int))]) = Out.one (U := U) (D.mk false [CV.v (Value.int IntKind.i64 (↑(List.length (vl v (16 : Nat))) : Int))])) ∧ ((bits BinOp.and IntKind.i64 (Int.fdiv v ((2 : Int) ^ min (Int.toNat (↑k : Int)) (64 : Nat))) (1 : Int) == (1 : Int) && true) = false → k < (16 : Nat) ∧ True ∧ Value.int IntKind.i64 (wrap64 ((↑k : Int) + (1 : Int))) = Value.int IntKind.i64 (↑(k + (1 : Nat)) : Int) ∧ Value.int IntKind.i64 (↑(List.length (vl v k)) : Int) = Value.int IntKind.i64 (↑(List.length (vl v (k + (1 : Nat)))) : Int)))) ∧ (decide ((↑k : Int) < (16 : Int)) = false → Out.one (U := U) (D.mk false [CV.v (Value.int IntKind.i64 (↑(List.length (vl v k)) : Int))]) = Out.one (U := U) (D.mk false [CV.v (Value.int IntKind.i64 (↑(List.length (vl v (16 : Nat))) : Int))])), by kernel_rfl, ?_⟩
      refine ⟨trivial, ⟨rfl, rfl⟩, fun k hk _ => ⟨fun h => ?_, fun h => ?_⟩⟩
      · have h := of_decide_eq_true h
        have hk2 : k < 16 := by omega
        have hl := vl_length v k
        rw [show (Int.toNat (k : Int)) = k from rfl]
        have hb := bit_at v k (by omega) (by omega)
        rw [show (Int.toNat (k : Int)) = k from rfl] at hb
        rw [hb, w64 (x := (k : Int) + 1) (by omega), w64 (x := ((vl v k).length : Int) + 1) (by omega)]
        refine ⟨by omega, fun c => ⟨fun d => (by simp at d), fun _ => ⟨hk2, trivial, rfl, ?_⟩⟩, fun c => ⟨fun d => (by rw [c] at d; cases d), fun _ => ⟨hk2, trivial, rfl, ?_⟩⟩⟩
        · rw [vl_yes c]; simp
        · rw [vl_no c]
      · have h := of_decide_eq_false h
        have : k = 16 := by omega
        subst this; rfl
    · cases hg

-- not reached here: omnibus/vec.List
end Go.Proofs.Ytnhgnidpoiolgaa.X
