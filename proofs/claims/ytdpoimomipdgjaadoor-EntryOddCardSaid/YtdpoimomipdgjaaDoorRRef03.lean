/- The document's answer for vectors. -/
import Derived.Test.YtdpoimomipdgjaaDoorRVec
namespace Go.Proofs.YtdpoimomipdgjaaDoor.X
open Go Go.RX Go.RowKit Go.Proofs
set_option linter.unusedVariables false
set_option linter.unusedSimpArgs false
theorem hasB_mod (v n : Int) : hasB (v % 65536) n = hasB v n := by
  by_cases h : 0 ≤ n ∧ n ≤ 15
  · obtain ⟨m, rfl⟩ := Int.eq_ofNat_of_zero_le h.1
    rw [hasB_nat v (v % 65536).toNat m (by omega) (by omega), hasB_nat (v % 65536) (v % 65536).toNat m (by omega) (by omega)]
  · rw [hasB_out h, hasB_out h]
def rMod_S : RX.Spec U := fun
  | [⟨false, [.v (.int .i64 n)]⟩] => some ⟨none, (.one ⟨false, [.v (.int .i64 (n % 65536))]⟩)⟩
  | _ => none

theorem rMod_ok : ConOk Tryd.prog U GV 52 rMod_S :=
  fn_go gs ty glok conNil Tryd.func52 (by kernel_rfl) fun ds r hg hp => by
    unfold rMod_S at hg
    split at hg
    · rename_i n
      cases hg
      refine ⟨fun _ _ => none, (65536 : Int) ≠ (0 : Int) ∧ (decide (Int.tmod n (65536 : Int) < (0 : Int)) = true → Out.one (U := U) (D.mk false [CV.v (Value.int IntKind.i64 (wrap64 (Int.tmod n (65536 : Int) + (65536 : Int))))]) = Out.one (U := U) (D.mk false [CV.v (Value.int IntKind.i64 (n % (65536 : Int)))])) ∧ (decide (Int.tmod n (65536 : Int) < (0 : Int)) = false → Out.one (U := U) (D.mk false [CV.v (Value.int IntKind.i64 (Int.tmod n (65536 : Int)))]) = Out.one (U := U) (D.mk false [CV.v (Value.int IntKind.i64 (n % (65536 : Int)))])), by kernel_rfl, ?_⟩
      have e := Int.tmod_eq_emod (a := n) (b := 65536)
      refine ⟨by decide, fun h => ?_, fun h => ?_⟩
      · have h := of_decide_eq_true h
        simp only [Out.one.injEq, Out.tup.injEq, D.mk.injEq, List.cons.injEq, CV.v.injEq, CV.sl.injEq, Value.bool.injEq, Value.int.injEq, Value.string.injEq, and_true, true_and, heq_eq_eq]
        rw [w64 (by split at e <;> omega)]
        split at e <;> omega
      · have h := of_decide_eq_false h
        simp only [Out.one.injEq, Out.tup.injEq, D.mk.injEq, List.cons.injEq, CV.v.injEq, CV.sl.injEq, Value.bool.injEq, Value.int.injEq, Value.string.injEq, and_true, true_and, heq_eq_eq]
        split at e <;> omega
    · cases hg

def rHas_S : RX.Spec U := fun
  | [⟨false, [.v (.int .i64 v)]⟩, ⟨false, [.v (.int .i64 n)]⟩] => some ⟨none, (.one ⟨false, [.v (.bool (hasB v n))]⟩)⟩
  | _ => none

theorem rHas_ok : ConOk Tryd.prog U GV 22 rHas_S :=
  fn_go gs ty glok (conCons rMod_ok conNil) Tryd.func22 (by kernel_rfl) fun ds r hg hp => by
    unfold rHas_S at hg
    split at hg
    · rename_i v n
      cases hg
      refine ⟨fun _ _ => none, ((decide ((0 : Int) ≤ n) && decide (n ≤ (15 : Int))) = true → (0 : Int) ≤ n) ∧ Out.one (U := U) (D.mk false [CV.v (Value.bool (decide ((0 : Int) ≤ n) && decide (n ≤ (15 : Int)) && bits BinOp.and IntKind.i64 (Int.fdiv (v % (65536 : Int)) ((2 : Int) ^ min (Int.toNat n) (64 : Nat))) (1 : Int) == (1 : Int)))]) = Out.one (U := U) (D.mk false [CV.v (Value.bool (hasB v n))]), by kernel_rfl, ?_⟩
      refine ⟨fun h => ?_, ?_⟩
      · simp only [Bool.and_eq_true, decide_eq_true_eq] at h; exact h.1
      · simp only [Out.one.injEq, Out.tup.injEq, D.mk.injEq, List.cons.injEq, CV.v.injEq, CV.sl.injEq, Value.bool.injEq, Value.int.injEq, Value.string.injEq, and_true, true_and, heq_eq_eq]
        by_cases h : 0 ≤ n ∧ n ≤ 15
        · rw [decide_eq_true h.1, decide_eq_true h.2, Bool.true_and, Bool.true_and, bit_at _ n h.1 h.2, hasB_mod]
        · have e : (decide (0 ≤ n) && decide (n ≤ 15)) = false := by rw [← Bool.decide_and]; exact decide_eq_false h
          rw [hasB_out h, e]; rfl
    · cases hg

-- not reached here: omnibus/omnibusref03.With
def rWithout_S : RX.Spec U := fun
  | [⟨false, [.v (.int .i64 v)]⟩, ⟨false, [.v (.int .i64 n)]⟩] => some ⟨none, (.one ⟨false, [.v (.int .i64 (lessB v n))]⟩)⟩
  | _ => none

theorem rWithout_ok : ConOk Tryd.prog U GV 23 rWithout_S :=
  fn_go gs ty glok (conCons rMod_ok (conCons rHas_ok conNil)) Tryd.func23 (by kernel_rfl) fun ds r hg hp => by
    unfold rWithout_S at hg
    split at hg
    · rename_i v n
      cases hg
      refine ⟨fun _ _ => none, (hasB v n = true → (0 : Int) ≤ n ∧ Out.one (U := U) (D.mk false [CV.v (Value.int IntKind.i64 (wrap64 (v % (65536 : Int) - IntKind.wrap IntKind.i64 ((1 : Int) * (2 : Int) ^ min (Int.toNat n) (64 : Nat)))))]) = Out.one (U := U) (D.mk false [CV.v (Value.int IntKind.i64 (lessB v n))])) ∧ (hasB v n = false → Out.one (U := U) (D.mk false [CV.v (Value.int IntKind.i64 (v % (65536 : Int)))]) = Out.one (U := U) (D.mk false [CV.v (Value.int IntKind.i64 (lessB v n))])), by kernel_rfl, ?_⟩
      simp only [wr64]
      refine ⟨fun h => ?_, fun h => ?_⟩
      · have hb : 0 ≤ n ∧ n ≤ 15 := Classical.byContradiction fun c => by rw [hasB_out c] at h; cases h
        refine ⟨hb.1, ?_⟩
        have hp := pow_small n hb.1 hb.2
        simp only [Out.one.injEq, Out.tup.injEq, D.mk.injEq, List.cons.injEq, CV.v.injEq, CV.sl.injEq, Value.bool.injEq, Value.int.injEq, Value.string.injEq, and_true, true_and, heq_eq_eq]
        rw [show min n.toNat 64 = n.toNat by omega, Int.one_mul, w64 (x := 2 ^ n.toNat) (by omega), w64 (by omega)]
        unfold lessB
        rw [if_pos h]
      · simp only [Out.one.injEq, Out.tup.injEq, D.mk.injEq, List.cons.injEq, CV.v.injEq, CV.sl.injEq, Value.bool.injEq, Value.int.injEq, Value.string.injEq, and_true, true_and, heq_eq_eq]
        unfold lessB
        rw [h]; rfl
    · cases hg

def rList_S : RX.Spec U := fun
  | [⟨false, [.v (.int .i64 v)]⟩] => some ⟨none, (.one ⟨false, [.sl .int ((vl v 16))]⟩)⟩
  | _ => none

theorem rList_ok : ConOk Tryd.prog U GV 24 rList_S :=
  fn_go gs ty glok (conCons rHas_ok conNil) Tryd.func24 (by kernel_rfl) fun ds r hg hp => by
    unfold rList_S at hg
    split at hg
    · rename_i v
      cases hg
      refine ⟨fun st key => if key = 3 then some { N := 16, mods := fun k => [.tv 4 (.int .i64 (k : Int)), .tr 3 .int (vl v k) true] } else none, True ∧ (Value.int IntKind.i64 (0 : Int) = Value.int IntKind.i64 (0 : Int) ∧ vl v (0 : Nat) = []) ∧ ∀ (k : Nat), k ≤ (16 : Nat) → True → (decide ((↑k : Int) < (16 : Int)) = true → (hasB v (↑k : Int) = true → List.length (vl v k) + List.length [(↑k : Int)] ≤ (1000000 : Nat) ∧ k < (16 : Nat) ∧ True ∧ Value.int IntKind.i64 (wrap64 ((↑k : Int) + (1 : Int))) = Value.int IntKind.i64 (↑(k + (1 : Nat)) : Int) ∧ True ∧ vl v k ++ [(↑k : Int)] = vl v (k + (1 : Nat))) ∧ (hasB v (↑k : Int) = false → k < (16 : Nat) ∧ True ∧ Value.int IntKind.i64 (wrap64 ((↑k : Int) + (1 : Int))) = Value.int IntKind.i64 (↑(k + (1 : Nat)) : Int) ∧ True ∧ vl v k = vl v (k + (1 : Nat)))) ∧ (decide ((↑k : Int) < (16 : Int)) = false → Out.one (U := U) (D.mk false [CV.sl Kind.int (vl v k)]) = Out.one (U := U) (D.mk false [CV.sl Kind.int (vl v (16 : Nat))])), by kernel_rfl, ?_⟩
      refine ⟨trivial, ⟨rfl, rfl⟩, fun k hk _ => ⟨fun h => ?_, fun h => ?_⟩⟩
      · have h := of_decide_eq_true h
        have hk2 : k < 16 := by omega
        have hl := vl_length v k
        rw [w64 (x := (k : Int) + 1) (by omega)]
        refine ⟨fun c => ⟨by show _ + 1 ≤ _; omega, hk2, trivial, rfl, trivial, ?_⟩, fun c => ⟨hk2, trivial, rfl, trivial, ?_⟩⟩
        · exact (vl_yes c).symm
        · exact (vl_no c).symm
      · have h := of_decide_eq_false h
        have : k = 16 := by omega
        subst this; rfl
    · cases hg

def rCount_S : RX.Spec U := fun
  | [⟨false, [.v (.int .i64 v)]⟩] => some ⟨none, (.one ⟨false, [.v (.int .i64 (((vl v 16).length : Int)))]⟩)⟩
  | _ => none

theorem rCount_ok : ConOk Tryd.prog U GV 41 rCount_S :=
  fn_go gs ty glok (conCons rList_ok conNil) Tryd.func41 (by kernel_rfl) fun ds r hg hp => by
    unfold rCount_S at hg
    split at hg
    · rename_i v
      cases hg
      refine ⟨fun _ _ => none, Out.one (U := U) (D.mk false [CV.v (Value.int IntKind.i64 (↑(List.length (vl v (16 : Nat))) : Int))]) = Out.one (U := U) (D.mk false [CV.v (Value.int IntKind.i64 (↑(List.length (vl v (16 : Nat))) : Int))]), by kernel_rfl, ?_⟩
      rfl
    · cases hg

def intsEq (l m : List Int) : Bool := decide (l = m)
def rInts_S : RX.Spec U := fun
  | [⟨false, [.sl .int l]⟩, ⟨false, [.sl .int m]⟩] => some ⟨some (l.length ≤ 1000000), (.one ⟨false, [.v (.bool (intsEq l m))]⟩)⟩
  | _ => none

theorem rInts_ok : ConOk Tryd.prog U GV 50 rInts_S :=
  fn_go gs ty glok conNil Tryd.func50 (by kernel_rfl) fun ds r hg hp => by
    unfold rInts_S at hg
    split at hg
    · rename_i l m
      obtain ⟨l, rfl⟩ : ∃ q_ : List Int, q_ = l := ⟨l, rfl⟩
      obtain ⟨m, rfl⟩ : ∃ q_ : List Int, q_ = m := ⟨m, rfl⟩
      cases hg
      replace hp : (l.length ≤ 1000000) := hp
      refine ⟨fun st key => if key = 4 then some { N := l.length, mods := fun k => [.tv 5 (.int .i64 (k : Int))], inv := fun k => l.take k = m.take k } else none, (((↑(List.length l) : Int) != (↑(List.length m) : Int)) = true → Out.one (U := U) (D.mk false [CV.v (Value.bool false)]) = Out.one (U := U) (D.mk false [CV.v (Value.bool (intsEq l m))])) ∧ (((↑(List.length l) : Int) != (↑(List.length m) : Int)) = false → List.take (0 : Nat) l = List.take (0 : Nat) m ∧ Value.int IntKind.i64 (0 : Int) = Value.int IntKind.i64 (0 : Int) ∧ ∀ (k : Nat), k ≤ List.length l → List.take k l = List.take k m → (decide ((↑k : Int) < (↑(List.length l) : Int)) = true → ((0 : Int) ≤ (↑k : Int) ∧ (↑k : Int) < (↑(List.length l) : Int)) ∧ ((0 : Int) ≤ (↑k : Int) ∧ (↑k : Int) < (↑(List.length m) : Int)) ∧ ((List.getD l (Int.toNat (↑k : Int)) (d_int) != List.getD m (Int.toNat (↑k : Int)) (d_int)) = true → Out.one (U := U) (D.mk false [CV.v (Value.bool false)]) = Out.one (U := U) (D.mk false [CV.v (Value.bool (intsEq l m))])) ∧ ((List.getD l (Int.toNat (↑k : Int)) (d_int) != List.getD m (Int.toNat (↑k : Int)) (d_int)) = false → k < List.length l ∧ List.take (k + (1 : Nat)) l = List.take (k + (1 : Nat)) m ∧ Value.int IntKind.i64 (wrap64 ((↑k : Int) + (1 : Int))) = Value.int IntKind.i64 (↑(k + (1 : Nat)) : Int))) ∧ (decide ((↑k : Int) < (↑(List.length l) : Int)) = false → Out.one (U := U) (D.mk false [CV.v (Value.bool true)]) = Out.one (U := U) (D.mk false [CV.v (Value.bool (intsEq l m))]))), by kernel_rfl, ?_⟩
      refine ⟨fun h => ?_, fun h => ⟨rfl, rfl, fun k hk hik => ⟨fun hlt => ?_, fun hge => ?_⟩⟩⟩
      · have hne : ¬ l = m := fun e => by subst e; simp at h
        simp only [Out.one.injEq, Out.tup.injEq, D.mk.injEq, List.cons.injEq, CV.v.injEq, CV.sl.injEq, Value.bool.injEq, Value.int.injEq, Value.string.injEq, and_true, true_and, heq_eq_eq]
        exact (decide_eq_false hne).symm
      · have hlt : k < l.length := by have := of_decide_eq_true hlt; omega
        have hll : l.length = m.length := by
          have : ((l.length : Int) == (m.length : Int)) = true := by rw [bne, Bool.not_eq_false'] at h; exact h
          have := eq_of_beq this
          omega
        rw [getD_at l k _ hlt, getD_at m k _ (by omega)]
        refine ⟨by omega, by omega, fun ho => ?_, fun ho => ⟨hlt, ?_, ?_⟩⟩
        · have hne : ¬ l = m := fun e => by subst e; simp at ho
          simp only [Out.one.injEq, Out.tup.injEq, D.mk.injEq, List.cons.injEq, CV.v.injEq, CV.sl.injEq, Value.bool.injEq, Value.int.injEq, Value.string.injEq, and_true, true_and, heq_eq_eq]
          exact (decide_eq_false hne).symm
        · have hx : l[k] = m[k] := by simpa using ho
          rw [List.take_succ_eq_append_getElem hlt, List.take_succ_eq_append_getElem (by omega), hik, hx]
        · rw [w64 (by omega)]; rfl
      · have hge := of_decide_eq_false hge
        have hll : l.length = m.length := by
          have : ((l.length : Int) == (m.length : Int)) = true := by rw [bne, Bool.not_eq_false'] at h; exact h
          have := eq_of_beq this
          omega
        have e1 : l.take k = l := List.take_of_length_le (by omega)
        have e2 : m.take k = m := List.take_of_length_le (by omega)
        rw [e1, e2] at hik
        simp only [Out.one.injEq, Out.tup.injEq, D.mk.injEq, List.cons.injEq, CV.v.injEq, CV.sl.injEq, Value.bool.injEq, Value.int.injEq, Value.string.injEq, and_true, true_and, heq_eq_eq]
        exact (decide_eq_true hik).symm
    · cases hg

end Go.Proofs.YtdpoimomipdgjaaDoor.X
