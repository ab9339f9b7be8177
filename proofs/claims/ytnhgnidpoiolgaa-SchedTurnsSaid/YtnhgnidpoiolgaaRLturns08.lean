/- In each round each node has one slot, and its slots come as many ticks apart as a round has. -/
import Derived.Test.YtnhgnidpoiolgaaRFacts08
namespace Go.Proofs.Ytnhgnidpoiolgaa.X
open Go Go.RX Go.RowKit Go.Proofs
set_option linter.unusedVariables false
set_option linter.unusedSimpArgs false
set_option maxHeartbeats 4000000
def allV : Nat → Int
  | 0 => 0
  | k + 1 => withB (allV k) (k : Int)
def metV (l : List Slot) : Nat → Int
  | 0 => 0
  | k + 1 => withB (metV l k) (idxS l (k : Int) : Int)
theorem withB_rng (v a : Int) : 0 ≤ withB v a ∧ withB v a < 65536 := by
  unfold withB
  by_cases ha : 0 ≤ a ∧ a ≤ 15
  · rw [decide_eq_true ha, Bool.true_and]
    obtain ⟨m, rfl⟩ := Int.eq_ofNat_of_zero_le ha.1
    have hm : m ≤ 15 := by omega
    have hlt : (v % 65536).toNat < 65536 := by omega
    have e0 := hasB_nat v (v % 65536).toNat m hm (by omega)
    rw [Nat.mod_eq_of_lt hlt] at e0
    rw [e0, show (Int.toNat ((m : Nat) : Int)) = m from rfl]
    cases c : (v % 65536).toNat.testBit m with
    | true => rw [if_neg (by decide)]; omega
    | false =>
      rw [if_pos (by decide)]
      have h1 := or_add_pow _ _ hlt hm c
      have h2 : (v % 65536).toNat ||| 2 ^ m < 65536 := by
        have : (2 : Nat) ^ m < 2 ^ 16 := Nat.pow_lt_pow_right (by omega) (by omega)
        exact Nat.or_lt_two_pow (n := 16) hlt this
      have hpi : ((2 : Int) ^ m) = ((2 ^ m : Nat) : Int) := by simp
      rw [hpi]; omega
  · rw [decide_eq_false ha, Bool.false_and, if_neg (by decide)]; omega
theorem vec_ext {u v : Int} (hu : 0 ≤ u ∧ u < 65536) (hv : 0 ≤ v ∧ v < 65536) (h : ∀ m : Nat, m ≤ 15 → hasB u (m : Int) = hasB v (m : Int)) : u = v := by
  have e : u.toNat = v.toNat := by
    apply Nat.eq_of_testBit_eq
    intro i
    by_cases c : i ≤ 15
    · have a := hasB_nat u u.toNat i c (by omega)
      have b := hasB_nat v v.toNat i c (by omega)
      rw [Nat.mod_eq_of_lt (by omega)] at a b
      rw [← a, ← b, h i c]
    · have hp : (2 : Nat) ^ 16 ≤ 2 ^ i := Nat.pow_le_pow_right (by omega) (by omega)
      rw [Nat.testBit_lt_two_pow (by omega), Nat.testBit_lt_two_pow (by omega)]
  omega
theorem allV_rng : ∀ k, 0 ≤ allV k ∧ allV k < 65536
  | 0 => by decide
  | k + 1 => withB_rng ..
theorem metV_rng (l : List Slot) : ∀ k, 0 ≤ metV l k ∧ metV l k < 65536
  | 0 => ⟨Int.le_refl _, by show (0 : Int) < 65536; decide⟩
  | k + 1 => withB_rng ..
theorem vecK_rng (l : List Slot) : ∀ k, 0 ≤ vecK l k ∧ vecK l k < 65536
  | 0 => ⟨Int.le_refl _, by show (0 : Int) < 65536; decide⟩
  | k + 1 => withB_rng ..
theorem allV_has (x : Int) : ∀ k, k ≤ 16 → hasB (allV k) x = decide (0 ≤ x ∧ x < (k : Int))
  | 0, _ => by rw [decide_eq_false (by omega)]; exact hasB_zero8 x
  | k + 1, h => by
    rw [allV, hasB_with8, allV_has x k (by omega), decide_eq_true (show 0 ≤ (k : Int) ∧ (k : Int) ≤ 15 by omega), Bool.and_true, Bool.eq_iff_iff]
    simp only [Bool.or_eq_true, decide_eq_true_eq]
    omega
theorem metV_has (l : List Slot) (x : Int) : ∀ k : Nat, (∀ j : Nat, j < k → idxS l (j : Int) < 16) → (hasB (metV l k) x = true ↔ ∃ j : Nat, j < k ∧ (idxS l (j : Int) : Int) = x)
  | 0, _ => by
    have : hasB (metV l 0) x = false := hasB_zero8 x
    rw [this]
    exact ⟨fun h => (by cases h), fun ⟨j, hj, _⟩ => absurd hj (Nat.not_lt_zero _)⟩
  | k + 1, h => by
    have ih := metV_has l x k fun j hj => h j (by omega)
    have hk := h k (by omega)
    rw [metV, hasB_with8, decide_eq_true (show 0 ≤ (idxS l (k : Int) : Int) ∧ (idxS l (k : Int) : Int) ≤ 15 by omega), Bool.and_true, Bool.or_eq_true, ih, decide_eq_true_eq]
    constructor
    · rintro (⟨j, hj, e⟩ | e)
      · exact ⟨j, by omega, e⟩
      · exact ⟨k, by omega, e.symm⟩
    · rintro ⟨j, hj, e⟩
      by_cases c : j = k
      · subst c; exact .inr e.symm
      · exact .inl ⟨j, by omega, e⟩
theorem idxS_spec : ∀ {l : List Slot} {x : Int}, (∃ i, i < l.length ∧ (l.getD i d_slot).node = x) → idxS l x < l.length ∧ (l.getD (idxS l x) d_slot).node = x
  | [], x, ⟨i, hi, _⟩ => absurd hi (Nat.not_lt_zero _)
  | y :: r, x, ⟨i, hi, e⟩ => by
    unfold idxS
    by_cases c : y.node = x
    · rw [if_pos c]; exact ⟨Nat.zero_lt_succ _, c⟩
    · rw [if_neg c]
      cases i with
      | zero => exact absurd e c
      | succ i =>
        have ih := idxS_spec (l := r) (x := x) ⟨i, Nat.lt_of_succ_lt_succ hi, e⟩
        exact ⟨Nat.succ_lt_succ ih.1, ih.2⟩
theorem planL_nodes (many : Int) (ticks : List Int) (turn : Int) : (∀ i, i < (planL many ticks turn).length → 0 ≤ ((planL many ticks turn).getD i d_slot).node ∧ ((planL many ticks turn).getD i d_slot).node < ((planL many ticks turn).length : Int)) ∧ ∀ k, k < (planL many ticks turn).length → ∃ i, i < (planL many ticks turn).length ∧ ((planL many ticks turn).getD i d_slot).node = (k : Int) := by
  have hn := planN_rng many
  have hl := planL_len many ticks turn
  have hm := pickI_rng turn (planN many) (by omega)
  constructor
  · intro i hi
    rw [planL_get many ticks turn hi, hl]
    show 0 ≤ ((i : Int) + pickI turn (planN many)) % planN many ∧ ((i : Int) + pickI turn (planN many)) % planN many < _
    have a := Int.emod_nonneg ((i : Int) + pickI turn (planN many)) (show planN many ≠ 0 by omega)
    have b := Int.emod_lt_of_pos ((i : Int) + pickI turn (planN many)) (show 0 < planN many by omega)
    omega
  · intro k hk
    have a := Int.emod_nonneg ((k : Int) - pickI turn (planN many)) (show planN many ≠ 0 by omega)
    have b := Int.emod_lt_of_pos ((k : Int) - pickI turn (planN many)) (show 0 < planN many by omega)
    have hi : (((k : Int) - pickI turn (planN many)) % planN many).toNat < (planL many ticks turn).length := by omega
    refine ⟨_, hi, ?_⟩
    rw [planL_get many ticks turn hi]
    show ((((((k : Int) - pickI turn (planN many)) % planN many).toNat : Nat) : Int) + pickI turn (planN many)) % planN many = (k : Int)
    rw [Int.toNat_of_nonneg a, Int.emod_add_emod, Int.sub_add_cancel, Int.emod_eq_of_lt (by omega) (by omega)]
theorem idx_uniq {l : List Slot} {cy : Int} (hpl : planR l cy = true) {i j : Nat} (hi : i < l.length) (hj : j < l.length) (h : (l.getD i d_slot).node = (l.getD j d_slot).node) : i = j := by
  rcases Nat.lt_trichotomy i j with c | c | c
  · exact absurd h (fresh_is (slotR_is (slots_of hpl j hj)).2.2 c hi)
  · exact c
  · exact absurd h.symm (fresh_is (slotR_is (slots_of hpl i hi)).2.2 c hj)
theorem beg_round {l : List Slot} {j : Int} (hl : 1 ≤ l.length) : begO l (j + (l.length : Int)) = begO l j + sumK l l.length ∧ (j + (l.length : Int)) % (l.length : Int) = j % (l.length : Int) := by
  have e : j + (l.length : Int) = j + 1 * (l.length : Int) := by omega
  have q1 : (j + (l.length : Int)) / (l.length : Int) = j / (l.length : Int) + 1 := by
    conv => lhs; rw [e]
    exact Int.add_mul_ediv_right _ _ (by omega)
  have q2 : (j + (l.length : Int)) % (l.length : Int) = j % (l.length : Int) := by
    conv => lhs; rw [e]
    exact Int.add_mul_emod_self_right ..
  unfold begO
  rw [q1, q2, Int.add_mul, Int.one_mul]
  exact ⟨by omega, rfl⟩
def rAll_S : RX.Spec U := fun
  | [⟨false, [.v (.int .i64 n)]⟩] => some ⟨some (0 ≤ n ∧ n ≤ 16), (.one ⟨false, [.v (.int .i64 (allV n.toNat))]⟩)⟩
  | _ => none

theorem rAll_ok : ConOk Try.prog U GV 28 rAll_S :=
  fn_go gs ty glok (conCons rWith_ok conNil) Try.func28 (by kernel_rfl) fun ds r hg hp => by
    unfold rAll_S at hg
    split at hg
    · rename_i n
      cases hg
      replace hp : (0 ≤ n ∧ n ≤ 16) := hp
      refine ⟨fun st key => if key = 3 then some { N := n.toNat, mods := fun k => [.tv 4 (.int .i64 (k : Int)), .tv 3 (.int .i64 (allV k))] } else none, True ∧ (Value.int IntKind.i64 (0 : Int) = Value.int IntKind.i64 (0 : Int) ∧ Value.int IntKind.i64 (0 : Int) = Value.int IntKind.i64 (0 : Int)) ∧ ∀ (k : Nat), k ≤ Int.toNat n → True → ((decide ((↑k : Int) < n) && decide ((↑k : Int) < (16 : Int))) = true → k < Int.toNat n ∧ True ∧ Value.int IntKind.i64 (wrap64 ((↑k : Int) + (1 : Int))) = Value.int IntKind.i64 (↑(k + (1 : Nat)) : Int) ∧ Value.int IntKind.i64 (withB (allV k) (↑k : Int)) = Value.int IntKind.i64 (allV (k + (1 : Nat)))) ∧ ((decide ((↑k : Int) < n) && decide ((↑k : Int) < (16 : Int))) = false → Out.one (U := U) (D.mk false [CV.v (Value.int IntKind.i64 (allV k))]) = Out.one (U := U) (D.mk false [CV.v (Value.int IntKind.i64 (allV (Int.toNat n)))])), by kernel_rfl, ?_⟩
      refine ⟨trivial, ⟨rfl, rfl⟩, fun k hk _ => ⟨fun hlt => ?_, fun hge => ?_⟩⟩
      · simp only [Bool.and_eq_true, decide_eq_true_eq] at hlt
        exact ⟨by omega, trivial, by rw [w64 (by omega)]; rfl, rfl⟩
      · simp only [Bool.and_eq_false_iff, decide_eq_false_iff_not] at hge
        have hk2 : k = n.toNat := by omega
        subst hk2; rfl
    · cases hg

def Turns8_S : RX.Spec U := fun
  | [⟨false, [.v (.int .i64 many)]⟩, ⟨false, [.sl .int ticks]⟩, ⟨false, [.v (.int .i64 turn)]⟩, ⟨false, [.v (.int .i64 cycle)]⟩, ⟨false, [.v (.int .i64 time)]⟩] => some ⟨some (((in64 many ∧ in64 turn ∧ in64 cycle ∧ ∀ x ∈ ticks, in64 x) ∧ in64 time)), (.one ⟨false, [.v (.bool true)]⟩)⟩
  | _ => none

theorem Turns8_ok : ConOk Try.prog U GV 5 Turns8_S :=
  fn_go gs ty glok (conCons awake08_ok (conCons plan08_ok (conCons pick08_ok (conCons sRound_ok (conCons sNodes_ok (conCons sSlot_ok (conCons sAt_ok (conCons sTime_ok (conCons sLater_ok (conCons rHas_ok (conCons rWith_ok (conCons rAll_ok conNil)))))))))))) Try.func5 (by kernel_rfl) fun ds r hg hp => by
    unfold Turns8_S at hg
    split at hg
    · rename_i many ticks turn cycle time
      obtain ⟨ticks, rfl⟩ : ∃ q_ : List Int, q_ = ticks := ⟨ticks, rfl⟩
      cases hg
      replace hp : (((in64 many ∧ in64 turn ∧ in64 cycle ∧ ∀ x ∈ ticks, in64 x) ∧ in64 time)) := hp
      refine ⟨fun st key => if key = 10 then some { N := (planL many ticks turn).length, mods := fun k => [.tv 18 (.int .i64 (k : Int)), .tv 17 (.int .i64 (metV (planL many ticks turn) k))] } else none, (((-9223372036854775808 : Int) ≤ many ∧ many ≤ (9223372036854775807 : Int)) ∧ ((-9223372036854775808 : Int) ≤ turn ∧ turn ≤ (9223372036854775807 : Int)) ∧ ((-9223372036854775808 : Int) ≤ cycle ∧ cycle ≤ (9223372036854775807 : Int)) ∧ ∀ (x : Int), List.Mem x ticks → (-9223372036854775808 : Int) ≤ x ∧ x ≤ (9223372036854775807 : Int)) ∧ List.length (planL many ticks turn) ≤ (1000000 : Nat) ∧ (((-9223372036854775808 : Int) ≤ time ∧ time ≤ (9223372036854775807 : Int)) ∧ (0 : Int) < (549755813888 : Int) ∧ (549755813888 : Int) ≤ (1099511627776 : Int)) ∧ List.length (planL many ticks turn) ≤ (1000000 : Nat) ∧ ((er1 (atB (planL many ticks turn) (planC cycle) (pickI time (549755813888 : Int))) != (0 : Int) || decide (roundS (planL many ticks turn) (planC cycle) < (↑(List.length (planL many ticks turn)) : Int))) = true → Out.one (U := U) (D.mk false [CV.v (Value.bool false)]) = Out.one (U := U) (D.mk false [CV.v (Value.bool true)])) ∧ ((er1 (atB (planL many ticks turn) (planC cycle) (pickI time (549755813888 : Int))) != (0 : Int) || decide (roundS (planL many ticks turn) (planC cycle) < (↑(List.length (planL many ticks turn)) : Int))) = false → True ∧ (Value.int IntKind.i64 (0 : Int) = Value.int IntKind.i64 (0 : Int) ∧ Value.int IntKind.i64 (0 : Int) = Value.int IntKind.i64 (metV (planL many ticks turn) (0 : Nat))) ∧ ∀ (k : Nat), k ≤ List.length (planL many ticks turn) → True → (decide ((↑k : Int) < (↑(List.length (planL many ticks turn)) : Int)) = true → List.length (planL many ticks turn) ≤ (1000000 : Nat) ∧ ((!(!slotB (planL many ticks turn) (planC cycle) (↑k : Int) || decide (slotI (planL many ticks turn) (planC cycle) (↑k : Int) < (0 : Int)) || decide ((↑(List.length (planL many ticks turn)) : Int) ≤ slotI (planL many ticks turn) (planC cycle) (↑k : Int)) || hasB (metV (planL many ticks turn) k) (slotI (planL many ticks turn) (planC cycle) (↑k : Int)))) = true → (0 : Int) ≤ slotI (planL many ticks turn) (planC cycle) (↑k : Int) ∧ slotI (planL many ticks turn) (planC cycle) (↑k : Int) < (↑(List.length (planL many ticks turn)) : Int)) ∧ ((!slotB (planL many ticks turn) (planC cycle) (↑k : Int) || decide (slotI (planL many ticks turn) (planC cycle) (↑k : Int) < (0 : Int)) || decide ((↑(List.length (planL many ticks turn)) : Int) ≤ slotI (planL many ticks turn) (planC cycle) (↑k : Int)) || hasB (metV (planL many ticks turn) k) (slotI (planL many ticks turn) (planC cycle) (↑k : Int)) || Slot.node (List.getD (planL many ticks turn) (Int.toNat (slotI (planL many ticks turn) (planC cycle) (↑k : Int))) (d_slot)) != (↑k : Int)) = true → Out.one (U := U) (D.mk false [CV.v (Value.bool false)]) = Out.one (U := U) (D.mk false [CV.v (Value.bool true)])) ∧ ((!slotB (planL many ticks turn) (planC cycle) (↑k : Int) || decide (slotI (planL many ticks turn) (planC cycle) (↑k : Int) < (0 : Int)) || decide ((↑(List.length (planL many ticks turn)) : Int) ≤ slotI (planL many ticks turn) (planC cycle) (↑k : Int)) || hasB (metV (planL many ticks turn) k) (slotI (planL many ticks turn) (planC cycle) (↑k : Int)) || Slot.node (List.getD (planL many ticks turn) (Int.toNat (slotI (planL many ticks turn) (planC cycle) (↑k : Int))) (d_slot)) != (↑k : Int)) = false → List.length (planL many ticks turn) ≤ (1000000 : Nat) ∧ List.length (planL many ticks turn) ≤ (1000000 : Nat) ∧ List.length (planL many ticks turn) ≤ (1000000 : Nat) ∧ ((er1 (timeB (planL many ticks turn) (planC cycle) (Spot.cycle (atS (planL many ticks turn) (planC cycle) (pickI time (549755813888 : Int)))) (Spot.round (atS (planL many ticks turn) (planC cycle) (pickI time (549755813888 : Int)))) (slotI (planL many ticks turn) (planC cycle) (↑k : Int)) (0 : Int)) != (0 : Int) || er1 (laterB (planL many ticks turn) (planC cycle) (Spot.cycle (atS (planL many ticks turn) (planC cycle) (pickI time (549755813888 : Int)))) (Spot.round (atS (planL many ticks turn) (planC cycle) (pickI time (549755813888 : Int)))) (slotI (planL many ticks turn) (planC cycle) (↑k : Int)) (0 : Int) (↑(List.length (planL many ticks turn)) : Int)) != (0 : Int) || er1 (timeB (planL many ticks turn) (planC cycle) (Spot.cycle (laterS (planL many ticks turn) (planC cycle) (Spot.cycle (atS (planL many ticks turn) (planC cycle) (pickI time (549755813888 : Int)))) (Spot.round (atS (planL many ticks turn) (planC cycle) (pickI time (549755813888 : Int)))) (slotI (planL many ticks turn) (planC cycle) (↑k : Int)) (0 : Int) (↑(List.length (planL many ticks turn)) : Int))) (Spot.round (laterS (planL many ticks turn) (planC cycle) (Spot.cycle (atS (planL many ticks turn) (planC cycle) (pickI time (549755813888 : Int)))) (Spot.round (atS (planL many ticks turn) (planC cycle) (pickI time (549755813888 : Int)))) (slotI (planL many ticks turn) (planC cycle) (↑k : Int)) (0 : Int) (↑(List.length (planL many ticks turn)) : Int))) (Spot.slot (laterS (planL many ticks turn) (planC cycle) (Spot.cycle (atS (planL many ticks turn) (planC cycle) (pickI time (549755813888 : Int)))) (Spot.round (atS (planL many ticks turn) (planC cycle) (pickI time (549755813888 : Int)))) (slotI (planL many ticks turn) (planC cycle) (↑k : Int)) (0 : Int) (↑(List.length (planL many ticks turn)) : Int))) (Spot.tick (laterS (planL many ticks turn) (planC cycle) (Spot.cycle (atS (planL many ticks turn) (planC cycle) (pickI time (549755813888 : Int)))) (Spot.round (atS (planL many ticks turn) (planC cycle) (pickI time (549755813888 : Int)))) (slotI (planL many ticks turn) (planC cycle) (↑k : Int)) (0 : Int) (↑(List.length (planL many ticks turn)) : Int)))) != (0 : Int) || timeI (planL many ticks turn) (planC cycle) (Spot.cycle (laterS (planL many ticks turn) (planC cycle) (Spot.cycle (atS (planL many ticks turn) (planC cycle) (pickI time (549755813888 : Int)))) (Spot.round (atS (planL many ticks turn) (planC cycle) (pickI time (549755813888 : Int)))) (slotI (planL many ticks turn) (planC cycle) (↑k : Int)) (0 : Int) (↑(List.length (planL many ticks turn)) : Int))) (Spot.round (laterS (planL many ticks turn) (planC cycle) (Spot.cycle (atS (planL many ticks turn) (planC cycle) (pickI time (549755813888 : Int)))) (Spot.round (atS (planL many ticks turn) (planC cycle) (pickI time (549755813888 : Int)))) (slotI (planL many ticks turn) (planC cycle) (↑k : Int)) (0 : Int) (↑(List.length (planL many ticks turn)) : Int))) (Spot.slot (laterS (planL many ticks turn) (planC cycle) (Spot.cycle (atS (planL many ticks turn) (planC cycle) (pickI time (549755813888 : Int)))) (Spot.round (atS (planL many ticks turn) (planC cycle) (pickI time (549755813888 : Int)))) (slotI (planL many ticks turn) (planC cycle) (↑k : Int)) (0 : Int) (↑(List.length (planL many ticks turn)) : Int))) (Spot.tick (laterS (planL many ticks turn) (planC cycle) (Spot.cycle (atS (planL many ticks turn) (planC cycle) (pickI time (549755813888 : Int)))) (Spot.round (atS (planL many ticks turn) (planC cycle) (pickI time (549755813888 : Int)))) (slotI (planL many ticks turn) (planC cycle) (↑k : Int)) (0 : Int) (↑(List.length (planL many ticks turn)) : Int))) != wrap64 (timeI (planL many ticks turn) (planC cycle) (Spot.cycle (atS (planL many ticks turn) (planC cycle) (pickI time (549755813888 : Int)))) (Spot.round (atS (planL many ticks turn) (planC cycle) (pickI time (549755813888 : Int)))) (slotI (planL many ticks turn) (planC cycle) (↑k : Int)) (0 : Int) + roundS (planL many ticks turn) (planC cycle)) || Spot.slot (laterS (planL many ticks turn) (planC cycle) (Spot.cycle (atS (planL many ticks turn) (planC cycle) (pickI time (549755813888 : Int)))) (Spot.round (atS (planL many ticks turn) (planC cycle) (pickI time (549755813888 : Int)))) (slotI (planL many ticks turn) (planC cycle) (↑k : Int)) (0 : Int) (↑(List.length (planL many ticks turn)) : Int)) != slotI (planL many ticks turn) (planC cycle) (↑k : Int) || Spot.tick (laterS (planL many ticks turn) (planC cycle) (Spot.cycle (atS (planL many ticks turn) (planC cycle) (pickI time (549755813888 : Int)))) (Spot.round (atS (planL many ticks turn) (planC cycle) (pickI time (549755813888 : Int)))) (slotI (planL many ticks turn) (planC cycle) (↑k : Int)) (0 : Int) (↑(List.length (planL many ticks turn)) : Int)) != (0 : Int)) = true → Out.one (U := U) (D.mk false [CV.v (Value.bool false)]) = Out.one (U := U) (D.mk false [CV.v (Value.bool true)])) ∧ ((er1 (timeB (planL many ticks turn) (planC cycle) (Spot.cycle (atS (planL many ticks turn) (planC cycle) (pickI time (549755813888 : Int)))) (Spot.round (atS (planL many ticks turn) (planC cycle) (pickI time (549755813888 : Int)))) (slotI (planL many ticks turn) (planC cycle) (↑k : Int)) (0 : Int)) != (0 : Int) || er1 (laterB (planL many ticks turn) (planC cycle) (Spot.cycle (atS (planL many ticks turn) (planC cycle) (pickI time (549755813888 : Int)))) (Spot.round (atS (planL many ticks turn) (planC cycle) (pickI time (549755813888 : Int)))) (slotI (planL many ticks turn) (planC cycle) (↑k : Int)) (0 : Int) (↑(List.length (planL many ticks turn)) : Int)) != (0 : Int) || er1 (timeB (planL many ticks turn) (planC cycle) (Spot.cycle (laterS (planL many ticks turn) (planC cycle) (Spot.cycle (atS (planL many ticks turn) (planC cycle) (pickI time (549755813888 : Int)))) (Spot.round (atS (planL many ticks turn) (planC cycle) (pickI time (549755813888 : Int)))) (slotI (planL many ticks turn) (planC cycle) (↑k : Int)) (0 : Int) (↑(List.length (planL many ticks turn)) : Int))) (Spot.round (laterS (planL many ticks turn) (planC cycle) (Spot.cycle (atS (planL many ticks turn) (planC cycle) (pickI time (549755813888 : Int)))) (Spot.round (atS (planL many ticks turn) (planC cycle) (pickI time (549755813888 : Int)))) (slotI (planL many ticks turn) (planC cycle) (↑k : Int)) (0 : Int) (↑(List.length (planL many ticks turn)) : Int))) (Spot.slot (laterS (planL many ticks turn) (planC cycle) (Spot.cycle (atS (planL many ticks turn) (planC cycle) (pickI time (549755813888 : Int)))) (Spot.round (atS (planL many ticks turn) (planC cycle) (pickI time (549755813888 : Int)))) (slotI (planL many ticks turn) (planC cycle) (↑k : Int)) (0 : Int) (↑(List.length (planL many ticks turn)) : Int))) (Spot.tick (laterS (planL many ticks turn) (planC cycle) (Spot.cycle (atS (planL many ticks turn) (planC cycle) (pickI time (549755813888 : Int)))) (Spot.round (atS (planL many ticks turn) (planC cycle) (pickI time (549755813888 : Int)))) (slotI (planL many ticks turn) (planC cycle) (↑k : Int)) (0 : Int) (↑(List.length (planL many ticks turn)) : Int)))) != (0 : Int) || timeI (planL many ticks turn) (planC cycle) (Spot.cycle (laterS (planL many ticks turn) (planC cycle) (Spot.cycle (atS (planL many ticks turn) (planC cycle) (pickI time (549755813888 : Int)))) (Spot.round (atS (planL many ticks turn) (planC cycle) (pickI time (549755813888 : Int)))) (slotI (planL many ticks turn) (planC cycle) (↑k : Int)) (0 : Int) (↑(List.length (planL many ticks turn)) : Int))) (Spot.round (laterS (planL many ticks turn) (planC cycle) (Spot.cycle (atS (planL many ticks turn) (planC cycle) (pickI time (549755813888 : Int)))) (Spot.round (atS (planL many ticks turn) (planC cycle) (pickI time (549755813888 : Int)))) (slotI (planL many ticks turn) (planC cycle) (↑k : Int)) (0 : Int) (↑(List.length (planL many ticks turn)) : Int))) (Spot.slot (laterS (planL many ticks turn) (planC cycle) (Spot.cycle (atS (planL many ticks turn) (planC cycle) (pickI time (549755813888 : Int)))) (Spot.round (atS (planL many ticks turn) (planC cycle) (pickI time (549755813888 : Int)))) (slotI (planL many ticks turn) (planC cycle) (↑k : Int)) (0 : Int) (↑(List.length (planL many ticks turn)) : Int))) (Spot.tick (laterS (planL many ticks turn) (planC cycle) (Spot.cycle (atS (planL many ticks turn) (planC cycle) (pickI time (549755813888 : Int)))) (Spot.round (atS (planL many ticks turn) (planC cycle) (pickI time (549755813888 : Int)))) (slotI (planL many ticks turn) (planC cycle) (↑k : Int)) (0 : Int) (↑(List.length (planL many ticks turn)) : Int))) != wrap64 (timeI (planL many ticks turn) (planC cycle) (Spot.cycle (atS (planL many ticks turn) (planC cycle) (pickI time (549755813888 : Int)))) (Spot.round (atS (planL many ticks turn) (planC cycle) (pickI time (549755813888 : Int)))) (slotI (planL many ticks turn) (planC cycle) (↑k : Int)) (0 : Int) + roundS (planL many ticks turn) (planC cycle)) || Spot.slot (laterS (planL many ticks turn) (planC cycle) (Spot.cycle (atS (planL many ticks turn) (planC cycle) (pickI time (549755813888 : Int)))) (Spot.round (atS (planL many ticks turn) (planC cycle) (pickI time (549755813888 : Int)))) (slotI (planL many ticks turn) (planC cycle) (↑k : Int)) (0 : Int) (↑(List.length (planL many ticks turn)) : Int)) != slotI (planL many ticks turn) (planC cycle) (↑k : Int) || Spot.tick (laterS (planL many ticks turn) (planC cycle) (Spot.cycle (atS (planL many ticks turn) (planC cycle) (pickI time (549755813888 : Int)))) (Spot.round (atS (planL many ticks turn) (planC cycle) (pickI time (549755813888 : Int)))) (slotI (planL many ticks turn) (planC cycle) (↑k : Int)) (0 : Int) (↑(List.length (planL many ticks turn)) : Int)) != (0 : Int)) = false → k < List.length (planL many ticks turn) ∧ True ∧ Value.int IntKind.i64 (wrap64 ((↑k : Int) + (1 : Int))) = Value.int IntKind.i64 (↑(k + (1 : Nat)) : Int) ∧ Value.int IntKind.i64 (withB (metV (planL many ticks turn) k) (slotI (planL many ticks turn) (planC cycle) (↑k : Int))) = Value.int IntKind.i64 (metV (planL many ticks turn) (k + (1 : Nat)))))) ∧ (decide ((↑k : Int) < (↑(List.length (planL many ticks turn)) : Int)) = false → (true = true → List.length (planL many ticks turn) ≤ (1000000 : Nat)) ∧ (true = true → (0 : Int) ≤ (↑(List.length (planL many ticks turn)) : Int) ∧ (↑(List.length (planL many ticks turn)) : Int) ≤ (16 : Int)) ∧ ((true && vecK (planL many ticks turn) (List.length (planL many ticks turn)) == allV (Int.toNat (↑(List.length (planL many ticks turn)) : Int))) = true → (0 : Int) ≤ (↑(List.length (planL many ticks turn)) : Int) ∧ (↑(List.length (planL many ticks turn)) : Int) ≤ (16 : Int)) ∧ Out.one (U := U) (D.mk false [CV.v (Value.bool (true && vecK (planL many ticks turn) (List.length (planL many ticks turn)) == allV (Int.toNat (↑(List.length (planL many ticks turn)) : Int)) && metV (planL many ticks turn) k == allV (Int.toNat (↑(List.length (planL many ticks turn)) : Int))))]) = Out.one (U := U) (D.mk false [CV.v (Value.bool true)]))), by kernel_rfl, ?_⟩
      obtain ⟨hp1, hp2⟩ := hp
      have hpl := plan_right many ticks turn cycle
      obtain ⟨hnd, hsur⟩ := planL_nodes many ticks turn
      have hx := pickI_rng time 549755813888 (by decide)
      generalize planL many ticks turn = l at hpl hnd hsur
      generalize planC cycle = cy at hpl
      generalize pickI time 549755813888 = x at hx
      obtain ⟨hlen, hcy, hs⟩ := planR_is hpl
      have hl : l.length ≤ 1000000 := by omega
      obtain ⟨h1, h2⟩ := at_back hpl (t := x) (by omega)
      have hA : atB l cy x = true := by unfold atB; rw [hpl, decide_eq_true (by omega)]; rfl
      generalize atS l cy x = s at h1 h2
      obtain ⟨-, hc, hr, hi, ht⟩ := spotB_is h1
      have hR := sumK_rng hs l.length (Nat.le_refl _)
      have eR : roundS l cy = sumK l l.length := if_pos hpl
      have hN : timeN l cy s.cycle s.round s.slot s.tick = (s.cycle * cy + s.round) * sumK l l.length + sumK l s.slot.toNat + s.tick := rfl
      have hmono := sumK_rng hs s.slot.toNat (by omega)
      have hT0 := (slotR_is (hs s.slot.toNat (by omega))).2.1
      have hid : ∀ k, k < l.length → idxS l (k : Int) < l.length ∧ (l.getD (idxS l (k : Int)) d_slot).node = (k : Int) := fun k hk => idxS_spec (hsur k hk)
      have hall : vecK l l.length = allV l.length := vec_ext (vecK_rng _ _) (allV_rng _) fun m hm => by
        rw [allV_has _ _ (by omega), vec_has l (m : Int) l.length (Nat.le_refl _) (List.all_eq_true.mpr fun i hi => by
          have := hs i (List.mem_range.mp hi)
          unfold slotR at this
          exact (Bool.and_eq_true_iff.mp this).1), Bool.eq_iff_iff]
        rw [List.take_length, List.any_eq_true, decide_eq_true_eq]
        constructor
        · rintro ⟨y, hy, e⟩
          obtain ⟨i, hi, rfl⟩ := List.mem_iff_getElem.mp hy
          have := hnd i hi
          have eg : l.getD i d_slot = l[i] := by rw [List.getD_eq_getElem?_getD, List.getElem?_eq_getElem hi]; rfl
          rw [eg, of_decide_eq_true e] at this
          exact this
        · rintro ⟨_, h⟩
          obtain ⟨i, hi, e⟩ := hsur m (by omega)
          have eg : l.getD i d_slot = l[i] := by rw [List.getD_eq_getElem?_getD, List.getElem?_eq_getElem hi]; rfl
          exact ⟨l[i], List.getElem_mem hi, by rw [← eg]; exact decide_eq_true e⟩
      have hmet : metV l l.length = allV l.length := vec_ext (metV_rng _ _) (allV_rng _) fun m hm => by
        rw [allV_has _ _ (by omega), Bool.eq_iff_iff, metV_has l (m : Int) l.length (fun j hj => by have := hid j hj; omega), decide_eq_true_eq]
        constructor
        · rintro ⟨j, hj, e⟩
          have := hid j hj; omega
        · rintro ⟨_, h⟩
          have hn := hnd m (by omega)
          have hj := hid (l.getD m d_slot).node.toNat (by omega)
          have e0 : (((l.getD m d_slot).node.toNat : Nat) : Int) = (l.getD m d_slot).node := Int.toNat_of_nonneg hn.1
          refine ⟨(l.getD m d_slot).node.toNat, by omega, ?_⟩
          have := idx_uniq hpl hj.1 (show m < l.length by omega) (by rw [hj.2, e0])
          rw [this]
      rw [hA, eR]
      refine ⟨hp1, hl, ⟨hp2, by decide, by decide⟩, hl, fun h => ?_, fun _ => ⟨trivial, ⟨rfl, rfl⟩, fun k hk _ => ⟨fun hlt => ?_, fun hge => ⟨fun _ => hl, fun _ => by omega, fun _ => by omega, ?_⟩⟩⟩⟩
      · exfalso
        simp only [er1_ne, Bool.not_true, Bool.false_or, decide_eq_true_eq] at h
        omega
      · have hlt := of_decide_eq_true hlt
        have hlt : k < l.length := by omega
        obtain ⟨i1, i2⟩ := hid k hlt
        have sB : slotB l cy (k : Int) = true := by unfold slotB; rw [hpl, decide_eq_true i1]; rfl
        have sI : slotI l cy (k : Int) = (idxS l (k : Int) : Int) := if_pos sB
        have hm : hasB (metV l k) (idxS l (k : Int) : Int) = false := by
          rw [Bool.eq_false_iff]
          intro c
          obtain ⟨j, hj, e⟩ := (metV_has l _ k (fun j hj => by have := hid j (by omega); omega)).mp c
          have a := hid j (by omega)
          have : idxS l (j : Int) = idxS l (k : Int) := by omega
          rw [this, i2] at a
          have := a.2; omega
        rw [sB, sI]
        have hM1 : metV l (k + 1) = withB (metV l k) (idxS l (k : Int) : Int) := rfl
        rw [hM1, hm, Int.toNat_natCast, i2]
        generalize idxS l (k : Int) = i at i1 i2
        have hT := (slotR_is (hs i i1)).2.1
        have hI := sumK_rng hs i (by omega)
        have q1 : spotB l cy s.cycle s.round (i : Int) 0 = true := spotB_of hpl hc hr (by omega) (by rw [Int.toNat_natCast]; omega)
        obtain ⟨hJ, g1, g2, g3⟩ := spot_beg q1
        have hN1 : timeN l cy s.cycle s.round (i : Int) 0 = (s.cycle * cy + s.round) * sumK l l.length + sumK l i + 0 := rfl
        obtain ⟨t1, t2⟩ := timeB_of q1 (by omega)
        have br := beg_round (l := l) (j := idxO l cy s.cycle s.round (i : Int)) (by omega)
        have L1 := later_main q1 (n := (l.length : Int)) (by omega) (by omega) (by omega)
        have E1 := L1.2.2 (by omega)
        have e2 : idxO l cy s.cycle s.round (i : Int) % (l.length : Int) = (i : Int) := by
          unfold idxO
          rw [Int.add_comm, Int.add_mul_emod_self_right, Int.emod_eq_of_lt (by omega) (by omega)]
        rw [L1.1, E1, t1, t2]
        have bT := timeB_of (timeB_is (spotO_ok hpl (j := idxO l cy s.cycle s.round (i : Int) + (l.length : Int)) (by omega) (by omega))).1 (by rw [spotO_time]; omega)
        rw [spotO_time] at bT
        have hsl : (spotO l cy (idxO l cy s.cycle s.round (i : Int) + (l.length : Int))).slot = (i : Int) := by
          show (idxO l cy s.cycle s.round (i : Int) + (l.length : Int)) % (l.length : Int) = (i : Int)
          rw [br.2, e2]
        have htk : (spotO l cy (idxO l cy s.cycle s.round (i : Int) + (l.length : Int))).tick = 0 := rfl
        rw [htk, bT.1, bT.2, hsl, w64 (x := timeN l cy s.cycle s.round (i : Int) 0 + sumK l l.length) (by omega)]
        have hb : begO l (idxO l cy s.cycle s.round (i : Int) + (l.length : Int)) = timeN l cy s.cycle s.round (i : Int) 0 + sumK l l.length := by omega
        rw [hb]
        refine ⟨hl, fun _ => by omega, fun h => ?_, fun _ => ⟨hl, hl, hl, fun h => ?_, fun _ => ⟨hlt, trivial, by rw [w64 (by omega)]; rfl, rfl⟩⟩⟩
        · exfalso
          simp only [Bool.not_true, Bool.false_or, bne_self_eq_false, Bool.or_false, Bool.or_eq_true, decide_eq_true_eq] at h
          omega
        · exfalso
          simp only [er1_ne, Bool.not_true, Bool.false_or, bne_self_eq_false, Bool.or_false, Bool.false_eq_true] at h
      · have hge := of_decide_eq_false hge
        have hk2 : k = l.length := by omega
        subst hk2
        rw [Int.toNat_natCast, hall, hmet]
        simp only [beq_self_eq_true, Bool.and_self]
    · cases hg

end Go.Proofs.Ytnhgnidpoiolgaa.X
