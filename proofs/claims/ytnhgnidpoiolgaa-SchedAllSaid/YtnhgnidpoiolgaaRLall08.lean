/- Each tick is in one node's slot, and as many ticks of a round as that slot has. -/
import Derived.Test.YtnhgnidpoiolgaaRFacts08
namespace Go.Proofs.Ytnhgnidpoiolgaa.X
open Go Go.RX Go.RowKit Go.Proofs
set_option linter.unusedVariables false
set_option linter.unusedSimpArgs false
set_option maxHeartbeats 4000000
def fewT (x : Slot) : Slot := ⟨x.node, 1 + x.ticks % 20⟩
def fewK (l : List Slot) (k : Nat) : List Slot := (l.take k).map fewT ++ l.drop k
def hadN (l : List Slot) (k : Int) (i : Nat) : Int := if k ≤ sumK l i then 0 else if sumK l (i + 1) ≤ k then (l.getD i d_slot).ticks else k - sumK l i
def hadK (l : List Slot) (k : Int) : List Int := (List.range l.length).map (hadN l k)
theorem fewK_zero (l : List Slot) : fewK l 0 = l := rfl
theorem fewK_length (l : List Slot) (k : Nat) : (fewK l k).length = l.length := by
  unfold fewK; rw [List.length_append, List.length_map, List.length_take, List.length_drop]; omega
theorem fewK_at {l : List Slot} {k : Nat} (hk : k < l.length) : (fewK l k).getD k d_slot = l.getD k d_slot := by
  unfold fewK
  have hl : ((l.take k).map fewT).length = k := by rw [List.length_map, List.length_take]; omega
  rw [List.getD_eq_getElem?_getD, List.getElem?_append_right (by omega), hl, Nat.sub_self, List.getElem?_drop, Nat.add_zero, List.getD_eq_getElem?_getD]
theorem fewK_set {l : List Slot} {k : Nat} (hk : k < l.length) : (fewK l k).set k (fewT (l.getD k d_slot)) = fewK l (k + 1) := by
  have hl : ((l.take k).map fewT).length = k := by rw [List.length_map, List.length_take]; omega
  have eg : l.getD k d_slot = l[k] := by rw [List.getD_eq_getElem?_getD, List.getElem?_eq_getElem hk]; rfl
  unfold fewK
  rw [List.set_append_right _ _ (by omega), hl, Nat.sub_self, List.drop_eq_getElem_cons hk, List.set_cons_zero, List.take_succ_eq_append_getElem hk, List.map_append, List.append_assoc, eg]; rfl
theorem few_all (l : List Slot) : fewK l l.length = l.map fewT := by
  unfold fewK; rw [List.take_length, List.drop_length, List.append_nil]
theorem few_get {l : List Slot} {i : Nat} (hi : i < l.length) : (fewK l l.length).getD i d_slot = fewT (l.getD i d_slot) := by
  rw [few_all, List.getD_eq_getElem?_getD, List.getElem?_map, List.getElem?_eq_getElem hi, List.getD_eq_getElem?_getD, List.getElem?_eq_getElem hi]; rfl
theorem few_right {l : List Slot} {cy : Int} (h : planR l cy = true) : planR (fewK l l.length) cy = true := by
  obtain ⟨hlen, hcy, hs⟩ := planR_is h
  have hl := fewK_length l l.length
  refine plan_of (by rw [hl]; exact hlen) hcy fun i hi => ?_
  have hi : i < l.length := by rw [hl] at hi; exact hi
  obtain ⟨h1, h2, h3⟩ := slotR_is (hs i hi)
  refine slotR_of ?_ ?_ (fresh_of fun j hj1 hj2 => ?_)
  · rw [few_get hi]; exact h1
  · rw [few_get hi]
    show 1 ≤ 1 + (l.getD i d_slot).ticks % 20 ∧ 1 + (l.getD i d_slot).ticks % 20 ≤ 1000
    omega
  · rw [few_get hi, few_get (show j < l.length by rw [hl] at hj2; exact hj2)]
    exact fresh_is h3 hj1 (by rw [hl] at hj2; exact hj2)
theorem few_sum (l : List Slot) : ∀ k, k ≤ l.length → sumK (fewK l l.length) k ≤ 20 * (k : Int)
  | 0, _ => Int.le_refl _
  | k + 1, hk => by
    have ih := few_sum l k (by omega)
    unfold sumK
    rw [few_get (show k < l.length by omega)]
    show _ + (1 + (l.getD k d_slot).ticks % 20) ≤ _
    omega
theorem hadK_length (l : List Slot) (k : Int) : (hadK l k).length = l.length := by unfold hadK; rw [List.length_map, List.length_range]
theorem hadK_get (l : List Slot) (k : Int) {i : Nat} (hi : i < l.length) (d : Int) : (hadK l k).getD i d = hadN l k i := by
  unfold hadK; rw [List.getD_eq_getElem?_getD, List.getElem?_map, List.getElem?_range hi]; rfl
theorem hadN_at {l : List Slot} {x : Int} {p : Nat} (h1 : sumK l p ≤ x) (h2 : x < sumK l (p + 1)) : hadN l x p = x - sumK l p := by
  unfold hadN
  split
  · omega
  · rw [if_neg (by omega)]
theorem hadK_elem (l : List Slot) (y : Int) {i : Nat} (q : i < (hadK l y).length) : (hadK l y)[i] = hadN l y i := by
  simp only [hadK, List.getElem_map, List.getElem_range]
theorem hadK_zero (l : List Slot) (h : ∀ i, i < l.length → slotR l i = true) : hadK l 0 = List.replicate l.length 0 := by
  refine List.ext_getElem (by rw [hadK_length, List.length_replicate]) fun i h1 h2 => ?_
  rw [List.getElem_replicate, hadK_elem]
  have hi : i < l.length := by rw [hadK_length] at h1; exact h1
  have := sumK_rng h i (by omega)
  unfold hadN
  rw [if_pos (by omega)]
theorem hadK_set {l : List Slot} (h : ∀ i, i < l.length → slotR l i = true) {x : Int} {p : Nat} (hp : p < l.length) (h1 : sumK l p ≤ x) (h2 : x < sumK l (p + 1)) : (hadK l x).set p (hadN l x p + 1) = hadK l (x + 1) := by
  refine List.ext_getElem (by rw [List.length_set, hadK_length, hadK_length]) fun i q1 q2 => ?_
  have hi : i < l.length := by rw [hadK_length] at q2; exact q2
  rw [List.getElem_set, hadK_elem l (x + 1) q2]
  have hT := (slotR_is (h i hi)).2.1
  have h9 : sumK l (i + 1) = sumK l i + (l.getD i d_slot).ticks := rfl
  by_cases c : p = i
  · subst c
    rw [if_pos rfl, hadN_at h1 h2]
    unfold hadN
    rw [if_neg (by omega)]
    split <;> omega
  · rw [if_neg c, hadK_elem]
    rcases Nat.lt_or_ge i p with d | d
    · have := sumK_mono h (a := i + 1) (b := p) (by omega) (by omega)
      unfold hadN
      rw [if_neg (by omega), if_pos (by omega), if_neg (by omega), if_pos (by omega)]
    · have := sumK_mono h (a := p + 1) (b := i) (by omega) (by omega)
      unfold hadN
      rw [if_pos (by omega), if_pos (by omega)]
theorem hadN_end {l : List Slot} (h : ∀ i, i < l.length → slotR l i = true) {i : Nat} (hi : i < l.length) : hadN l (sumK l l.length) i = (l.getD i d_slot).ticks := by
  have hT := (slotR_is (h i hi)).2.1
  have h9 : sumK l (i + 1) = sumK l i + (l.getD i d_slot).ticks := rfl
  have := sumK_mono h (a := i + 1) (b := l.length) (by omega) (Nat.le_refl _)
  unfold hadN
  rw [if_neg (by omega), if_pos (by omega)]
def All8_S : RX.Spec U := fun
  | [⟨false, [.v (.int .i64 many)]⟩, ⟨false, [.sl .int ticks]⟩, ⟨false, [.v (.int .i64 turn)]⟩, ⟨false, [.v (.int .i64 cycle)]⟩, ⟨false, [.v (.int .i64 rnd)]⟩] => some ⟨some (((in64 many ∧ in64 turn ∧ in64 cycle ∧ ∀ x ∈ ticks, in64 x) ∧ in64 rnd)), (.one ⟨false, [.v (.bool true)]⟩)⟩
  | _ => none

theorem All8_ok : ConOk Try.prog U GV 7 All8_S :=
  fn_go gs ty (RX.glX_ok (RX.glT_ok 107 (RX.glT_ok 46 glok))) (conCons awake08_ok (conCons pick08_ok (conCons sRound_ok (conCons sAt_ok conNil)))) Try.func7 (by kernel_rfl) fun ds r hg hp => by
    unfold All8_S at hg
    split at hg
    · rename_i many ticks turn cycle rnd
      obtain ⟨ticks, rfl⟩ : ∃ q_ : List Int, q_ = ticks := ⟨ticks, rfl⟩
      cases hg
      replace hp : (((in64 many ∧ in64 turn ∧ in64 cycle ∧ ∀ x ∈ ticks, in64 x) ∧ in64 rnd)) := hp
      refine ⟨fun st key => if key = 4 then (match st with | [] => some { N := (planL many ticks turn).length, mods := fun k => [.tv 13 (.int .i64 (k : Int)), .xc 12 0 .slot (fewK (planL many ticks turn) k)] } | _ => some { N := (planN many).toNat, mods := fun k => [.tv 11 (.int .i64 (k : Int)), .cx 10 0 .slot (planK ticks turn (planN many) k)] }) else if key = 11 then some { N := (sumK (fewK (planL many ticks turn) (planL many ticks turn).length) (planL many ticks turn).length).toNat, mods := fun k => [.tv 17 (.int .i64 (k : Int)), .xt 16 .int (hadK (fewK (planL many ticks turn) (planL many ticks turn).length) (k : Int))] } else if key = 18 then some { N := (planL many ticks turn).length, mods := fun k => [.tv 20 (.int .i64 (k : Int))] } else none, (((-9223372036854775808 : Int) ≤ many ∧ many ≤ (9223372036854775807 : Int)) ∧ (0 : Int) < (15 : Int) ∧ (15 : Int) ≤ (1099511627776 : Int)) ∧ True ∧ (Value.int IntKind.i64 (0 : Int) = Value.int IntKind.i64 (0 : Int) ∧ planK ticks turn (planN many) (0 : Nat) = []) ∧ ∀ (k : Nat), k ≤ Int.toNat (planN many) → True → (decide ((↑k : Int) < wrap64 ((2 : Int) + pickI many (15 : Int))) = true → (decide ((0 : Int) < (↑(List.length ticks) : Int)) = true → (↑(List.length ticks) : Int) ≠ (0 : Int) ∧ ((0 : Int) ≤ Int.tmod (↑k : Int) (↑(List.length ticks) : Int) ∧ Int.tmod (↑k : Int) (↑(List.length ticks) : Int) < (↑(List.length ticks) : Int)) ∧ (((-9223372036854775808 : Int) ≤ List.getD ticks (Int.toNat (Int.tmod (↑k : Int) (↑(List.length ticks) : Int))) (d_int) ∧ List.getD ticks (Int.toNat (Int.tmod (↑k : Int) (↑(List.length ticks) : Int))) (d_int) ≤ (9223372036854775807 : Int)) ∧ (0 : Int) < (1000 : Int) ∧ (1000 : Int) ≤ (1099511627776 : Int)) ∧ (((-9223372036854775808 : Int) ≤ turn ∧ turn ≤ (9223372036854775807 : Int)) ∧ (0 : Int) < wrap64 ((2 : Int) + pickI many (15 : Int)) ∧ wrap64 ((2 : Int) + pickI many (15 : Int)) ≤ (1099511627776 : Int)) ∧ wrap64 ((2 : Int) + pickI many (15 : Int)) ≠ (0 : Int) ∧ List.length (planK ticks turn (planN many) k) + List.length [Slot.mk (Int.tmod (wrap64 ((↑k : Int) + pickI turn (wrap64 ((2 : Int) + pickI many (15 : Int))))) (wrap64 ((2 : Int) + pickI many (15 : Int)))) (wrap64 ((1 : Int) + pickI (List.getD ticks (Int.toNat (Int.tmod (↑k : Int) (↑(List.length ticks) : Int))) (d_int)) (1000 : Int)))] ≤ (1000000 : Nat) ∧ k < Int.toNat (planN many) ∧ True ∧ Value.int IntKind.i64 (wrap64 ((↑k : Int) + (1 : Int))) = Value.int IntKind.i64 (↑(k + (1 : Nat)) : Int) ∧ planK ticks turn (planN many) k ++ [Slot.mk (Int.tmod (wrap64 ((↑k : Int) + pickI turn (wrap64 ((2 : Int) + pickI many (15 : Int))))) (wrap64 ((2 : Int) + pickI many (15 : Int)))) (wrap64 ((1 : Int) + pickI (List.getD ticks (Int.toNat (Int.tmod (↑k : Int) (↑(List.length ticks) : Int))) (d_int)) (1000 : Int)))] = planK ticks turn (planN many) (k + (1 : Nat))) ∧ (decide ((0 : Int) < (↑(List.length ticks) : Int)) = false → (((-9223372036854775808 : Int) ≤ turn ∧ turn ≤ (9223372036854775807 : Int)) ∧ (0 : Int) < wrap64 ((2 : Int) + pickI many (15 : Int)) ∧ wrap64 ((2 : Int) + pickI many (15 : Int)) ≤ (1099511627776 : Int)) ∧ wrap64 ((2 : Int) + pickI many (15 : Int)) ≠ (0 : Int) ∧ List.length (planK ticks turn (planN many) k) + List.length [Slot.mk (Int.tmod (wrap64 ((↑k : Int) + pickI turn (wrap64 ((2 : Int) + pickI many (15 : Int))))) (wrap64 ((2 : Int) + pickI many (15 : Int)))) (1 : Int)] ≤ (1000000 : Nat) ∧ k < Int.toNat (planN many) ∧ True ∧ Value.int IntKind.i64 (wrap64 ((↑k : Int) + (1 : Int))) = Value.int IntKind.i64 (↑(k + (1 : Nat)) : Int) ∧ planK ticks turn (planN many) k ++ [Slot.mk (Int.tmod (wrap64 ((↑k : Int) + pickI turn (wrap64 ((2 : Int) + pickI many (15 : Int))))) (wrap64 ((2 : Int) + pickI many (15 : Int)))) (1 : Int)] = planK ticks turn (planN many) (k + (1 : Nat)))) ∧ (decide ((↑k : Int) < wrap64 ((2 : Int) + pickI many (15 : Int))) = false → (((-9223372036854775808 : Int) ≤ cycle ∧ cycle ≤ (9223372036854775807 : Int)) ∧ (0 : Int) < (64 : Int) ∧ (64 : Int) ≤ (1099511627776 : Int)) ∧ True ∧ (Value.int IntKind.i64 (0 : Int) = Value.int IntKind.i64 (0 : Int) ∧ planK ticks turn (planN many) k = fewK (planL many ticks turn) (0 : Nat)) ∧ ∀ (k : Nat), k ≤ List.length (planL many ticks turn) → True → (decide ((↑k : Int) < (↑(List.length (fewK (planL many ticks turn) k)) : Int)) = true → ((0 : Int) ≤ (↑k : Int) ∧ (↑k : Int) < (↑(List.length (fewK (planL many ticks turn) k)) : Int)) ∧ (20 : Int) ≠ (0 : Int) ∧ ((0 : Int) ≤ (↑k : Int) ∧ (↑k : Int) < (↑(List.length (fewK (planL many ticks turn) k)) : Int)) ∧ k < List.length (planL many ticks turn) ∧ True ∧ Value.int IntKind.i64 (wrap64 ((↑k : Int) + (1 : Int))) = Value.int IntKind.i64 (↑(k + (1 : Nat)) : Int) ∧ List.set (fewK (planL many ticks turn) k) (Int.toNat (↑k : Int)) (Slot.mk (Slot.node (List.getD (fewK (planL many ticks turn) k) (Int.toNat (↑k : Int)) (d_slot))) (wrap64 ((1 : Int) + Int.tmod (Slot.ticks (List.getD (fewK (planL many ticks turn) k) (Int.toNat (↑k : Int)) (d_slot))) (20 : Int)))) = fewK (planL many ticks turn) (k + (1 : Nat))) ∧ (decide ((↑k : Int) < (↑(List.length (fewK (planL many ticks turn) k)) : Int)) = false → List.length (fewK (planL many ticks turn) k) ≤ (1000000 : Nat) ∧ (((-9223372036854775808 : Int) ≤ rnd ∧ rnd ≤ (9223372036854775807 : Int)) ∧ (0 : Int) < (1048576 : Int) ∧ (1048576 : Int) ≤ (1099511627776 : Int)) ∧ ((↑(List.length (fewK (planL many ticks turn) k)) : Int) = (↑(List.length (fewK (planL many ticks turn) k)) : Int) ∧ (0 : Int) ≤ (↑(List.length (fewK (planL many ticks turn) k)) : Int) ∧ (↑(List.length (fewK (planL many ticks turn) k)) : Int) ≤ (1000000 : Int)) ∧ True ∧ (Value.int IntKind.i64 (0 : Int) = Value.int IntKind.i64 (0 : Int) ∧ List.replicate (Int.toNat (↑(List.length (fewK (planL many ticks turn) k)) : Int)) (0 : Int) = hadK (fewK (planL many ticks turn) (List.length (planL many ticks turn))) (0 : Int)) ∧ ∀ (k_1 : Nat), k_1 ≤ Int.toNat (sumK (fewK (planL many ticks turn) (List.length (planL many ticks turn))) (List.length (planL many ticks turn))) → True → ((decide ((↑k_1 : Int) < roundS (fewK (planL many ticks turn) k) (wrap64 ((1 : Int) + pickI cycle (64 : Int)))) && decide ((↑k_1 : Int) < (400 : Int))) = true → List.length (fewK (planL many ticks turn) k) ≤ (1000000 : Nat) ∧ ((!(er1 (atB (fewK (planL many ticks turn) k) (wrap64 ((1 : Int) + pickI cycle (64 : Int))) (wrap64 (wrap64 (pickI rnd (1048576 : Int) * roundS (fewK (planL many ticks turn) k) (wrap64 ((1 : Int) + pickI cycle (64 : Int)))) + (↑k_1 : Int)))) != (0 : Int) || decide (Spot.slot (atS (fewK (planL many ticks turn) k) (wrap64 ((1 : Int) + pickI cycle (64 : Int))) (wrap64 (wrap64 (pickI rnd (1048576 : Int) * roundS (fewK (planL many ticks turn) k) (wrap64 ((1 : Int) + pickI cycle (64 : Int)))) + (↑k_1 : Int)))) < (0 : Int)) || decide ((↑(List.length (hadK (fewK (planL many ticks turn) (List.length (planL many ticks turn))) (↑k_1 : Int))) : Int) ≤ Spot.slot (atS (fewK (planL many ticks turn) k) (wrap64 ((1 : Int) + pickI cycle (64 : Int))) (wrap64 (wrap64 (pickI rnd (1048576 : Int) * roundS (fewK (planL many ticks turn) k) (wrap64 ((1 : Int) + pickI cycle (64 : Int)))) + (↑k_1 : Int))))))) = true → (0 : Int) ≤ Spot.slot (atS (fewK (planL many ticks turn) k) (wrap64 ((1 : Int) + pickI cycle (64 : Int))) (wrap64 (wrap64 (pickI rnd (1048576 : Int) * roundS (fewK (planL many ticks turn) k) (wrap64 ((1 : Int) + pickI cycle (64 : Int)))) + (↑k_1 : Int)))) ∧ Spot.slot (atS (fewK (planL many ticks turn) k) (wrap64 ((1 : Int) + pickI cycle (64 : Int))) (wrap64 (wrap64 (pickI rnd (1048576 : Int) * roundS (fewK (planL many ticks turn) k) (wrap64 ((1 : Int) + pickI cycle (64 : Int)))) + (↑k_1 : Int)))) < (↑(List.length (hadK (fewK (planL many ticks turn) (List.length (planL many ticks turn))) (↑k_1 : Int))) : Int)) ∧ ((er1 (atB (fewK (planL many ticks turn) k) (wrap64 ((1 : Int) + pickI cycle (64 : Int))) (wrap64 (wrap64 (pickI rnd (1048576 : Int) * roundS (fewK (planL many ticks turn) k) (wrap64 ((1 : Int) + pickI cycle (64 : Int)))) + (↑k_1 : Int)))) != (0 : Int) || decide (Spot.slot (atS (fewK (planL many ticks turn) k) (wrap64 ((1 : Int) + pickI cycle (64 : Int))) (wrap64 (wrap64 (pickI rnd (1048576 : Int) * roundS (fewK (planL many ticks turn) k) (wrap64 ((1 : Int) + pickI cycle (64 : Int)))) + (↑k_1 : Int)))) < (0 : Int)) || decide ((↑(List.length (hadK (fewK (planL many ticks turn) (List.length (planL many ticks turn))) (↑k_1 : Int))) : Int) ≤ Spot.slot (atS (fewK (planL many ticks turn) k) (wrap64 ((1 : Int) + pickI cycle (64 : Int))) (wrap64 (wrap64 (pickI rnd (1048576 : Int) * roundS (fewK (planL many ticks turn) k) (wrap64 ((1 : Int) + pickI cycle (64 : Int)))) + (↑k_1 : Int))))) || Spot.tick (atS (fewK (planL many ticks turn) k) (wrap64 ((1 : Int) + pickI cycle (64 : Int))) (wrap64 (wrap64 (pickI rnd (1048576 : Int) * roundS (fewK (planL many ticks turn) k) (wrap64 ((1 : Int) + pickI cycle (64 : Int)))) + (↑k_1 : Int)))) != List.getD (hadK (fewK (planL many ticks turn) (List.length (planL many ticks turn))) (↑k_1 : Int)) (Int.toNat (Spot.slot (atS (fewK (planL many ticks turn) k) (wrap64 ((1 : Int) + pickI cycle (64 : Int))) (wrap64 (wrap64 (pickI rnd (1048576 : Int) * roundS (fewK (planL many ticks turn) k) (wrap64 ((1 : Int) + pickI cycle (64 : Int)))) + (↑k_1 : Int)))))) (d_int)) = true → Out.one (U := U) (D.mk false [CV.v (Value.bool false)]) = Out.one (U := U) (D.mk false [CV.v (Value.bool true)])) ∧ ((er1 (atB (fewK (planL many ticks turn) k) (wrap64 ((1 : Int) + pickI cycle (64 : Int))) (wrap64 (wrap64 (pickI rnd (1048576 : Int) * roundS (fewK (planL many ticks turn) k) (wrap64 ((1 : Int) + pickI cycle (64 : Int)))) + (↑k_1 : Int)))) != (0 : Int) || decide (Spot.slot (atS (fewK (planL many ticks turn) k) (wrap64 ((1 : Int) + pickI cycle (64 : Int))) (wrap64 (wrap64 (pickI rnd (1048576 : Int) * roundS (fewK (planL many ticks turn) k) (wrap64 ((1 : Int) + pickI cycle (64 : Int)))) + (↑k_1 : Int)))) < (0 : Int)) || decide ((↑(List.length (hadK (fewK (planL many ticks turn) (List.length (planL many ticks turn))) (↑k_1 : Int))) : Int) ≤ Spot.slot (atS (fewK (planL many ticks turn) k) (wrap64 ((1 : Int) + pickI cycle (64 : Int))) (wrap64 (wrap64 (pickI rnd (1048576 : Int) * roundS (fewK (planL many ticks turn) k) (wrap64 ((1 : Int) + pickI cycle (64 : Int)))) + (↑k_1 : Int))))) || Spot.tick (atS (fewK (planL many ticks turn) k) (wrap64 ((1 : Int) + pickI cycle (64 : Int))) (wrap64 (wrap64 (pickI rnd (1048576 : Int) * roundS (fewK (planL many ticks turn) k) (wrap64 ((1 : Int) + pickI cycle (64 : Int)))) + (↑k_1 : Int)))) != List.getD (hadK (fewK (planL many ticks turn) (List.length (planL many ticks turn))) (↑k_1 : Int)) (Int.toNat (Spot.slot (atS (fewK (planL many ticks turn) k) (wrap64 ((1 : Int) + pickI cycle (64 : Int))) (wrap64 (wrap64 (pickI rnd (1048576 : Int) * roundS (fewK (planL many ticks turn) k) (wrap64 ((1 : Int) + pickI cycle (64 : Int)))) + (↑k_1 : Int)))))) (d_int)) = false → ((0 : Int) ≤ Spot.slot (atS (fewK (planL many ticks turn) k) (wrap64 ((1 : Int) + pickI cycle (64 : Int))) (wrap64 (wrap64 (pickI rnd (1048576 : Int) * roundS (fewK (planL many ticks turn) k) (wrap64 ((1 : Int) + pickI cycle (64 : Int)))) + (↑k_1 : Int)))) ∧ Spot.slot (atS (fewK (planL many ticks turn) k) (wrap64 ((1 : Int) + pickI cycle (64 : Int))) (wrap64 (wrap64 (pickI rnd (1048576 : Int) * roundS (fewK (planL many ticks turn) k) (wrap64 ((1 : Int) + pickI cycle (64 : Int)))) + (↑k_1 : Int)))) < (↑(List.length (hadK (fewK (planL many ticks turn) (List.length (planL many ticks turn))) (↑k_1 : Int))) : Int)) ∧ ((0 : Int) ≤ Spot.slot (atS (fewK (planL many ticks turn) k) (wrap64 ((1 : Int) + pickI cycle (64 : Int))) (wrap64 (wrap64 (pickI rnd (1048576 : Int) * roundS (fewK (planL many ticks turn) k) (wrap64 ((1 : Int) + pickI cycle (64 : Int)))) + (↑k_1 : Int)))) ∧ Spot.slot (atS (fewK (planL many ticks turn) k) (wrap64 ((1 : Int) + pickI cycle (64 : Int))) (wrap64 (wrap64 (pickI rnd (1048576 : Int) * roundS (fewK (planL many ticks turn) k) (wrap64 ((1 : Int) + pickI cycle (64 : Int)))) + (↑k_1 : Int)))) < (↑(List.length (hadK (fewK (planL many ticks turn) (List.length (planL many ticks turn))) (↑k_1 : Int))) : Int)) ∧ k_1 < Int.toNat (sumK (fewK (planL many ticks turn) (List.length (planL many ticks turn))) (List.length (planL many ticks turn))) ∧ True ∧ fewK (planL many ticks turn) k = fewK (planL many ticks turn) k ∧ Value.int IntKind.i64 (wrap64 ((↑k_1 : Int) + (1 : Int))) = Value.int IntKind.i64 (↑(k_1 + (1 : Nat)) : Int) ∧ List.set (hadK (fewK (planL many ticks turn) (List.length (planL many ticks turn))) (↑k_1 : Int)) (Int.toNat (Spot.slot (atS (fewK (planL many ticks turn) k) (wrap64 ((1 : Int) + pickI cycle (64 : Int))) (wrap64 (wrap64 (pickI rnd (1048576 : Int) * roundS (fewK (planL many ticks turn) k) (wrap64 ((1 : Int) + pickI cycle (64 : Int)))) + (↑k_1 : Int)))))) (wrap64 (List.getD (hadK (fewK (planL many ticks turn) (List.length (planL many ticks turn))) (↑k_1 : Int)) (Int.toNat (Spot.slot (atS (fewK (planL many ticks turn) k) (wrap64 ((1 : Int) + pickI cycle (64 : Int))) (wrap64 (wrap64 (pickI rnd (1048576 : Int) * roundS (fewK (planL many ticks turn) k) (wrap64 ((1 : Int) + pickI cycle (64 : Int)))) + (↑k_1 : Int)))))) (d_int) + (1 : Int))) = hadK (fewK (planL many ticks turn) (List.length (planL many ticks turn))) (↑(k_1 + (1 : Nat)) : Int))) ∧ ((decide ((↑k_1 : Int) < roundS (fewK (planL many ticks turn) k) (wrap64 ((1 : Int) + pickI cycle (64 : Int)))) && decide ((↑k_1 : Int) < (400 : Int))) = false → True ∧ Value.int IntKind.i64 (0 : Int) = Value.int IntKind.i64 (0 : Int) ∧ ∀ (k_2 : Nat), k_2 ≤ List.length (planL many ticks turn) → True → (decide ((↑k_2 : Int) < (↑(List.length (hadK (fewK (planL many ticks turn) (List.length (planL many ticks turn))) (↑k_1 : Int))) : Int)) = true → ((0 : Int) ≤ (↑k_2 : Int) ∧ (↑k_2 : Int) < (↑(List.length (hadK (fewK (planL many ticks turn) (List.length (planL many ticks turn))) (↑k_1 : Int))) : Int)) ∧ ((0 : Int) ≤ (↑k_2 : Int) ∧ (↑k_2 : Int) < (↑(List.length (fewK (planL many ticks turn) k)) : Int)) ∧ ((List.getD (hadK (fewK (planL many ticks turn) (List.length (planL many ticks turn))) (↑k_1 : Int)) (Int.toNat (↑k_2 : Int)) (d_int) != Slot.ticks (List.getD (fewK (planL many ticks turn) k) (Int.toNat (↑k_2 : Int)) (d_slot))) = true → Out.one (U := U) (D.mk false [CV.v (Value.bool false)]) = Out.one (U := U) (D.mk false [CV.v (Value.bool true)])) ∧ ((List.getD (hadK (fewK (planL many ticks turn) (List.length (planL many ticks turn))) (↑k_1 : Int)) (Int.toNat (↑k_2 : Int)) (d_int) != Slot.ticks (List.getD (fewK (planL many ticks turn) k) (Int.toNat (↑k_2 : Int)) (d_slot))) = false → k_2 < List.length (planL many ticks turn) ∧ True ∧ (hadK (fewK (planL many ticks turn) (List.length (planL many ticks turn))) (↑k_1 : Int) = hadK (fewK (planL many ticks turn) (List.length (planL many ticks turn))) (↑k_1 : Int) ∧ fewK (planL many ticks turn) k = fewK (planL many ticks turn) k) ∧ Value.int IntKind.i64 (wrap64 ((↑k_2 : Int) + (1 : Int))) = Value.int IntKind.i64 (↑(k_2 + (1 : Nat)) : Int))) ∧ (decide ((↑k_2 : Int) < (↑(List.length (hadK (fewK (planL many ticks turn) (List.length (planL many ticks turn))) (↑k_1 : Int))) : Int)) = false → Out.one (U := U) (D.mk false [CV.v (Value.bool true)]) = Out.one (U := U) (D.mk false [CV.v (Value.bool true)]))))), by kernel_rfl, ?_⟩
      obtain ⟨⟨p1, p2, p3, p4⟩, p5⟩ := hp
      have hpl := plan_right many ticks turn cycle
      have hn := planN_rng many
      have eC : wrap64 (1 + pickI cycle 64) = planC cycle := w64 (by have := pickI_rng cycle 64 (by decide); omega)
      have eN : wrap64 (2 + pickI many 15) = planN many := w64 (by have := pickI_rng many 15 (by decide); omega)
      have ht := pickI_rng turn (planN many) (by omega)
      rw [eC, eN]
      refine ⟨⟨p1, by decide, by decide⟩, trivial, ⟨rfl, rfl⟩, fun k hk _ => ⟨fun hlt => ⟨fun h1 => ?_, fun h1 => ?_⟩, fun hge => ?_⟩⟩
      · have hlt := of_decide_eq_true hlt
        have h1 := of_decide_eq_true h1
        have e1 : Int.tmod (k : Int) (ticks.length : Int) = ((k % ticks.length : Nat) : Int) := Int.tmod_eq_emod_of_nonneg (by omega)
        have h2 : k % ticks.length < ticks.length := Nat.mod_lt _ (by omega)
        have e2 : ticks.getD (k % ticks.length) d_int = ticks[k % ticks.length] := by rw [List.getD_eq_getElem?_getD, List.getElem?_eq_getElem h2]; rfl
        have e3 : ticks.getD (k % ticks.length) 0 = ticks[k % ticks.length] := by rw [List.getD_eq_getElem?_getD, List.getElem?_eq_getElem h2]; rfl
        have e4 := p4 ticks[k % ticks.length] (List.getElem_mem h2)
        have h5 := pickI_rng ticks[k % ticks.length] 1000 (by decide)
        rw [e1, Int.toNat_natCast, e2, w64 (x := (k : Int) + pickI turn (planN many)) (by omega), w64 (x := 1 + pickI ticks[k % ticks.length] 1000) (by omega), Int.tmod_eq_emod_of_nonneg (a := (k : Int) + pickI turn (planN many)) (by omega)]
        refine ⟨by omega, ⟨by omega, by omega⟩, ⟨e4, by decide, by decide⟩, ⟨p2, by omega, by omega⟩, by omega, ?_, by omega, trivial, by rw [w64 (by omega)]; rfl, ?_⟩
        · rw [planK_length]; show k + 1 ≤ _; omega
        · rw [planK_succ]
          congr 2
          unfold slotP tickI
          rw [if_neg (by omega), e3]
      · have hlt := of_decide_eq_true hlt
        have h1 := of_decide_eq_false h1
        rw [w64 (x := (k : Int) + pickI turn (planN many)) (by omega), Int.tmod_eq_emod_of_nonneg (a := (k : Int) + pickI turn (planN many)) (by omega)]
        refine ⟨⟨p2, by omega, by omega⟩, by omega, ?_, by omega, trivial, by rw [w64 (by omega)]; rfl, ?_⟩
        · rw [planK_length]; show k + 1 ≤ _; omega
        · rw [planK_succ]
          congr 2
          unfold slotP tickI
          rw [if_pos (by omega)]
      · have hge := of_decide_eq_false hge
        have hk2 : k = (planN many).toNat := by omega
        subst hk2
        refine ⟨⟨p3, by decide, by decide⟩, trivial, ⟨rfl, rfl⟩, ?_⟩
        clear hk hge p1 p2 p3 p4 eC eN ht hn
        generalize planL many ticks turn = l at hpl
        generalize planC cycle = cy at hpl
        obtain ⟨hlen, hcy, hs⟩ := planR_is hpl
        intro k hk _
        refine ⟨fun hlt => ?_, fun hge => ?_⟩
        · have hlt := of_decide_eq_true hlt
          rw [fewK_length] at hlt
          have hk1 : k < l.length := by omega
          have hT := (slotR_is (hs k hk1)).2.1
          have hset := fewK_set hk1
          unfold fewT at hset
          rw [Int.toNat_natCast, fewK_at hk1, fewK_length, Int.tmod_eq_emod_of_nonneg (a := (l.getD k d_slot).ticks) (by omega), w64 (x := 1 + (l.getD k d_slot).ticks % 20) (by omega)]
          exact ⟨⟨by omega, by omega⟩, by decide, ⟨by omega, by omega⟩, hk1, trivial, by rw [w64 (by omega)]; rfl, hset⟩
        · have hge := of_decide_eq_false hge
          rw [fewK_length] at hge
          have hk2 : k = l.length := by omega
          subst hk2
          have hfp := few_right hpl
          have hfs := slots_of hfp
          have hfl := fewK_length l l.length
          have hR2 := few_sum l l.length (Nat.le_refl _)
          generalize fewK l l.length = fl at hfp hfs hfl hR2
          have hR1 := (sumK_rng hfs l.length (by omega)).1
          have eR : roundS fl cy = sumK fl l.length := by unfold roundS; rw [if_pos hfp, hfl]
          have hq := pickI_rng rnd 1048576 (by decide)
          generalize pickI rnd 1048576 = q at hq
          generalize hRR : sumK fl l.length = R at hR1 hR2 eR
          have hqR : q * R ≤ 1048576 * 320 := Int.mul_le_mul (by omega) (by omega) (by omega) (by omega)
          have hqR0 : 0 ≤ q * R := Int.mul_nonneg hq.1 (by omega)
          rw [eR, w64 (x := q * R) (by omega)]
          refine ⟨by omega, ⟨p5, by decide, by decide⟩, ⟨rfl, by omega, by omega⟩, trivial, ⟨rfl, by rw [Int.toNat_natCast, hadK_zero fl hfs]⟩, fun j hj _ => ⟨fun hlt => ?_, fun hge => ?_⟩⟩
          · simp only [Bool.and_eq_true, decide_eq_true_eq] at hlt
            have hB : atB fl cy (q * R + (j : Int)) = true := by unfold atB; rw [hfp, decide_eq_true (by omega)]; rfl
            obtain ⟨p, q1, q2, q3⟩ := pos_ex (l := fl) (x := (j : Int)) (by omega) l.length (by omega)
            have e1 : (q * R + (j : Int)) % R = (j : Int) := by rw [Int.add_comm, Int.add_mul_emod_self_right, Int.emod_eq_of_lt (by omega) (by omega)]
            have hS : (atS fl cy (q * R + (j : Int))).slot = (p : Int) ∧ (atS fl cy (q * R + (j : Int))).tick = (j : Int) - sumK fl p := by
              unfold atS
              rw [if_pos hB, hfl, hRR, e1, pos_is hfs (by omega) q2 q3]
              exact ⟨rfl, rfl⟩
            have hset := hadK_set hfs (x := (j : Int)) (p := p) (by omega) q2 q3
            rw [hadN_at q2 q3] at hset
            have hb := (sumK_rng hfs p (by omega)).1
            rw [w64 (x := q * R + (j : Int)) (by omega), hB, hS.1, hS.2, hadK_length, Int.toNat_natCast, hadK_get _ _ (by omega), hadN_at q2 q3, w64 (x := (j : Int) - sumK fl p + 1) (by omega)]
            refine ⟨by omega, fun _ => ⟨by omega, by omega⟩, fun h => ?_, fun _ => ⟨⟨by omega, by omega⟩, ⟨by omega, by omega⟩, by omega, trivial, rfl, by rw [w64 (by omega)]; rfl, hset⟩⟩
            exfalso
            simp only [er1_ne, Bool.not_true, Bool.false_or, bne_self_eq_false, Bool.or_false, Bool.or_eq_true, decide_eq_true_eq] at h
            omega
          · simp only [Bool.and_eq_false_iff, decide_eq_false_iff_not] at hge
            have eJ : (j : Int) = R := by omega
            refine ⟨trivial, rfl, fun i hi _ => ⟨fun hlt => ?_, fun _ => rfl⟩⟩
            have hlt := of_decide_eq_true hlt
            rw [hadK_length] at hlt
            have hT : hadN fl R i = (fl.getD i d_slot).ticks := by
              have := hadN_end hfs (i := i) (by omega)
              rw [hfl, hRR] at this; exact this
            rw [eJ, hadK_length, Int.toNat_natCast, hadK_get _ _ (by omega), hT]
            refine ⟨⟨by omega, by omega⟩, ⟨by omega, by omega⟩, fun h => ?_, fun _ => ⟨by omega, trivial, ⟨rfl, rfl⟩, by rw [w64 (by omega)]; rfl⟩⟩
            rw [bne_self_eq_false] at h; cases h
    · cases hg

end Go.Proofs.Ytnhgnidpoiolgaa.X
