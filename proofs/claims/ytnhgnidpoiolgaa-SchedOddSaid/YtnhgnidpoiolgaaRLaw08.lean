/- The law's own words: raw plans, and its first calls. -/
import Derived.Test.YtnhgnidpoiolgaaRSlater
namespace Go.Proofs.Ytnhgnidpoiolgaa.X
open Go Go.RX Go.RowKit Go.Proofs
set_option linter.unusedVariables false
set_option linter.unusedSimpArgs false
set_option maxHeartbeats 4000000
def pickI (c n : Int) : Int := (if c < 0 then -(c + 1) else c) % n
theorem pickI_rng (c n : Int) (h : 0 < n) : 0 ≤ pickI c n ∧ pickI c n < n := ⟨Int.emod_nonneg _ (by omega), Int.emod_lt_of_pos _ h⟩
def tickI (ticks : List Int) (i : Nat) : Int := if ticks.length = 0 then 1 else 1 + pickI (ticks.getD (i % ticks.length) 0) 1000
def slotP (ticks : List Int) (turn n : Int) (i : Nat) : Slot := ⟨((i : Int) + pickI turn n) % n, tickI ticks i⟩
def planK (ticks : List Int) (turn n : Int) (k : Nat) : List Slot := (List.range k).map (slotP ticks turn n)
def planN (many : Int) : Int := 2 + pickI many 15
def planL (many : Int) (ticks : List Int) (turn : Int) : List Slot := planK ticks turn (planN many) (planN many).toNat
def planC (cycle : Int) : Int := 1 + pickI cycle 64
theorem planK_length (ticks : List Int) (turn n : Int) (k : Nat) : (planK ticks turn n k).length = k := by unfold planK; rw [List.length_map, List.length_range]
theorem planK_succ (ticks : List Int) (turn n : Int) (k : Nat) : planK ticks turn n (k + 1) = planK ticks turn n k ++ [slotP ticks turn n k] := by unfold planK; rw [List.range_succ, List.map_append]; rfl
def pick08_S : RX.Spec U := fun
  | [⟨false, [.v (.int .i64 c)]⟩, ⟨false, [.v (.int .i64 n)]⟩] => some ⟨some ((in64 c ∧ 0 < n ∧ n ≤ 1099511627776)), (.one ⟨false, [.v (.int .i64 (pickI c n))]⟩)⟩
  | _ => none

theorem pick08_ok : ConOk Try.prog U GV 17 pick08_S :=
  fn_go gs ty glok conNil Try.func17 (by kernel_rfl) fun ds r hg hp => by
    unfold pick08_S at hg
    split at hg
    · rename_i c n
      cases hg
      replace hp : ((in64 c ∧ 0 < n ∧ n ≤ 1099511627776)) := hp
      refine ⟨fun _ _ => none, (decide (c < (0 : Int)) = true → n ≠ (0 : Int) ∧ Out.one (U := U) (D.mk false [CV.v (Value.int IntKind.i64 (Int.tmod (wrap64 ((0 : Int) - wrap64 (c + (1 : Int)))) n))]) = Out.one (U := U) (D.mk false [CV.v (Value.int IntKind.i64 (pickI c n))])) ∧ (decide (c < (0 : Int)) = false → n ≠ (0 : Int) ∧ Out.one (U := U) (D.mk false [CV.v (Value.int IntKind.i64 (Int.tmod c n))]) = Out.one (U := U) (D.mk false [CV.v (Value.int IntKind.i64 (pickI c n))])), by kernel_rfl, ?_⟩
      unfold in64 at hp
      refine ⟨fun h => ⟨by omega, ?_⟩, fun h => ⟨by omega, ?_⟩⟩
      · have h' := of_decide_eq_true h
        simp only [Out.one.injEq, Out.tup.injEq, D.mk.injEq, List.cons.injEq, CV.v.injEq, CV.sl.injEq, Value.bool.injEq, Value.int.injEq, Value.string.injEq, and_true, true_and, heq_eq_eq]
        rw [pickI, if_pos h', w64 (x := c + 1) (by omega), w64 (by omega), Int.tmod_eq_emod_of_nonneg (by omega)]
        congr 1; omega
      · have h' := of_decide_eq_false h
        simp only [Out.one.injEq, Out.tup.injEq, D.mk.injEq, List.cons.injEq, CV.v.injEq, CV.sl.injEq, Value.bool.injEq, Value.int.injEq, Value.string.injEq, and_true, true_and, heq_eq_eq]
        rw [pickI, if_neg h', Int.tmod_eq_emod_of_nonneg (by omega)]
    · cases hg

def plan08_S : RX.Spec U := fun
  | [⟨false, [.v (.int .i64 many)]⟩, ⟨false, [.sl .int ticks]⟩, ⟨false, [.v (.int .i64 turn)]⟩, ⟨false, [.v (.int .i64 cycle)]⟩] => some ⟨some ((in64 many ∧ in64 turn ∧ in64 cycle ∧ ∀ x ∈ ticks, in64 x)), (.one ⟨true, [.sl .slot ((planL many ticks turn)), .v (.int .i64 ((planC cycle)))]⟩)⟩
  | _ => none

theorem plan08_ok : ConOk Try.prog U GV 10 plan08_S :=
  fn_go gs ty glok (conCons pick08_ok conNil) Try.func10 (by kernel_rfl) fun ds r hg hp => by
    unfold plan08_S at hg
    split at hg
    · rename_i many ticks turn cycle
      obtain ⟨ticks, rfl⟩ : ∃ q_ : List Int, q_ = ticks := ⟨ticks, rfl⟩
      cases hg
      replace hp : ((in64 many ∧ in64 turn ∧ in64 cycle ∧ ∀ x ∈ ticks, in64 x)) := hp
      refine ⟨fun st key => if key = 4 then some { N := (planN many).toNat, mods := fun k => [.tv 11 (.int .i64 (k : Int)), .cr 10 0 .slot (planK ticks turn (planN many) k) true] } else none, (((-9223372036854775808 : Int) ≤ many ∧ many ≤ (9223372036854775807 : Int)) ∧ (0 : Int) < (15 : Int) ∧ (15 : Int) ≤ (1099511627776 : Int)) ∧ True ∧ (Value.int IntKind.i64 (0 : Int) = Value.int IntKind.i64 (0 : Int) ∧ planK ticks turn (planN many) (0 : Nat) = []) ∧ ∀ (k : Nat), k ≤ Int.toNat (planN many) → True → (decide ((↑k : Int) < wrap64 ((2 : Int) + pickI many (15 : Int))) = true → (decide ((0 : Int) < (↑(List.length ticks) : Int)) = true → (↑(List.length ticks) : Int) ≠ (0 : Int) ∧ ((0 : Int) ≤ Int.tmod (↑k : Int) (↑(List.length ticks) : Int) ∧ Int.tmod (↑k : Int) (↑(List.length ticks) : Int) < (↑(List.length ticks) : Int)) ∧ (((-9223372036854775808 : Int) ≤ List.getD ticks (Int.toNat (Int.tmod (↑k : Int) (↑(List.length ticks) : Int))) (d_int) ∧ List.getD ticks (Int.toNat (Int.tmod (↑k : Int) (↑(List.length ticks) : Int))) (d_int) ≤ (9223372036854775807 : Int)) ∧ (0 : Int) < (1000 : Int) ∧ (1000 : Int) ≤ (1099511627776 : Int)) ∧ (((-9223372036854775808 : Int) ≤ turn ∧ turn ≤ (9223372036854775807 : Int)) ∧ (0 : Int) < wrap64 ((2 : Int) + pickI many (15 : Int)) ∧ wrap64 ((2 : Int) + pickI many (15 : Int)) ≤ (1099511627776 : Int)) ∧ wrap64 ((2 : Int) + pickI many (15 : Int)) ≠ (0 : Int) ∧ List.length (planK ticks turn (planN many) k) + List.length [Slot.mk (Int.tmod (wrap64 ((↑k : Int) + pickI turn (wrap64 ((2 : Int) + pickI many (15 : Int))))) (wrap64 ((2 : Int) + pickI many (15 : Int)))) (wrap64 ((1 : Int) + pickI (List.getD ticks (Int.toNat (Int.tmod (↑k : Int) (↑(List.length ticks) : Int))) (d_int)) (1000 : Int)))] ≤ (1000000 : Nat) ∧ k < Int.toNat (planN many) ∧ True ∧ Value.int IntKind.i64 (wrap64 ((↑k : Int) + (1 : Int))) = Value.int IntKind.i64 (↑(k + (1 : Nat)) : Int) ∧ True ∧ planK ticks turn (planN many) k ++ [Slot.mk (Int.tmod (wrap64 ((↑k : Int) + pickI turn (wrap64 ((2 : Int) + pickI many (15 : Int))))) (wrap64 ((2 : Int) + pickI many (15 : Int)))) (wrap64 ((1 : Int) + pickI (List.getD ticks (Int.toNat (Int.tmod (↑k : Int) (↑(List.length ticks) : Int))) (d_int)) (1000 : Int)))] = planK ticks turn (planN many) (k + (1 : Nat))) ∧ (decide ((0 : Int) < (↑(List.length ticks) : Int)) = false → (((-9223372036854775808 : Int) ≤ turn ∧ turn ≤ (9223372036854775807 : Int)) ∧ (0 : Int) < wrap64 ((2 : Int) + pickI many (15 : Int)) ∧ wrap64 ((2 : Int) + pickI many (15 : Int)) ≤ (1099511627776 : Int)) ∧ wrap64 ((2 : Int) + pickI many (15 : Int)) ≠ (0 : Int) ∧ List.length (planK ticks turn (planN many) k) + List.length [Slot.mk (Int.tmod (wrap64 ((↑k : Int) + pickI turn (wrap64 ((2 : Int) + pickI many (15 : Int))))) (wrap64 ((2 : Int) + pickI many (15 : Int)))) (1 : Int)] ≤ (1000000 : Nat) ∧ k < Int.toNat (planN many) ∧ True ∧ Value.int IntKind.i64 (wrap64 ((↑k : Int) + (1 : Int))) = Value.int IntKind.i64 (↑(k + (1 : Nat)) : Int) ∧ True ∧ planK ticks turn (planN many) k ++ [Slot.mk (Int.tmod (wrap64 ((↑k : Int) + pickI turn (wrap64 ((2 : Int) + pickI many (15 : Int))))) (wrap64 ((2 : Int) + pickI many (15 : Int)))) (1 : Int)] = planK ticks turn (planN many) (k + (1 : Nat)))) ∧ (decide ((↑k : Int) < wrap64 ((2 : Int) + pickI many (15 : Int))) = false → (((-9223372036854775808 : Int) ≤ cycle ∧ cycle ≤ (9223372036854775807 : Int)) ∧ (0 : Int) < (64 : Int) ∧ (64 : Int) ≤ (1099511627776 : Int)) ∧ Out.one (U := U) (D.mk true [CV.sl Kind.slot (planK ticks turn (planN many) k), CV.v (Value.int IntKind.i64 (wrap64 ((1 : Int) + pickI cycle (64 : Int))))]) = Out.one (U := U) (D.mk true [CV.sl Kind.slot (planL many ticks turn), CV.v (Value.int IntKind.i64 (planC cycle))])), by kernel_rfl, ?_⟩
      obtain ⟨p1, p2, p3, p4⟩ := hp
      have hm := pickI_rng many 15 (by decide)
      have hN : planN many = 2 + pickI many 15 := rfl
      have hc := pickI_rng cycle 64 (by decide)
      have eN : wrap64 (2 + pickI many 15) = planN many := by rw [hN]; exact w64 (by omega)
      rw [eN]
      unfold planL planC
      generalize planN many = n at hN
      have hn : 2 ≤ n ∧ n ≤ 16 := by omega
      have ht := pickI_rng turn n (by omega)
      refine ⟨⟨p1, by decide, by decide⟩, trivial, ⟨rfl, rfl⟩, fun k hk _ => ⟨fun hlt => ⟨fun h1 => ?_, fun h1 => ?_⟩, fun hge => ?_⟩⟩
      · have hlt := of_decide_eq_true hlt
        have h1 := of_decide_eq_true h1
        have e1 : Int.tmod (k : Int) (ticks.length : Int) = ((k % ticks.length : Nat) : Int) := Int.tmod_eq_emod_of_nonneg (by omega)
        have h2 : k % ticks.length < ticks.length := Nat.mod_lt _ (by omega)
        have e2 : ticks.getD (k % ticks.length) d_int = ticks[k % ticks.length] := by rw [List.getD_eq_getElem?_getD, List.getElem?_eq_getElem h2]; rfl
        have e3 : ticks.getD (k % ticks.length) 0 = ticks[k % ticks.length] := by rw [List.getD_eq_getElem?_getD, List.getElem?_eq_getElem h2]; rfl
        have e4 := p4 ticks[k % ticks.length] (List.getElem_mem h2)
        have h5 := pickI_rng ticks[k % ticks.length] 1000 (by decide)
        rw [e1, Int.toNat_natCast, e2, w64 (x := (k : Int) + pickI turn n) (by omega), w64 (x := 1 + pickI ticks[k % ticks.length] 1000) (by omega), Int.tmod_eq_emod_of_nonneg (a := (k : Int) + pickI turn n) (by omega)]
        refine ⟨by omega, ⟨by omega, by omega⟩, ⟨e4, by decide, by decide⟩, ⟨p2, by omega, by omega⟩, by omega, ?_, by omega, trivial, by rw [w64 (by omega)]; rfl, trivial, ?_⟩
        · rw [planK_length]; show k + 1 ≤ _; omega
        · rw [planK_succ]
          congr 2
          unfold slotP tickI
          rw [if_neg (by omega), e3]
      · have hlt := of_decide_eq_true hlt
        have h1 := of_decide_eq_false h1
        rw [w64 (x := (k : Int) + pickI turn n) (by omega), Int.tmod_eq_emod_of_nonneg (a := (k : Int) + pickI turn n) (by omega)]
        refine ⟨⟨p2, by omega, by omega⟩, by omega, ?_, by omega, trivial, by rw [w64 (by omega)]; rfl, trivial, ?_⟩
        · rw [planK_length]; show k + 1 ≤ _; omega
        · rw [planK_succ]
          congr 2
          unfold slotP tickI
          rw [if_pos (by omega)]
      · have hge := of_decide_eq_false hge
        have hk2 : k = n.toNat := by omega
        subst hk2
        rw [w64 (x := 1 + pickI cycle 64) (by omega)]
        exact ⟨⟨p3, by decide, by decide⟩, rfl⟩
    · cases hg

def awake08_S : RX.Spec U := fun
  | [] => some ⟨none, (.one ⟨false, [.v (.bool true)]⟩)⟩
  | _ => none

theorem awake08_ok : ConOk Try.prog U GV 9 awake08_S :=
  fn_go gs ty glok (conCons sRight_ok (conCons sNodes_ok (conCons sRound_ok (conCons sSlot_ok (conCons sAt_ok (conCons sTime_ok (conCons sLater_ok conNil))))))) Try.func9 (by kernel_rfl) fun ds r hg hp => by
    unfold awake08_S at hg
    split at hg
    · cases hg
      refine ⟨fun _ _ => none, (2 : Nat) ≤ (1000000 : Nat) ∧ (2 : Nat) ≤ (1000000 : Nat) ∧ (2 : Nat) ≤ (1000000 : Nat) ∧ (2 : Nat) ≤ (1000000 : Nat) ∧ (2 : Nat) ≤ (1000000 : Nat) ∧ (2 : Nat) ≤ (1000000 : Nat) ∧ (true = true → (2 : Nat) ≤ (1000000 : Nat)) ∧ (true = true → (2 : Nat) ≤ (1000000 : Nat)) ∧ (true = true → (2 : Nat) ≤ (1000000 : Nat)) ∧ Out.one (U := U) (D.mk false [CV.v (Value.bool true)]) = Out.one (U := U) (D.mk false [CV.v (Value.bool true)]), by kernel_rfl, ?_⟩
      exact ⟨by decide, by decide, by decide, by decide, by decide, by decide, fun _ => by decide, fun _ => by decide, fun _ => by decide, rfl⟩
    · cases hg

end Go.Proofs.Ytnhgnidpoiolgaa.X
