/- At undoes Time, and Time At; a tick later it is the next spot. -/
import Derived.Test.YtnhgnidpoiolgaaRFacts08
namespace Go.Proofs.Ytnhgnidpoiolgaa.X
open Go Go.RX Go.RowKit Go.Proofs
set_option linter.unusedVariables false
set_option linter.unusedSimpArgs false
set_option maxHeartbeats 4000000
def Back8_S : RX.Spec U := fun
  | [⟨false, [.v (.int .i64 many)]⟩, ⟨false, [.sl .int ticks]⟩, ⟨false, [.v (.int .i64 turn)]⟩, ⟨false, [.v (.int .i64 cycle)]⟩, ⟨false, [.v (.int .i64 time)]⟩] => some ⟨some (((in64 many ∧ in64 turn ∧ in64 cycle ∧ ∀ x ∈ ticks, in64 x) ∧ in64 time)), (.one ⟨false, [.v (.bool true)]⟩)⟩
  | _ => none

theorem Back8_ok : ConOk Try.prog U GV 4 Back8_S :=
  fn_go gs ty glok (conCons awake08_ok (conCons plan08_ok (conCons pick08_ok (conCons sAt_ok (conCons sTime_ok conNil))))) Try.func4 (by kernel_rfl) fun ds r hg hp => by
    unfold Back8_S at hg
    split at hg
    · rename_i many ticks turn cycle time
      obtain ⟨ticks, rfl⟩ : ∃ q_ : List Int, q_ = ticks := ⟨ticks, rfl⟩
      cases hg
      replace hp : (((in64 many ∧ in64 turn ∧ in64 cycle ∧ ∀ x ∈ ticks, in64 x) ∧ in64 time)) := hp
      refine ⟨fun _ _ => none, (((-9223372036854775808 : Int) ≤ many ∧ many ≤ (9223372036854775807 : Int)) ∧ ((-9223372036854775808 : Int) ≤ turn ∧ turn ≤ (9223372036854775807 : Int)) ∧ ((-9223372036854775808 : Int) ≤ cycle ∧ cycle ≤ (9223372036854775807 : Int)) ∧ ∀ (x : Int), List.Mem x ticks → (-9223372036854775808 : Int) ≤ x ∧ x ≤ (9223372036854775807 : Int)) ∧ (((-9223372036854775808 : Int) ≤ time ∧ time ≤ (9223372036854775807 : Int)) ∧ (0 : Int) < (1099511627776 : Int) ∧ (1099511627776 : Int) ≤ (1099511627776 : Int)) ∧ List.length (planL many ticks turn) ≤ (1000000 : Nat) ∧ List.length (planL many ticks turn) ≤ (1000000 : Nat) ∧ List.length (planL many ticks turn) ≤ (1000000 : Nat) ∧ ((!(er1 (atB (planL many ticks turn) (planC cycle) (pickI time (1099511627776 : Int))) != (0 : Int) || er1 (timeB (planL many ticks turn) (planC cycle) (Spot.cycle (atS (planL many ticks turn) (planC cycle) (pickI time (1099511627776 : Int)))) (Spot.round (atS (planL many ticks turn) (planC cycle) (pickI time (1099511627776 : Int)))) (Spot.slot (atS (planL many ticks turn) (planC cycle) (pickI time (1099511627776 : Int)))) (Spot.tick (atS (planL many ticks turn) (planC cycle) (pickI time (1099511627776 : Int))))) != (0 : Int) || er1 (atB (planL many ticks turn) (planC cycle) (wrap64 (pickI time (1099511627776 : Int) + (1 : Int)))) != (0 : Int) || timeI (planL many ticks turn) (planC cycle) (Spot.cycle (atS (planL many ticks turn) (planC cycle) (pickI time (1099511627776 : Int)))) (Spot.round (atS (planL many ticks turn) (planC cycle) (pickI time (1099511627776 : Int)))) (Spot.slot (atS (planL many ticks turn) (planC cycle) (pickI time (1099511627776 : Int)))) (Spot.tick (atS (planL many ticks turn) (planC cycle) (pickI time (1099511627776 : Int)))) != pickI time (1099511627776 : Int) || decide (Spot.slot (atS (planL many ticks turn) (planC cycle) (pickI time (1099511627776 : Int))) < (0 : Int)) || decide ((↑(List.length (planL many ticks turn)) : Int) ≤ Spot.slot (atS (planL many ticks turn) (planC cycle) (pickI time (1099511627776 : Int)))))) = true → (0 : Int) ≤ Spot.slot (atS (planL many ticks turn) (planC cycle) (pickI time (1099511627776 : Int))) ∧ Spot.slot (atS (planL many ticks turn) (planC cycle) (pickI time (1099511627776 : Int))) < (↑(List.length (planL many ticks turn)) : Int)) ∧ ((er1 (atB (planL many ticks turn) (planC cycle) (pickI time (1099511627776 : Int))) != (0 : Int) || er1 (timeB (planL many ticks turn) (planC cycle) (Spot.cycle (atS (planL many ticks turn) (planC cycle) (pickI time (1099511627776 : Int)))) (Spot.round (atS (planL many ticks turn) (planC cycle) (pickI time (1099511627776 : Int)))) (Spot.slot (atS (planL many ticks turn) (planC cycle) (pickI time (1099511627776 : Int)))) (Spot.tick (atS (planL many ticks turn) (planC cycle) (pickI time (1099511627776 : Int))))) != (0 : Int) || er1 (atB (planL many ticks turn) (planC cycle) (wrap64 (pickI time (1099511627776 : Int) + (1 : Int)))) != (0 : Int) || timeI (planL many ticks turn) (planC cycle) (Spot.cycle (atS (planL many ticks turn) (planC cycle) (pickI time (1099511627776 : Int)))) (Spot.round (atS (planL many ticks turn) (planC cycle) (pickI time (1099511627776 : Int)))) (Spot.slot (atS (planL many ticks turn) (planC cycle) (pickI time (1099511627776 : Int)))) (Spot.tick (atS (planL many ticks turn) (planC cycle) (pickI time (1099511627776 : Int)))) != pickI time (1099511627776 : Int) || decide (Spot.slot (atS (planL many ticks turn) (planC cycle) (pickI time (1099511627776 : Int))) < (0 : Int)) || decide ((↑(List.length (planL many ticks turn)) : Int) ≤ Spot.slot (atS (planL many ticks turn) (planC cycle) (pickI time (1099511627776 : Int)))) || decide (Slot.ticks (List.getD (planL many ticks turn) (Int.toNat (Spot.slot (atS (planL many ticks turn) (planC cycle) (pickI time (1099511627776 : Int))))) (d_slot)) ≤ Spot.tick (atS (planL many ticks turn) (planC cycle) (pickI time (1099511627776 : Int)))) || decide (planC cycle ≤ Spot.round (atS (planL many ticks turn) (planC cycle) (pickI time (1099511627776 : Int))))) = true → Out.one (U := U) (D.mk false [CV.v (Value.bool false)]) = Out.one (U := U) (D.mk false [CV.v (Value.bool true)])) ∧ ((er1 (atB (planL many ticks turn) (planC cycle) (pickI time (1099511627776 : Int))) != (0 : Int) || er1 (timeB (planL many ticks turn) (planC cycle) (Spot.cycle (atS (planL many ticks turn) (planC cycle) (pickI time (1099511627776 : Int)))) (Spot.round (atS (planL many ticks turn) (planC cycle) (pickI time (1099511627776 : Int)))) (Spot.slot (atS (planL many ticks turn) (planC cycle) (pickI time (1099511627776 : Int)))) (Spot.tick (atS (planL many ticks turn) (planC cycle) (pickI time (1099511627776 : Int))))) != (0 : Int) || er1 (atB (planL many ticks turn) (planC cycle) (wrap64 (pickI time (1099511627776 : Int) + (1 : Int)))) != (0 : Int) || timeI (planL many ticks turn) (planC cycle) (Spot.cycle (atS (planL many ticks turn) (planC cycle) (pickI time (1099511627776 : Int)))) (Spot.round (atS (planL many ticks turn) (planC cycle) (pickI time (1099511627776 : Int)))) (Spot.slot (atS (planL many ticks turn) (planC cycle) (pickI time (1099511627776 : Int)))) (Spot.tick (atS (planL many ticks turn) (planC cycle) (pickI time (1099511627776 : Int)))) != pickI time (1099511627776 : Int) || decide (Spot.slot (atS (planL many ticks turn) (planC cycle) (pickI time (1099511627776 : Int))) < (0 : Int)) || decide ((↑(List.length (planL many ticks turn)) : Int) ≤ Spot.slot (atS (planL many ticks turn) (planC cycle) (pickI time (1099511627776 : Int)))) || decide (Slot.ticks (List.getD (planL many ticks turn) (Int.toNat (Spot.slot (atS (planL many ticks turn) (planC cycle) (pickI time (1099511627776 : Int))))) (d_slot)) ≤ Spot.tick (atS (planL many ticks turn) (planC cycle) (pickI time (1099511627776 : Int)))) || decide (planC cycle ≤ Spot.round (atS (planL many ticks turn) (planC cycle) (pickI time (1099511627776 : Int))))) = false → ((0 : Int) ≤ Spot.slot (atS (planL many ticks turn) (planC cycle) (pickI time (1099511627776 : Int))) ∧ Spot.slot (atS (planL many ticks turn) (planC cycle) (pickI time (1099511627776 : Int))) < (↑(List.length (planL many ticks turn)) : Int)) ∧ ((!wrap64 (Spot.tick (atS (planL many ticks turn) (planC cycle) (pickI time (1099511627776 : Int))) + (1 : Int)) == Slot.ticks (List.getD (planL many ticks turn) (Int.toNat (Spot.slot (atS (planL many ticks turn) (planC cycle) (pickI time (1099511627776 : Int))))) (d_slot))) = true → Out.one (U := U) (D.mk false [CV.v (Value.bool (true && (Spot.cycle (atS (planL many ticks turn) (planC cycle) (wrap64 (pickI time (1099511627776 : Int) + (1 : Int)))) == Spot.cycle (atS (planL many ticks turn) (planC cycle) (pickI time (1099511627776 : Int))) && (Spot.round (atS (planL many ticks turn) (planC cycle) (wrap64 (pickI time (1099511627776 : Int) + (1 : Int)))) == Spot.round (atS (planL many ticks turn) (planC cycle) (pickI time (1099511627776 : Int))) && (Spot.slot (atS (planL many ticks turn) (planC cycle) (wrap64 (pickI time (1099511627776 : Int) + (1 : Int)))) == Spot.slot (atS (planL many ticks turn) (planC cycle) (pickI time (1099511627776 : Int))) && Spot.tick (atS (planL many ticks turn) (planC cycle) (wrap64 (pickI time (1099511627776 : Int) + (1 : Int)))) == wrap64 (Spot.tick (atS (planL many ticks turn) (planC cycle) (pickI time (1099511627776 : Int))) + (1 : Int)))))))]) = Out.one (U := U) (D.mk false [CV.v (Value.bool true)])) ∧ ((!wrap64 (Spot.tick (atS (planL many ticks turn) (planC cycle) (pickI time (1099511627776 : Int))) + (1 : Int)) == Slot.ticks (List.getD (planL many ticks turn) (Int.toNat (Spot.slot (atS (planL many ticks turn) (planC cycle) (pickI time (1099511627776 : Int))))) (d_slot))) = false → ((!(wrap64 (Spot.tick (atS (planL many ticks turn) (planC cycle) (pickI time (1099511627776 : Int))) + (1 : Int)) == Slot.ticks (List.getD (planL many ticks turn) (Int.toNat (Spot.slot (atS (planL many ticks turn) (planC cycle) (pickI time (1099511627776 : Int))))) (d_slot)) && wrap64 (Spot.slot (atS (planL many ticks turn) (planC cycle) (pickI time (1099511627776 : Int))) + (1 : Int)) == (↑(List.length (planL many ticks turn)) : Int))) = true → Out.one (U := U) (D.mk false [CV.v (Value.bool (true && (Spot.cycle (atS (planL many ticks turn) (planC cycle) (wrap64 (pickI time (1099511627776 : Int) + (1 : Int)))) == Spot.cycle (atS (planL many ticks turn) (planC cycle) (pickI time (1099511627776 : Int))) && (Spot.round (atS (planL many ticks turn) (planC cycle) (wrap64 (pickI time (1099511627776 : Int) + (1 : Int)))) == Spot.round (atS (planL many ticks turn) (planC cycle) (pickI time (1099511627776 : Int))) && (Spot.slot (atS (planL many ticks turn) (planC cycle) (wrap64 (pickI time (1099511627776 : Int) + (1 : Int)))) == wrap64 (Spot.slot (atS (planL many ticks turn) (planC cycle) (pickI time (1099511627776 : Int))) + (1 : Int)) && Spot.tick (atS (planL many ticks turn) (planC cycle) (wrap64 (pickI time (1099511627776 : Int) + (1 : Int)))) == (0 : Int))))))]) = Out.one (U := U) (D.mk false [CV.v (Value.bool true)])) ∧ ((!(wrap64 (Spot.tick (atS (planL many ticks turn) (planC cycle) (pickI time (1099511627776 : Int))) + (1 : Int)) == Slot.ticks (List.getD (planL many ticks turn) (Int.toNat (Spot.slot (atS (planL many ticks turn) (planC cycle) (pickI time (1099511627776 : Int))))) (d_slot)) && wrap64 (Spot.slot (atS (planL many ticks turn) (planC cycle) (pickI time (1099511627776 : Int))) + (1 : Int)) == (↑(List.length (planL many ticks turn)) : Int))) = false → (decide (wrap64 (Spot.round (atS (planL many ticks turn) (planC cycle) (pickI time (1099511627776 : Int))) + (1 : Int)) < planC cycle) = true → Out.one (U := U) (D.mk false [CV.v (Value.bool (true && (Spot.cycle (atS (planL many ticks turn) (planC cycle) (wrap64 (pickI time (1099511627776 : Int) + (1 : Int)))) == Spot.cycle (atS (planL many ticks turn) (planC cycle) (pickI time (1099511627776 : Int))) && (Spot.round (atS (planL many ticks turn) (planC cycle) (wrap64 (pickI time (1099511627776 : Int) + (1 : Int)))) == wrap64 (Spot.round (atS (planL many ticks turn) (planC cycle) (pickI time (1099511627776 : Int))) + (1 : Int)) && (Spot.slot (atS (planL many ticks turn) (planC cycle) (wrap64 (pickI time (1099511627776 : Int) + (1 : Int)))) == (0 : Int) && Spot.tick (atS (planL many ticks turn) (planC cycle) (wrap64 (pickI time (1099511627776 : Int) + (1 : Int)))) == (0 : Int))))))]) = Out.one (U := U) (D.mk false [CV.v (Value.bool true)])) ∧ (decide (wrap64 (Spot.round (atS (planL many ticks turn) (planC cycle) (pickI time (1099511627776 : Int))) + (1 : Int)) < planC cycle) = false → Out.one (U := U) (D.mk false [CV.v (Value.bool (true && (Spot.cycle (atS (planL many ticks turn) (planC cycle) (wrap64 (pickI time (1099511627776 : Int) + (1 : Int)))) == wrap64 (Spot.cycle (atS (planL many ticks turn) (planC cycle) (pickI time (1099511627776 : Int))) + (1 : Int)) && (Spot.round (atS (planL many ticks turn) (planC cycle) (wrap64 (pickI time (1099511627776 : Int) + (1 : Int)))) == (0 : Int) && (Spot.slot (atS (planL many ticks turn) (planC cycle) (wrap64 (pickI time (1099511627776 : Int) + (1 : Int)))) == (0 : Int) && Spot.tick (atS (planL many ticks turn) (planC cycle) (wrap64 (pickI time (1099511627776 : Int) + (1 : Int)))) == (0 : Int))))))]) = Out.one (U := U) (D.mk false [CV.v (Value.bool true)]))))), by kernel_rfl, ?_⟩
      obtain ⟨hp1, hp2⟩ := hp
      have hpl := plan_right many ticks turn cycle
      have hx := pickI_rng time 1099511627776 (by decide)
      generalize planL many ticks turn = l at hpl
      generalize planC cycle = cy at hpl
      generalize pickI time 1099511627776 = x at hx
      obtain ⟨hlen, hcy, hs⟩ := planR_is hpl
      have hl : l.length ≤ 1000000 := by omega
      obtain ⟨h1, h2⟩ := at_back hpl (t := x) (by omega)
      have hA : atB l cy x = true := by unfold atB; rw [hpl, decide_eq_true (by omega)]; rfl
      have hA1 : atB l cy (x + 1) = true := by unfold atB; rw [hpl, decide_eq_true (by omega)]; rfl
      generalize atS l cy x = s at h1 h2
      obtain ⟨hTB, hTI⟩ := timeB_of h1 (by omega)
      rw [h2] at hTI
      obtain ⟨-, hc, hr, hi, ht⟩ := spotB_is h1
      have hR := sumK_rng hs l.length (Nat.le_refl _)
      have hT := (slotR_is (hs s.slot.toNat (by omega))).2.1
      have hN : timeN l cy s.cycle s.round s.slot s.tick = (s.cycle * cy + s.round) * sumK l l.length + sumK l s.slot.toNat + s.tick := rfl
      have h9 : sumK l (s.slot.toNat + 1) = sumK l s.slot.toNat + (l.getD s.slot.toNat d_slot).ticks := rfl
      have hmono := sumK_rng hs s.slot.toNat (by omega)
      have hc1 : s.cycle * 1 ≤ s.cycle * cy := Int.mul_le_mul_of_nonneg_left (by omega) hc.1
      have hm : (s.cycle * cy + s.round) * 2 ≤ (s.cycle * cy + s.round) * sumK l l.length := Int.mul_le_mul_of_nonneg_left (by omega) (by omega)
      rw [w64 (x := x + 1) (by omega), w64 (x := s.tick + 1) (by omega), w64 (x := s.slot + 1) (by omega), w64 (x := s.round + 1) (by omega), w64 (x := s.cycle + 1) (by omega), hA, hTB, hA1, hTI]
      refine ⟨hp1, ⟨hp2, by decide, by decide⟩, hl, hl, hl, fun _ => hi, fun h => ?_, fun _ => ⟨hi, fun h => ?_, fun h => ⟨fun h3 => ?_, fun h3 => ⟨fun h4 => ?_, fun h4 => ?_⟩⟩⟩⟩
      · exfalso
        simp only [er1_ne, Bool.not_true, bne_self_eq_false, Bool.false_or, Bool.or_eq_true, decide_eq_true_eq] at h
        omega
      · have h : ¬ s.tick + 1 = (l.getD s.slot.toNat d_slot).ticks := by simpa using h
        have e : timeN l cy s.cycle s.round s.slot (s.tick + 1) = x + 1 := by unfold timeN; omega
        have q := at_time (spotB_of hpl hc hr hi (t := s.tick + 1) (by omega)) (by omega)
        rw [e] at q
        rw [q.2]
        simp only [beq_self_eq_true, Bool.and_self]
      · have h : s.tick + 1 = (l.getD s.slot.toNat d_slot).ticks := by simpa using h
        have h3 : ¬ s.slot + 1 = (l.length : Int) := by
          intro c; rw [h, c] at h3; simp at h3
        have hT2 := (slotR_is (hs (s.slot + 1).toNat (by omega))).2.1
        have e0 : (s.slot + 1).toNat = s.slot.toNat + 1 := by omega
        have e : timeN l cy s.cycle s.round (s.slot + 1) 0 = x + 1 := by unfold timeN; rw [e0, h9]; omega
        have q := at_time (spotB_of hpl hc hr (i := s.slot + 1) (t := 0) (by omega) (by omega)) (by omega)
        rw [e] at q
        rw [q.2]
        simp only [beq_self_eq_true, Bool.and_self]
      · have h : s.tick + 1 = (l.getD s.slot.toNat d_slot).ticks := by simpa using h
        have h3 : s.slot + 1 = (l.length : Int) := by simpa [h] using h3
        have h4 := of_decide_eq_true h4
        have hT2 := (slotR_is (hs (Int.toNat 0) (by show 0 < l.length; omega))).2.1
        rw [show s.slot.toNat + 1 = l.length by omega] at h9
        have e : timeN l cy s.cycle (s.round + 1) 0 0 = x + 1 := by
          unfold timeN
          have : sumK l (Int.toNat 0) = 0 := rfl
          rw [this, ← Int.add_assoc, Int.add_mul (s.cycle * cy + s.round), Int.one_mul]; omega
        have q := at_time (spotB_of hpl hc (r := s.round + 1) (i := 0) (t := 0) (by omega) (by omega) (by omega)) (by omega)
        rw [e] at q
        rw [q.2]
        simp only [beq_self_eq_true, Bool.and_self]
      · have h : s.tick + 1 = (l.getD s.slot.toNat d_slot).ticks := by simpa using h
        have h3 : s.slot + 1 = (l.length : Int) := by simpa [h] using h3
        have h4 := of_decide_eq_false h4
        have hT2 := (slotR_is (hs (Int.toNat 0) (by show 0 < l.length; omega))).2.1
        rw [show s.slot.toNat + 1 = l.length by omega] at h9
        have e : timeN l cy (s.cycle + 1) 0 0 0 = x + 1 := by
          unfold timeN
          have : sumK l (Int.toNat 0) = 0 := rfl
          have e1 : (s.cycle + 1) * cy + 0 = s.cycle * cy + s.round + 1 := by rw [Int.add_mul, Int.one_mul]; omega
          rw [this, e1, Int.add_mul (s.cycle * cy + s.round), Int.one_mul]; omega
        have q := at_time (spotB_of hpl (c := s.cycle + 1) (r := 0) (i := 0) (t := 0) (by omega) (by omega) (by omega) (by omega)) (by omega)
        rw [e] at q
        rw [q.2]
        simp only [beq_self_eq_true, Bool.and_self]
    · cases hg

end Go.Proofs.Ytnhgnidpoiolgaa.X
