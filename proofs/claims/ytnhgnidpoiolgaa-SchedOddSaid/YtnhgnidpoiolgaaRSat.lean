/- Where a time stands. -/
import Derived.Test.YtnhgnidpoiolgaaRSched
namespace Go.Proofs.Ytnhgnidpoiolgaa.X
open Go Go.RX Go.RowKit Go.Proofs
set_option linter.unusedVariables false
set_option linter.unusedSimpArgs false
set_option maxHeartbeats 4000000
/-- In which slot of a round tick x is. -/
def posF (l : List Slot) (x : Int) : Nat → Nat → Nat
  | 0, k => k
  | f + 1, k => if x < sumK l (k + 1) then k else posF l x f (k + 1)
def posS (l : List Slot) (x : Int) : Nat := posF l x l.length 0
theorem posF_at (l : List Slot) (x : Int) (k : Nat) (h1 : ∀ j, j < k → sumK l (j + 1) ≤ x) (h2 : x < sumK l (k + 1)) : ∀ f i, i ≤ k → k < i + f → posF l x f i = k
  | 0, i, hi, hk => by omega
  | f + 1, i, hi, hk => by
    unfold posF
    by_cases c : i = k
    · subst c; rw [if_pos h2]
    · have := h1 i (by omega)
      rw [if_neg (by omega)]
      exact posF_at l x k h1 h2 f (i + 1) (by omega) (by omega)
theorem posS_at {l : List Slot} {x : Int} {k : Nat} (hk : k < l.length) (h1 : ∀ j, j < k → sumK l (j + 1) ≤ x) (h2 : x < sumK l (k + 1)) : posS l x = k := posF_at l x k h1 h2 l.length 0 (Nat.zero_le _) (by omega)
theorem sumK_mono {l : List Slot} (h : ∀ i, i < l.length → slotR l i = true) {a b : Nat} (hab : a ≤ b) (hb : b ≤ l.length) : sumK l a + ((b - a : Nat) : Int) ≤ sumK l b := by
  induction b with
  | zero => have : a = 0 := by omega
            subst this; omega
  | succ b ih =>
    by_cases c : a = b + 1
    · subst c; omega
    · have := ih (by omega) (by omega)
      have h1 := (slotR_is (h b (by omega))).2.1
      have e : sumK l (b + 1) = sumK l b + (l.getD b d_slot).ticks := rfl
      rw [e]
      omega
/-- What round k of the search knows. -/
theorem pos_is {l : List Slot} {x : Int} (h : ∀ i, i < l.length → slotR l i = true) {k : Nat} (hk : k < l.length) (h1 : sumK l k ≤ x) (h2 : x < sumK l (k + 1)) : posS l x = k :=
  posS_at hk (fun j hj => by
    have := sumK_mono h (a := j + 1) (b := k) (by omega) (by omega)
    omega) h2
def er1 (b : Bool) : Int := if b = true then 0 else 1
def atB (l : List Slot) (cy t : Int) : Bool := planR l cy && decide (0 ≤ t ∧ t ≤ 1099511627776)
def atS (l : List Slot) (cy t : Int) : Spot := if atB l cy t = true then ⟨t / sumK l l.length / cy, t / sumK l l.length % cy, (posS l (t % sumK l l.length) : Int), t % sumK l l.length - sumK l (posS l (t % sumK l l.length))⟩ else ⟨0, 0, 0, 0⟩
theorem at_no {l : List Slot} {cy t : Int} (h : atB l cy t = false) : atS l cy t = ⟨0, 0, 0, 0⟩ := by unfold atS; rw [h]; rfl
theorem atB_is (l : List Slot) (cy t : Int) : atB l cy t = !(!planR l cy || decide (t < 0) || decide ((1099511627776 : Int) < t)) := by
  unfold atB
  cases planR l cy with
  | false => rfl
  | true =>
    rw [Bool.true_and, Bool.not_true, Bool.false_or, Bool.eq_iff_iff]
    simp only [decide_eq_true_eq, Bool.not_eq_true', Bool.or_eq_false_iff, decide_eq_false_iff_not]
    omega
def r8At_S : RX.Spec U := fun
  | [⟨true, [.sl .slot l, .v (.int .i64 cy)]⟩, ⟨false, [.v (.int .i64 t)]⟩] => some ⟨some (l.length ≤ 1000000), (.tup [⟨true, [.v (.int .i64 ((atS l cy t).cycle)), .v (.int .i64 ((atS l cy t).round)), .v (.int .i64 ((atS l cy t).slot)), .v (.int .i64 ((atS l cy t).tick))]⟩, ⟨false, [.v (.int .i64 (er1 (atB l cy t)))]⟩])⟩
  | _ => none

theorem r8At_ok : ConOk Try.prog U GV 20 r8At_S :=
  fn_go gs ty glok (conCons r8Right_ok (conCons r8Round_ok conNil)) Try.func20 (by kernel_rfl) fun ds r hg hp => by
    unfold r8At_S at hg
    split at hg
    · rename_i l cy t
      obtain ⟨l, rfl⟩ : ∃ q_ : List Slot, q_ = l := ⟨l, rfl⟩
      cases hg
      replace hp : (l.length ≤ 1000000) := hp
      refine ⟨fun st key => if key = 5 then some { N := l.length, mods := fun k => [.cv 7 2 (.int .i64 (k : Int)), .cv 7 3 (.int .i64 (t % sumK l l.length - sumK l k))], inv := fun k => k < l.length ∧ sumK l k ≤ t % sumK l l.length } else none, List.length l ≤ (1000000 : Nat) ∧ ((!planR l cy || decide (t < (0 : Int)) || decide ((1099511627776 : Int) < t)) = true → Out.tup (U := U) [D.mk true [CV.v (Value.int IntKind.i64 (0 : Int)), CV.v (Value.int IntKind.i64 (0 : Int)), CV.v (Value.int IntKind.i64 (0 : Int)), CV.v (Value.int IntKind.i64 (0 : Int))], D.mk false [CV.v (Value.int IntKind.i64 (1 : Int))]] = Out.tup (U := U) [D.mk true [CV.v (Value.int IntKind.i64 (Spot.cycle (atS l cy t))), CV.v (Value.int IntKind.i64 (Spot.round (atS l cy t))), CV.v (Value.int IntKind.i64 (Spot.slot (atS l cy t))), CV.v (Value.int IntKind.i64 (Spot.tick (atS l cy t)))], D.mk false [CV.v (Value.int IntKind.i64 (er1 (atB l cy t)))]]) ∧ ((!planR l cy || decide (t < (0 : Int)) || decide ((1099511627776 : Int) < t)) = false → List.length l ≤ (1000000 : Nat) ∧ roundS l cy ≠ (0 : Int) ∧ cy ≠ (0 : Int) ∧ roundS l cy ≠ (0 : Int) ∧ cy ≠ (0 : Int) ∧ roundS l cy ≠ (0 : Int) ∧ ((0 : Nat) < List.length l ∧ sumK l (0 : Nat) ≤ t % sumK l (List.length l)) ∧ (Value.int IntKind.i64 (0 : Int) = Value.int IntKind.i64 (0 : Int) ∧ Value.int IntKind.i64 (Int.tmod t (roundS l cy)) = Value.int IntKind.i64 (t % sumK l (List.length l) - sumK l (0 : Nat))) ∧ ∀ (k : Nat), k ≤ List.length l → k < List.length l ∧ sumK l k ≤ t % sumK l (List.length l) → ((0 : Int) ≤ (↑k : Int) ∧ (↑k : Int) < (↑(List.length l) : Int)) ∧ (decide (Slot.ticks (List.getD l (Int.toNat (↑k : Int)) (d_slot)) ≤ t % sumK l (List.length l) - sumK l k) = true → ((0 : Int) ≤ (↑k : Int) ∧ (↑k : Int) < (↑(List.length l) : Int)) ∧ k < List.length l ∧ (k + (1 : Nat) < List.length l ∧ sumK l (k + (1 : Nat)) ≤ t % sumK l (List.length l)) ∧ Value.int IntKind.i64 (wrap64 ((↑k : Int) + (1 : Int))) = Value.int IntKind.i64 (↑(k + (1 : Nat)) : Int) ∧ Value.int IntKind.i64 (wrap64 (t % sumK l (List.length l) - sumK l k - Slot.ticks (List.getD l (Int.toNat (↑k : Int)) (d_slot)))) = Value.int IntKind.i64 (t % sumK l (List.length l) - sumK l (k + (1 : Nat)))) ∧ (decide (Slot.ticks (List.getD l (Int.toNat (↑k : Int)) (d_slot)) ≤ t % sumK l (List.length l) - sumK l k) = false → Out.tup (U := U) [D.mk true [CV.v (Value.int IntKind.i64 (wrap64 (Int.tdiv (wrap64 (Int.tdiv t (roundS l cy))) cy))), CV.v (Value.int IntKind.i64 (Int.tmod (wrap64 (Int.tdiv t (roundS l cy))) cy)), CV.v (Value.int IntKind.i64 (↑k : Int)), CV.v (Value.int IntKind.i64 (t % sumK l (List.length l) - sumK l k))], D.mk false [CV.v (Value.int IntKind.i64 (0 : Int))]] = Out.tup (U := U) [D.mk true [CV.v (Value.int IntKind.i64 (Spot.cycle (atS l cy t))), CV.v (Value.int IntKind.i64 (Spot.round (atS l cy t))), CV.v (Value.int IntKind.i64 (Spot.slot (atS l cy t))), CV.v (Value.int IntKind.i64 (Spot.tick (atS l cy t)))], D.mk false [CV.v (Value.int IntKind.i64 (er1 (atB l cy t)))]])), by kernel_rfl, ?_⟩
      have hB := atB_is l cy t
      refine ⟨hp, fun h => ?_, fun h => ?_⟩
      · rw [h] at hB
        rw [at_no hB, hB]; rfl
      · rw [h] at hB
        simp only [Bool.or_eq_false_iff, decide_eq_false_iff_not, Bool.not_eq_false'] at h
        obtain ⟨⟨hpl, ht0⟩, ht1⟩ := h
        obtain ⟨hlen, hcy, hr⟩ := planR_is hpl
        have hR := sumK_rng hr l.length (Nat.le_refl _)
        have eR : roundS l cy = sumK l l.length := if_pos hpl
        have hx := Int.emod_nonneg t (show sumK l l.length ≠ 0 by omega)
        have hx2 := Int.emod_lt_of_pos t (show 0 < sumK l l.length by omega)
        have hq := Int.ediv_nonneg (show 0 ≤ t by omega) (show 0 ≤ sumK l l.length by omega)
        have hq2 : t / sumK l l.length ≤ t := Int.ediv_le_self _ (by omega)
        have e1 : Int.tmod t (sumK l l.length) = t % sumK l l.length := Int.tmod_eq_emod_of_nonneg (by omega)
        have e2 : Int.tdiv t (sumK l l.length) = t / sumK l l.length := Int.tdiv_eq_ediv_of_nonneg (by omega)
        have hS : atS l cy t = ⟨t / sumK l l.length / cy, t / sumK l l.length % cy, (posS l (t % sumK l l.length) : Int), t % sumK l l.length - sumK l (posS l (t % sumK l l.length))⟩ := if_pos hB
        rw [eR, e1, e2, w64 (x := t / sumK l l.length) (by omega)]
        generalize t / sumK l l.length = q at hq hq2 hS
        generalize t % sumK l l.length = x at hx hx2 hS
        have e3 : Int.tdiv q cy = q / cy := Int.tdiv_eq_ediv_of_nonneg (by omega)
        have e4 : Int.tmod q cy = q % cy := Int.tmod_eq_emod_of_nonneg (by omega)
        have hq3 : q / cy ≤ q := Int.ediv_le_self _ (by omega)
        have hq4 := Int.ediv_nonneg (show 0 ≤ q by omega) (show 0 ≤ cy by omega)
        rw [e3, e4, w64 (x := q / cy) (by omega)]
        have s0 : sumK l 0 = 0 := rfl
        refine ⟨hp, by omega, by omega, by omega, by omega, by omega, ⟨by omega, by omega⟩, ⟨rfl, by rw [s0, Int.sub_zero]⟩, fun k hk ⟨hk1, hk2⟩ => ?_⟩
        have h1 := sumK_rng hr k hk
        have h2 := (slotR_is (hr k hk1)).2.1
        have h3 : sumK l (k + 1) = sumK l k + (l.getD k d_slot).ticks := rfl
        rw [Int.toNat_natCast]
        refine ⟨⟨by omega, by omega⟩, fun hc => ?_, fun hc => ?_⟩
        · have hc := of_decide_eq_true hc
          have hk3 : k + 1 < l.length := by
            rcases Nat.lt_or_ge (k + 1) l.length with q1 | q1
            · exact q1
            · have : k + 1 = l.length := by omega
              rw [← this] at hx2; omega
          refine ⟨⟨by omega, by omega⟩, hk1, ⟨hk3, by omega⟩, by rw [w64 (by omega)]; rfl, ?_⟩
          rw [h3, w64 (by omega)]
          congr 1; omega
        · have hc := of_decide_eq_false hc
          have hpos := pos_is hr hk1 hk2 (by omega)
          rw [hS, hB]
          rw [hpos]; rfl
    · cases hg

def sAt_S : RX.Spec U := fun
  | [⟨true, [.sl .slot l, .v (.int .i64 cy)]⟩, ⟨false, [.v (.int .i64 t)]⟩] => some ⟨some (l.length ≤ 1000000), (.tup [⟨true, [.v (.int .i64 ((atS l cy t).cycle)), .v (.int .i64 ((atS l cy t).round)), .v (.int .i64 ((atS l cy t).slot)), .v (.int .i64 ((atS l cy t).tick))]⟩, ⟨false, [.v (.int .i64 (er1 (atB l cy t)))]⟩])⟩
  | _ => none

theorem sAt_ok : ConOk Try.prog U GV 21 sAt_S :=
  fn_go gs ty glok (conCons sRight_ok (conCons sRound_ok conNil)) Try.func21 (by kernel_rfl) fun ds r hg hp => by
    unfold sAt_S at hg
    split at hg
    · rename_i l cy t
      obtain ⟨l, rfl⟩ : ∃ q_ : List Slot, q_ = l := ⟨l, rfl⟩
      cases hg
      replace hp : (l.length ≤ 1000000) := hp
      refine ⟨fun st key => if key = 5000000 then some { N := l.length, mods := fun k => [.tv 7 (.complex .f64 (fB (t / sumK l l.length).toNat) (fB (k + 1))), .tv 8 (.int .i64 (t % sumK l l.length - sumK l (k + 1)))], inv := fun k => k + 1 < l.length ∧ sumK l (k + 1) ≤ t % sumK l l.length } else none, List.length l ≤ (1000000 : Nat) ∧ ((!planR l cy || decide (t < (0 : Int)) || decide ((1099511627776 : Int) < t)) = true → Out.tup (U := U) [D.mk true [CV.v (Value.int IntKind.i64 (0 : Int)), CV.v (Value.int IntKind.i64 (0 : Int)), CV.v (Value.int IntKind.i64 (0 : Int)), CV.v (Value.int IntKind.i64 (0 : Int))], D.mk false [CV.v (Value.int IntKind.i64 (1 : Int))]] = Out.tup (U := U) [D.mk true [CV.v (Value.int IntKind.i64 (Spot.cycle (atS l cy t))), CV.v (Value.int IntKind.i64 (Spot.round (atS l cy t))), CV.v (Value.int IntKind.i64 (Spot.slot (atS l cy t))), CV.v (Value.int IntKind.i64 (Spot.tick (atS l cy t)))], D.mk false [CV.v (Value.int IntKind.i64 (er1 (atB l cy t)))]]) ∧ ((!planR l cy || decide (t < (0 : Int)) || decide ((1099511627776 : Int) < t)) = false → List.length l ≤ (1000000 : Nat) ∧ roundS l cy ≠ (0 : Int) ∧ roundS l cy ≠ (0 : Int) ∧ true = true ∧ ((0 : Int) ≤ (0 : Int) ∧ (0 : Int) < (↑(List.length l) : Int)) ∧ (decide (Slot.ticks (List.getD l (0 : Nat) (d_slot)) ≤ Int.tmod t (roundS l cy)) = true → (fOn BinOp.add FloatKind.f64 (floatOfInt FloatKind.f64 (wrap64 (Int.tdiv t (roundS l cy)))) (0 : Nat) = true ∧ true = true) ∧ ((1 : Nat) < List.length l ∧ sumK l (1 : Nat) ≤ t % sumK l (List.length l)) ∧ (Value.complex FloatKind.f64 (fA BinOp.add FloatKind.f64 (floatOfInt FloatKind.f64 (wrap64 (Int.tdiv t (roundS l cy)))) (0 : Nat)) (4607182418800017408 : Nat) = Value.complex FloatKind.f64 (fB (Int.toNat (t / sumK l (List.length l)))) (4607182418800017408 : Nat) ∧ Value.int IntKind.i64 (wrap64 (Int.tmod t (roundS l cy) - Slot.ticks (List.getD l (0 : Nat) (d_slot)))) = Value.int IntKind.i64 (t % sumK l (List.length l) - sumK l (1 : Nat))) ∧ ∀ (k : Nat), k ≤ List.length l → k + (1 : Nat) < List.length l ∧ sumK l (k + (1 : Nat)) ≤ t % sumK l (List.length l) → fIn FloatKind.f64 (fB (k + (1 : Nat))) IntKind.i64 = true ∧ ((0 : Int) ≤ fI FloatKind.f64 (fB (k + (1 : Nat))) IntKind.i64 ∧ fI FloatKind.f64 (fB (k + (1 : Nat))) IntKind.i64 < (↑(List.length l) : Int)) ∧ (decide (Slot.ticks (List.getD l (Int.toNat (fI FloatKind.f64 (fB (k + (1 : Nat))) IntKind.i64)) (d_slot)) ≤ t % sumK l (List.length l) - sumK l (k + (1 : Nat))) = true → (fOn BinOp.add FloatKind.f64 (fB (Int.toNat (t / sumK l (List.length l)))) (0 : Nat) = true ∧ fOn BinOp.add FloatKind.f64 (fB (k + (1 : Nat))) (4607182418800017408 : Nat) = true) ∧ k < List.length l ∧ (k + (1 : Nat) + (1 : Nat) < List.length l ∧ sumK l (k + (1 : Nat) + (1 : Nat)) ≤ t % sumK l (List.length l)) ∧ Value.complex FloatKind.f64 (fA BinOp.add FloatKind.f64 (fB (Int.toNat (t / sumK l (List.length l)))) (0 : Nat)) (fA BinOp.add FloatKind.f64 (fB (k + (1 : Nat))) (4607182418800017408 : Nat)) = Value.complex FloatKind.f64 (fB (Int.toNat (t / sumK l (List.length l)))) (fB (k + (1 : Nat) + (1 : Nat))) ∧ Value.int IntKind.i64 (wrap64 (t % sumK l (List.length l) - sumK l (k + (1 : Nat)) - Slot.ticks (List.getD l (Int.toNat (fI FloatKind.f64 (fB (k + (1 : Nat))) IntKind.i64)) (d_slot)))) = Value.int IntKind.i64 (t % sumK l (List.length l) - sumK l (k + (1 : Nat) + (1 : Nat)))) ∧ (decide (Slot.ticks (List.getD l (Int.toNat (fI FloatKind.f64 (fB (k + (1 : Nat))) IntKind.i64)) (d_slot)) ≤ t % sumK l (List.length l) - sumK l (k + (1 : Nat))) = false → fIn FloatKind.f64 (fB (k + (1 : Nat))) IntKind.i64 = true ∧ fIn FloatKind.f64 (fB (Int.toNat (t / sumK l (List.length l)))) IntKind.i64 = true ∧ (↑(List.length l) : Int) ≠ (0 : Int) ∧ cy ≠ (0 : Int) ∧ cy ≠ (0 : Int) ∧ (↑(List.length l) : Int) ≠ (0 : Int) ∧ Out.tup (U := U) [D.mk true [CV.v (Value.int IntKind.i64 (wrap64 (Int.tdiv (wrap64 (fI FloatKind.f64 (fB (Int.toNat (t / sumK l (List.length l)))) IntKind.i64 + wrap64 (Int.tdiv (fI FloatKind.f64 (fB (k + (1 : Nat))) IntKind.i64) (↑(List.length l) : Int)))) cy))), CV.v (Value.int IntKind.i64 (Int.tmod (wrap64 (fI FloatKind.f64 (fB (Int.toNat (t / sumK l (List.length l)))) IntKind.i64 + wrap64 (Int.tdiv (fI FloatKind.f64 (fB (k + (1 : Nat))) IntKind.i64) (↑(List.length l) : Int)))) cy)), CV.v (Value.int IntKind.i64 (Int.tmod (fI FloatKind.f64 (fB (k + (1 : Nat))) IntKind.i64) (↑(List.length l) : Int))), CV.v (Value.int IntKind.i64 (t % sumK l (List.length l) - sumK l (k + (1 : Nat))))], D.mk false [CV.v (Value.int IntKind.i64 (0 : Int))]] = Out.tup (U := U) [D.mk true [CV.v (Value.int IntKind.i64 (Spot.cycle (atS l cy t))), CV.v (Value.int IntKind.i64 (Spot.round (atS l cy t))), CV.v (Value.int IntKind.i64 (Spot.slot (atS l cy t))), CV.v (Value.int IntKind.i64 (Spot.tick (atS l cy t)))], D.mk false [CV.v (Value.int IntKind.i64 (er1 (atB l cy t)))]])) ∧ (decide (Slot.ticks (List.getD l (0 : Nat) (d_slot)) ≤ Int.tmod t (roundS l cy)) = false → true = true ∧ fIn FloatKind.f64 (floatOfInt FloatKind.f64 (wrap64 (Int.tdiv t (roundS l cy)))) IntKind.i64 = true ∧ (↑(List.length l) : Int) ≠ (0 : Int) ∧ cy ≠ (0 : Int) ∧ cy ≠ (0 : Int) ∧ (↑(List.length l) : Int) ≠ (0 : Int) ∧ Out.tup (U := U) [D.mk true [CV.v (Value.int IntKind.i64 (wrap64 (Int.tdiv (wrap64 (fI FloatKind.f64 (floatOfInt FloatKind.f64 (wrap64 (Int.tdiv t (roundS l cy)))) IntKind.i64 + wrap64 (Int.tdiv (0 : Int) (↑(List.length l) : Int)))) cy))), CV.v (Value.int IntKind.i64 (Int.tmod (wrap64 (fI FloatKind.f64 (floatOfInt FloatKind.f64 (wrap64 (Int.tdiv t (roundS l cy)))) IntKind.i64 + wrap64 (Int.tdiv (0 : Int) (↑(List.length l) : Int)))) cy)), CV.v (Value.int IntKind.i64 (Int.tmod (0 : Int) (↑(List.length l) : Int))), CV.v (Value.int IntKind.i64 (Int.tmod t (roundS l cy)))], D.mk false [CV.v (Value.int IntKind.i64 (0 : Int))]] = Out.tup (U := U) [D.mk true [CV.v (Value.int IntKind.i64 (Spot.cycle (atS l cy t))), CV.v (Value.int IntKind.i64 (Spot.round (atS l cy t))), CV.v (Value.int IntKind.i64 (Spot.slot (atS l cy t))), CV.v (Value.int IntKind.i64 (Spot.tick (atS l cy t)))], D.mk false [CV.v (Value.int IntKind.i64 (er1 (atB l cy t)))]])), by kernel_rfl, ?_⟩
      have hB := atB_is l cy t
      refine ⟨hp, fun h => ?_, fun h => ?_⟩
      · rw [h] at hB
        rw [at_no hB, hB]; rfl
      · rw [h] at hB
        simp only [Bool.or_eq_false_iff, decide_eq_false_iff_not, Bool.not_eq_false'] at h
        obtain ⟨⟨hpl, ht0⟩, ht1⟩ := h
        obtain ⟨hlen, hcy, hr⟩ := planR_is hpl
        have hR := sumK_rng hr l.length (Nat.le_refl _)
        have eR : roundS l cy = sumK l l.length := if_pos hpl
        have hx := Int.emod_nonneg t (show sumK l l.length ≠ 0 by omega)
        have hx2 := Int.emod_lt_of_pos t (show 0 < sumK l l.length by omega)
        have hq := Int.ediv_nonneg (show 0 ≤ t by omega) (show 0 ≤ sumK l l.length by omega)
        have hq2 : t / sumK l l.length ≤ t := Int.ediv_le_self _ (by omega)
        have e1 : Int.tmod t (sumK l l.length) = t % sumK l l.length := Int.tmod_eq_emod_of_nonneg (by omega)
        have e2 : Int.tdiv t (sumK l l.length) = t / sumK l l.length := Int.tdiv_eq_ediv_of_nonneg (by omega)
        have hS : atS l cy t = ⟨t / sumK l l.length / cy, t / sumK l l.length % cy, (posS l (t % sumK l l.length) : Int), t % sumK l l.length - sumK l (posS l (t % sumK l l.length))⟩ := if_pos hB
        rw [eR, e1, e2, w64 (x := t / sumK l l.length) (by omega)]
        generalize t / sumK l l.length = q at hq hq2 hS
        generalize t % sumK l l.length = x at hx hx2 hS
        obtain ⟨n, rfl⟩ := Int.eq_ofNat_of_zero_le hq
        have hn : n ≤ 1099511627776 := by omega
        have e3 : Int.tdiv (n : Int) cy = (n : Int) / cy := Int.tdiv_eq_ediv_of_nonneg (by omega)
        have e4 : Int.tmod (n : Int) cy = (n : Int) % cy := Int.tmod_eq_emod_of_nonneg (by omega)
        have hq3 : (n : Int) / cy ≤ (n : Int) := Int.ediv_le_self _ (by omega)
        have hq4 := Int.ediv_nonneg (show 0 ≤ (n : Int) by omega) (show 0 ≤ cy by omega)
        have f0 : Unit → (fOn .add .f64 (fB n) 0 = true ∧ fA .add .f64 (fB n) 0 = fB n) := fun _ => by
          have := fl_add (m := n) (n := 0) (by omega)
          rw [fB_zero, Nat.add_zero] at this; exact this
        have f1 : ∀ k : Nat, k ≤ 20 → fOn .add .f64 (fB (k + 1)) 4607182418800017408 = true ∧ fA .add .f64 (fB (k + 1)) 4607182418800017408 = fB (k + 1 + 1) := fun k hk => by
          have := fl_add (m := k + 1) (n := 1) (by omega)
          rw [← fl_one] at this; exact this
        have qi : Unit → (fIn .f64 (fB n) .i64 = true ∧ fI .f64 (fB n) .i64 = (n : Int)) := fun _ => fl_int (n := n) (by omega)
        rw [fl_of (x := (n : Int)) (by omega), Int.toNat_natCast]
        have s0 : sumK l 0 = 0 := rfl
        have s1 : sumK l 1 = sumK l 0 + (l.getD 0 d_slot).ticks := rfl
        have t0 := (slotR_is (hr 0 (by omega))).2.1
        refine ⟨hp, by omega, by omega, rfl, ⟨by decide, by omega⟩, fun hc => ?_, fun hc => ?_⟩
        · have hc := of_decide_eq_true hc
          have hl1 : 1 < l.length := by omega
          refine ⟨⟨(f0 ()).1, rfl⟩, ⟨hl1, by omega⟩, ⟨by rw [(f0 ()).2], ?_⟩, fun k hk ⟨hk1, hk2⟩ => ?_⟩
          · rw [w64 (by omega)]; congr 1; omega
          have ki : Unit → (fIn .f64 (fB (k + 1)) .i64 = true ∧ fI .f64 (fB (k + 1)) .i64 = ((k + 1 : Nat) : Int)) := fun _ => fl_int (n := k + 1) (by omega)
          have h1 := sumK_rng hr (k + 1) (by omega)
          have h2 := (slotR_is (hr (k + 1) hk1)).2.1
          have h3 : sumK l (k + 1 + 1) = sumK l (k + 1) + (l.getD (k + 1) d_slot).ticks := rfl
          rw [(ki ()).2, (qi ()).2, Int.toNat_natCast]
          refine ⟨(ki ()).1, ⟨by omega, by omega⟩, fun hc2 => ?_, fun hc2 => ?_⟩
          · have hc2 := of_decide_eq_true hc2
            have hk3 : k + 1 + 1 < l.length := by
              rcases Nat.lt_or_ge (k + 1 + 1) l.length with q1 | q1
              · exact q1
              · have : k + 1 + 1 = l.length := by omega
                rw [← this] at hx2; omega
            refine ⟨⟨(f0 ()).1, (f1 k (by omega)).1⟩, by omega, ⟨hk3, by omega⟩, by rw [(f0 ()).2, (f1 k (by omega)).2], ?_⟩
            rw [h3, w64 (by omega)]
            congr 1; omega
          · have hc2 := of_decide_eq_false hc2
            have hpos := pos_is hr hk1 hk2 (by omega)
            have e5 : Int.tdiv ((k + 1 : Nat) : Int) (l.length : Int) = 0 := by
              rw [Int.tdiv_eq_ediv_of_nonneg (by omega)]; exact Int.ediv_eq_zero_of_lt (by omega) (by omega)
            have e6 : Int.tmod ((k + 1 : Nat) : Int) (l.length : Int) = ((k + 1 : Nat) : Int) := by
              rw [Int.tmod_eq_emod_of_nonneg (by omega)]; exact Int.emod_eq_of_lt (by omega) (by omega)
            refine ⟨(ki ()).1, (qi ()).1, by omega, by omega, by omega, by omega, ?_⟩
            rw [e5, e6, w64 (x := 0) (by omega), Int.add_zero, w64 (x := (n : Int)) (by omega), e3, e4, w64 (x := (n : Int) / cy) (by omega), hS, hB, hpos]
            rfl
        · have hc := of_decide_eq_false hc
          have hpos := pos_is (x := x) hr (k := 0) (by omega) (by omega) (by show x < sumK l 1; omega)
          refine ⟨rfl, (qi ()).1, by omega, by omega, by omega, by omega, ?_⟩
          rw [(qi ()).2, Int.zero_tdiv, Int.zero_tmod, w64 (x := 0) (by omega), Int.add_zero, w64 (x := (n : Int)) (by omega), e3, e4, w64 (x := (n : Int) / cy) (by omega), hS, hB, hpos]
          show _ = Out.tup [D.mk true [_, _, _, CV.v (Value.int IntKind.i64 (x - sumK l 0))], _]
          rw [s0, Int.sub_zero]; rfl
    · cases hg

end Go.Proofs.Ytnhgnidpoiolgaa.X
