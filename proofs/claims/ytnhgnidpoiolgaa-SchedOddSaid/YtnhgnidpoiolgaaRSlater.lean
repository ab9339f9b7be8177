/- So many slots later. -/
import Derived.Test.YtnhgnidpoiolgaaRStime
namespace Go.Proofs.Ytnhgnidpoiolgaa.X
open Go Go.RX Go.RowKit Go.Proofs
set_option linter.unusedVariables false
set_option linter.unusedSimpArgs false
set_option maxHeartbeats 400000
/-- The spot n slots later, be it within bounds or not. -/
def laterO (l : List Slot) (cy c r i n : Int) : Spot := ⟨c + (r + (i + n) / (l.length : Int)) / cy, (r + (i + n) / (l.length : Int)) % cy, (i + n) % (l.length : Int), 0⟩
def laterB (l : List Slot) (cy c r i t n : Int) : Bool := timeB l cy c r i t && decide (0 ≤ n ∧ n ≤ 1073741824) && (decide (n = 0) || timeB l cy (laterO l cy c r i n).cycle (laterO l cy c r i n).round (laterO l cy c r i n).slot 0)
def laterS (l : List Slot) (cy c r i t n : Int) : Spot := if laterB l cy c r i t n = true then if n = 0 then ⟨c, r, i, t⟩ else laterO l cy c r i n else ⟨0, 0, 0, 0⟩
theorem er1_ne (b : Bool) : (er1 b != 0) = !b := by cases b <;> rfl
theorem spotB_is {l : List Slot} {cy c r i t : Int} (h : spotB l cy c r i t = true) : planR l cy = true ∧ (0 ≤ c ∧ c ≤ 1099511627776) ∧ (0 ≤ r ∧ r < cy) ∧ (0 ≤ i ∧ i < (l.length : Int)) ∧ (0 ≤ t ∧ t < (l.getD i.toNat d_slot).ticks) := by
  unfold spotB at h
  simp only [Bool.and_eq_true, decide_eq_true_eq] at h
  exact ⟨h.1.1.1.1, h.1.1.1.2, h.1.1.2, h.1.2, h.2⟩
theorem timeB_is {l : List Slot} {cy c r i t : Int} (h : timeB l cy c r i t = true) : spotB l cy c r i t = true ∧ timeN l cy c r i t ≤ 1099511627776 := by
  unfold timeB at h
  simp only [Bool.and_eq_true, decide_eq_true_eq] at h
  exact h
theorem laterB_is (l : List Slot) (cy c r i t n : Int) : laterB l cy c r i t n = (!(er1 (timeB l cy c r i t) != (0 : Int) || decide (n < (0 : Int)) || decide ((1073741824 : Int) < n)) && (decide (n = 0) || timeB l cy (laterO l cy c r i n).cycle (laterO l cy c r i n).round (laterO l cy c r i n).slot 0)) := by
  unfold laterB
  generalize timeB l cy (laterO l cy c r i n).cycle (laterO l cy c r i n).round (laterO l cy c r i n).slot 0 = z
  rw [er1_ne]
  cases timeB l cy c r i t with
  | false => rfl
  | true =>
    rw [Bool.true_and, Bool.not_true, Bool.false_or]
    congr 1
    rw [Bool.eq_iff_iff]
    simp only [decide_eq_true_eq, Bool.not_eq_true', Bool.or_eq_false_iff, decide_eq_false_iff_not]
    omega
theorem later_no {l : List Slot} {cy c r i t n : Int} (h : laterB l cy c r i t n = false) : laterS l cy c r i t n = ⟨0, 0, 0, 0⟩ := by unfold laterS; rw [h]; rfl
/-- What both know where a spot is one and so many slots are some. -/
theorem later_rng {l : List Slot} {cy c r i t n : Int} (h : (er1 (timeB l cy c r i t) != (0 : Int) || decide (n < (0 : Int)) || decide ((1073741824 : Int) < n)) = false) : timeB l cy c r i t = true ∧ (2 ≤ l.length ∧ l.length ≤ 16) ∧ (1 ≤ cy ∧ cy ≤ 64) ∧ (0 ≤ c ∧ c ≤ 1099511627776) ∧ (0 ≤ r ∧ r < cy) ∧ (0 ≤ i ∧ i < (l.length : Int)) ∧ (0 ≤ n ∧ n ≤ 1073741824) := by
  simp only [er1_ne, Bool.or_eq_false_iff, Bool.not_eq_false', decide_eq_false_iff_not] at h
  obtain ⟨⟨hb, h0⟩, h1⟩ := h
  obtain ⟨hpl, hc, hr, hi, ht⟩ := spotB_is (timeB_is hb).1
  obtain ⟨hlen, hcy, _⟩ := planR_is hpl
  exact ⟨hb, hlen, hcy, hc, hr, hi, by omega, by omega⟩
def r8Later_S : RX.Spec U := fun
  | [⟨true, [.sl .slot l, .v (.int .i64 cy)]⟩, ⟨true, [.v (.int .i64 c), .v (.int .i64 r), .v (.int .i64 i), .v (.int .i64 t)]⟩, ⟨false, [.v (.int .i64 n)]⟩] => some ⟨some (l.length ≤ 1000000), (.tup [⟨true, [.v (.int .i64 ((laterS l cy c r i t n).cycle)), .v (.int .i64 ((laterS l cy c r i t n).round)), .v (.int .i64 ((laterS l cy c r i t n).slot)), .v (.int .i64 ((laterS l cy c r i t n).tick))]⟩, ⟨false, [.v (.int .i64 (er1 (laterB l cy c r i t n)))]⟩])⟩
  | _ => none

theorem r8Later_ok : ConOk Try.prog U GV 25 r8Later_S :=
  fn_go gs ty glok (conCons r8Time_ok conNil) Try.func25 (by kernel_rfl) fun ds r hg hp => by
    unfold r8Later_S at hg
    split at hg
    · rename_i l cy c r i t n
      obtain ⟨l, rfl⟩ : ∃ q_ : List Slot, q_ = l := ⟨l, rfl⟩
      cases hg
      replace hp : (l.length ≤ 1000000) := hp
      refine ⟨fun _ _ => none, List.length l ≤ (1000000 : Nat) ∧ ((er1 (timeB l cy c r i t) != (0 : Int) || decide (n < (0 : Int)) || decide ((1073741824 : Int) < n)) = true → Out.tup (U := U) [D.mk true [CV.v (Value.int IntKind.i64 (0 : Int)), CV.v (Value.int IntKind.i64 (0 : Int)), CV.v (Value.int IntKind.i64 (0 : Int)), CV.v (Value.int IntKind.i64 (0 : Int))], D.mk false [CV.v (Value.int IntKind.i64 (1 : Int))]] = Out.tup (U := U) [D.mk true [CV.v (Value.int IntKind.i64 (Spot.cycle (laterS l cy c r i t n))), CV.v (Value.int IntKind.i64 (Spot.round (laterS l cy c r i t n))), CV.v (Value.int IntKind.i64 (Spot.slot (laterS l cy c r i t n))), CV.v (Value.int IntKind.i64 (Spot.tick (laterS l cy c r i t n)))], D.mk false [CV.v (Value.int IntKind.i64 (er1 (laterB l cy c r i t n)))]]) ∧ ((er1 (timeB l cy c r i t) != (0 : Int) || decide (n < (0 : Int)) || decide ((1073741824 : Int) < n)) = false → ((n == (0 : Int)) = true → Out.tup (U := U) [D.mk true [CV.v (Value.int IntKind.i64 c), CV.v (Value.int IntKind.i64 r), CV.v (Value.int IntKind.i64 i), CV.v (Value.int IntKind.i64 t)], D.mk false [CV.v (Value.int IntKind.i64 (0 : Int))]] = Out.tup (U := U) [D.mk true [CV.v (Value.int IntKind.i64 (Spot.cycle (laterS l cy c r i t n))), CV.v (Value.int IntKind.i64 (Spot.round (laterS l cy c r i t n))), CV.v (Value.int IntKind.i64 (Spot.slot (laterS l cy c r i t n))), CV.v (Value.int IntKind.i64 (Spot.tick (laterS l cy c r i t n)))], D.mk false [CV.v (Value.int IntKind.i64 (er1 (laterB l cy c r i t n)))]]) ∧ ((n == (0 : Int)) = false → (↑(List.length l) : Int) ≠ (0 : Int) ∧ cy ≠ (0 : Int) ∧ cy ≠ (0 : Int) ∧ (↑(List.length l) : Int) ≠ (0 : Int) ∧ List.length l ≤ (1000000 : Nat) ∧ ((er1 (timeB l cy (wrap64 (c + wrap64 (Int.tdiv (wrap64 (r + wrap64 (Int.tdiv (wrap64 (i + n)) (↑(List.length l) : Int)))) cy))) (Int.tmod (wrap64 (r + wrap64 (Int.tdiv (wrap64 (i + n)) (↑(List.length l) : Int)))) cy) (Int.tmod (wrap64 (i + n)) (↑(List.length l) : Int)) (0 : Int)) != (0 : Int)) = true → Out.tup (U := U) [D.mk true [CV.v (Value.int IntKind.i64 (0 : Int)), CV.v (Value.int IntKind.i64 (0 : Int)), CV.v (Value.int IntKind.i64 (0 : Int)), CV.v (Value.int IntKind.i64 (0 : Int))], D.mk false [CV.v (Value.int IntKind.i64 (1 : Int))]] = Out.tup (U := U) [D.mk true [CV.v (Value.int IntKind.i64 (Spot.cycle (laterS l cy c r i t n))), CV.v (Value.int IntKind.i64 (Spot.round (laterS l cy c r i t n))), CV.v (Value.int IntKind.i64 (Spot.slot (laterS l cy c r i t n))), CV.v (Value.int IntKind.i64 (Spot.tick (laterS l cy c r i t n)))], D.mk false [CV.v (Value.int IntKind.i64 (er1 (laterB l cy c r i t n)))]]) ∧ ((er1 (timeB l cy (wrap64 (c + wrap64 (Int.tdiv (wrap64 (r + wrap64 (Int.tdiv (wrap64 (i + n)) (↑(List.length l) : Int)))) cy))) (Int.tmod (wrap64 (r + wrap64 (Int.tdiv (wrap64 (i + n)) (↑(List.length l) : Int)))) cy) (Int.tmod (wrap64 (i + n)) (↑(List.length l) : Int)) (0 : Int)) != (0 : Int)) = false → Out.tup (U := U) [D.mk true [CV.v (Value.int IntKind.i64 (wrap64 (c + wrap64 (Int.tdiv (wrap64 (r + wrap64 (Int.tdiv (wrap64 (i + n)) (↑(List.length l) : Int)))) cy)))), CV.v (Value.int IntKind.i64 (Int.tmod (wrap64 (r + wrap64 (Int.tdiv (wrap64 (i + n)) (↑(List.length l) : Int)))) cy)), CV.v (Value.int IntKind.i64 (Int.tmod (wrap64 (i + n)) (↑(List.length l) : Int))), CV.v (Value.int IntKind.i64 (0 : Int))], D.mk false [CV.v (Value.int IntKind.i64 (0 : Int))]] = Out.tup (U := U) [D.mk true [CV.v (Value.int IntKind.i64 (Spot.cycle (laterS l cy c r i t n))), CV.v (Value.int IntKind.i64 (Spot.round (laterS l cy c r i t n))), CV.v (Value.int IntKind.i64 (Spot.slot (laterS l cy c r i t n))), CV.v (Value.int IntKind.i64 (Spot.tick (laterS l cy c r i t n)))], D.mk false [CV.v (Value.int IntKind.i64 (er1 (laterB l cy c r i t n)))]]))), by kernel_rfl, ?_⟩
      have hL := laterB_is l cy c r i t n
      refine ⟨hp, fun h => ?_, fun h => ⟨fun h2 => ?_, fun h2 => ?_⟩⟩
      · rw [h] at hL
        have hb : laterB l cy c r i t n = false := hL
        rw [later_no hb, hb]; rfl
      · have h2 : n = 0 := eq_of_beq h2
        rw [h, decide_eq_true h2] at hL
        have hb : laterB l cy c r i t n = true := hL
        unfold laterS
        rw [hb, if_pos rfl, if_pos h2]; rfl
      · have h2 : ¬ n = 0 := beq_eq_false_iff_ne.mp h2
        rw [h, decide_eq_false h2] at hL
        obtain ⟨htb, hlen, hcy, hc, hr, hi, hn⟩ := later_rng h
        have hS : laterB l cy c r i t n = true → laterS l cy c r i t n = laterO l cy c r i n := fun hb => by unfold laterS; rw [if_pos hb, if_neg h2]
        unfold laterO at hL hS
        generalize hX : (l.length : Int) = X at hL hS hi
        have hX2 : 2 ≤ X ∧ X ≤ 16 := by omega
        have a1 := Int.ediv_nonneg (a := i + n) (b := X) (by omega) (by omega)
        have a2 : (i + n) / X ≤ i + n := Int.ediv_le_self _ (by omega)
        have a3 := Int.ediv_nonneg (a := r + (i + n) / X) (b := cy) (by omega) (by omega)
        have a4 : (r + (i + n) / X) / cy ≤ r + (i + n) / X := Int.ediv_le_self _ (by omega)
        rw [w64 (x := i + n) (by omega), Int.tdiv_eq_ediv_of_nonneg (a := i + n) (by omega), Int.tmod_eq_emod_of_nonneg (a := i + n) (by omega), w64 (x := (i + n) / X) (by omega), w64 (x := r + (i + n) / X) (by omega), Int.tdiv_eq_ediv_of_nonneg (a := r + (i + n) / X) (by omega), Int.tmod_eq_emod_of_nonneg (a := r + (i + n) / X) (by omega), w64 (x := (r + (i + n) / X) / cy) (by omega), w64 (x := c + (r + (i + n) / X) / cy) (by omega)]
        refine ⟨by omega, by omega, by omega, by omega, hp, fun hd => ?_, fun hd => ?_⟩
        · rw [er1_ne] at hd
          simp only at hL
          have hd : timeB l cy (c + (r + (i + n) / X) / cy) ((r + (i + n) / X) % cy) ((i + n) % X) 0 = false := by simpa using hd
          rw [hd] at hL
          have hb : laterB l cy c r i t n = false := hL
          rw [later_no hb, hb]; rfl
        · rw [er1_ne] at hd
          simp only at hL
          have hd : timeB l cy (c + (r + (i + n) / X) / cy) ((r + (i + n) / X) % cy) ((i + n) % X) 0 = true := by simpa using hd
          rw [hd] at hL
          have hb : laterB l cy c r i t n = true := hL
          rw [hS hb, hb]; rfl
    · cases hg

def sOf_S : RX.Spec U := fun
  | [⟨true, [.sl .slot l, .v (.int .i64 cy)]⟩, ⟨true, [.v (.int .i64 c), .v (.int .i64 r), .v (.int .i64 i), .v (.int .i64 t)]⟩] => some ⟨some ((0 ≤ c ∧ c ≤ 1099511627776) ∧ (1 ≤ cy ∧ cy ≤ 64) ∧ (0 ≤ r ∧ r < cy) ∧ 0 ≤ i), (.one ⟨false, [.v (.complex .f64 (fB (c * cy + r).toNat) (fB i.toNat))]⟩)⟩
  | _ => none

theorem sOf_ok : ConOk Try.prog U GV 34 sOf_S :=
  fn_go gs ty glok conNil Try.func34 (by kernel_rfl) fun ds r hg hp => by
    unfold sOf_S at hg
    split at hg
    · rename_i l cy c r i t
      obtain ⟨l, rfl⟩ : ∃ q_ : List Slot, q_ = l := ⟨l, rfl⟩
      cases hg
      replace hp : ((0 ≤ c ∧ c ≤ 1099511627776) ∧ (1 ≤ cy ∧ cy ≤ 64) ∧ (0 ≤ r ∧ r < cy) ∧ 0 ≤ i) := hp
      refine ⟨fun _ _ => none, fOn BinOp.mul FloatKind.f64 (floatOfInt FloatKind.f64 c) (floatOfInt FloatKind.f64 cy) = true ∧ fOn BinOp.add FloatKind.f64 (fA BinOp.mul FloatKind.f64 (floatOfInt FloatKind.f64 c) (floatOfInt FloatKind.f64 cy)) (floatOfInt FloatKind.f64 r) = true ∧ Out.one (U := U) (D.mk false [CV.v (Value.complex FloatKind.f64 (fA BinOp.add FloatKind.f64 (fA BinOp.mul FloatKind.f64 (floatOfInt FloatKind.f64 c) (floatOfInt FloatKind.f64 cy)) (floatOfInt FloatKind.f64 r)) (floatOfInt FloatKind.f64 i))]) = Out.one (U := U) (D.mk false [CV.v (Value.complex FloatKind.f64 (fB (Int.toNat (c * cy + r))) (fB (Int.toNat i)))]), by kernel_rfl, ?_⟩
      obtain ⟨hc, hcy, hr, hi⟩ := hp
      have Q := rounds_fl hc hcy hr
      refine ⟨Q.1, Q.2.1, ?_⟩
      clear Q
      obtain ⟨m, rfl⟩ := Int.eq_ofNat_of_zero_le hc.1
      obtain ⟨n, rfl⟩ := Int.eq_ofNat_of_zero_le (show 0 ≤ cy by omega)
      obtain ⟨k, rfl⟩ := Int.eq_ofNat_of_zero_le hr.1
      have hmn : m * n ≤ 1099511627776 * 64 := Nat.mul_le_mul (by omega) (by omega)
      have h1 : m < 9007199254740992 := by omega
      have h2 : n < 9007199254740992 := by omega
      have h3 : m * n < 9007199254740992 := by omega
      have h4 : m * n + k < 9007199254740992 := by omega
      have e : ((m : Int) * (n : Int) + (k : Int)).toNat = m * n + k := by
        rw [← Int.natCast_mul, ← Int.natCast_add, Int.toNat_natCast]
      have g1 := fl_mul h1 h2 h3
      have g2 := fl_add h4
      rw [fl_of (x := (m : Int)) (Int.natCast_nonneg _), fl_of (x := (n : Int)) (Int.natCast_nonneg _), fl_of (x := (k : Int)) (Int.natCast_nonneg _), fl_of hi, Int.toNat_natCast, Int.toNat_natCast, Int.toNat_natCast, g1.2, g2.2, e]
    · cases hg

def sSpot_S : RX.Spec U := fun
  | [⟨false, [.v (.complex .f64 x y)]⟩, ⟨true, [.sl .slot l, .v (.int .i64 cy)]⟩] => some ⟨some (∃ m n : Nat, m < 9007199254740992 ∧ n < 4503599627370496 ∧ x = fB m ∧ y = fB n ∧ 1 ≤ cy ∧ 1 ≤ l.length), (.one ⟨true, [.v (.int .i64 (((fI .f64 x .i64 + fI .f64 y .i64 / (l.length : Int)) / cy))), .v (.int .i64 (((fI .f64 x .i64 + fI .f64 y .i64 / (l.length : Int)) % cy))), .v (.int .i64 ((fI .f64 y .i64 % (l.length : Int)))), .v (.int .i64 0)]⟩)⟩
  | _ => none

theorem sSpot_ok : ConOk Try.prog U GV 32 sSpot_S :=
  fn_go gs ty glok conNil Try.func32 (by kernel_rfl) fun ds r hg hp => by
    unfold sSpot_S at hg
    split at hg
    · rename_i x y l cy
      obtain ⟨l, rfl⟩ : ∃ q_ : List Slot, q_ = l := ⟨l, rfl⟩
      cases hg
      replace hp : (∃ m n : Nat, m < 9007199254740992 ∧ n < 4503599627370496 ∧ x = fB m ∧ y = fB n ∧ 1 ≤ cy ∧ 1 ≤ l.length) := hp
      refine ⟨fun _ _ => none, fIn FloatKind.f64 y IntKind.i64 = true ∧ fIn FloatKind.f64 x IntKind.i64 = true ∧ (↑(List.length l) : Int) ≠ (0 : Int) ∧ cy ≠ (0 : Int) ∧ cy ≠ (0 : Int) ∧ (↑(List.length l) : Int) ≠ (0 : Int) ∧ Out.one (U := U) (D.mk true [CV.v (Value.int IntKind.i64 (wrap64 (Int.tdiv (wrap64 (fI FloatKind.f64 x IntKind.i64 + wrap64 (Int.tdiv (fI FloatKind.f64 y IntKind.i64) (↑(List.length l) : Int)))) cy))), CV.v (Value.int IntKind.i64 (Int.tmod (wrap64 (fI FloatKind.f64 x IntKind.i64 + wrap64 (Int.tdiv (fI FloatKind.f64 y IntKind.i64) (↑(List.length l) : Int)))) cy)), CV.v (Value.int IntKind.i64 (Int.tmod (fI FloatKind.f64 y IntKind.i64) (↑(List.length l) : Int))), CV.v (Value.int IntKind.i64 (0 : Int))]) = Out.one (U := U) (D.mk true [CV.v (Value.int IntKind.i64 ((fI FloatKind.f64 x IntKind.i64 + fI FloatKind.f64 y IntKind.i64 / (↑(List.length l) : Int)) / cy)), CV.v (Value.int IntKind.i64 ((fI FloatKind.f64 x IntKind.i64 + fI FloatKind.f64 y IntKind.i64 / (↑(List.length l) : Int)) % cy)), CV.v (Value.int IntKind.i64 (fI FloatKind.f64 y IntKind.i64 % (↑(List.length l) : Int))), CV.v (Value.int IntKind.i64 (0 : Int))]), by kernel_rfl, ?_⟩
      obtain ⟨m, n, hm, hn, ex, ey, hcy, hl⟩ := hp
      have qm := fl_int (n := m) hm
      have qn := fl_int (n := n) (by clear ex ey qm; omega)
      rw [← ex] at qm
      rw [← ey] at qn
      refine ⟨qn.1, qm.1, ?_⟩
      obtain ⟨-, qm⟩ := qm
      obtain ⟨-, qn⟩ := qn
      rw [qm, qn]
      clear ex ey qm qn
      generalize hX : (l.length : Int) = X
      have hX2 : 1 ≤ X := by omega
      have a1 := Int.ediv_nonneg (a := (n : Int)) (b := X) (by omega) (by omega)
      have a2 : (n : Int) / X ≤ (n : Int) := Int.ediv_le_self _ (by omega)
      have a3 := Int.ediv_nonneg (a := (m : Int) + (n : Int) / X) (b := cy) (by omega) (by omega)
      have a4 : ((m : Int) + (n : Int) / X) / cy ≤ (m : Int) + (n : Int) / X := Int.ediv_le_self _ (by omega)
      rw [Int.tdiv_eq_ediv_of_nonneg (a := (n : Int)) (by omega), Int.tmod_eq_emod_of_nonneg (a := (n : Int)) (by omega), w64 (x := (n : Int) / X) (by omega), w64 (x := (m : Int) + (n : Int) / X) (by omega), Int.tdiv_eq_ediv_of_nonneg (a := (m : Int) + (n : Int) / X) (by omega), Int.tmod_eq_emod_of_nonneg (a := (m : Int) + (n : Int) / X) (by omega), w64 (x := ((m : Int) + (n : Int) / X) / cy) (by omega)]
      exact ⟨by omega, by omega, by omega, by omega, rfl⟩
    · cases hg

def sLater_S : RX.Spec U := fun
  | [⟨true, [.sl .slot l, .v (.int .i64 cy)]⟩, ⟨true, [.v (.int .i64 c), .v (.int .i64 r), .v (.int .i64 i), .v (.int .i64 t)]⟩, ⟨false, [.v (.int .i64 n)]⟩] => some ⟨some (l.length ≤ 1000000), (.tup [⟨true, [.v (.int .i64 ((laterS l cy c r i t n).cycle)), .v (.int .i64 ((laterS l cy c r i t n).round)), .v (.int .i64 ((laterS l cy c r i t n).slot)), .v (.int .i64 ((laterS l cy c r i t n).tick))]⟩, ⟨false, [.v (.int .i64 (er1 (laterB l cy c r i t n)))]⟩])⟩
  | _ => none

theorem sLater_ok : ConOk Try.prog U GV 24 sLater_S :=
  fn_go gs ty glok (conCons sTime_ok (conCons sOf_ok (conCons sSpot_ok conNil))) Try.func24 (by kernel_rfl) fun ds r hg hp => by
    unfold sLater_S at hg
    split at hg
    · rename_i l cy c r i t n
      obtain ⟨l, rfl⟩ : ∃ q_ : List Slot, q_ = l := ⟨l, rfl⟩
      cases hg
      replace hp : (l.length ≤ 1000000) := hp
      refine ⟨fun _ _ => none, List.length l ≤ (1000000 : Nat) ∧ ((er1 (timeB l cy c r i t) != (0 : Int) || decide (n < (0 : Int)) || decide ((1073741824 : Int) < n)) = true → Out.tup (U := U) [D.mk true [CV.v (Value.int IntKind.i64 (0 : Int)), CV.v (Value.int IntKind.i64 (0 : Int)), CV.v (Value.int IntKind.i64 (0 : Int)), CV.v (Value.int IntKind.i64 (0 : Int))], D.mk false [CV.v (Value.int IntKind.i64 (1 : Int))]] = Out.tup (U := U) [D.mk true [CV.v (Value.int IntKind.i64 (Spot.cycle (laterS l cy c r i t n))), CV.v (Value.int IntKind.i64 (Spot.round (laterS l cy c r i t n))), CV.v (Value.int IntKind.i64 (Spot.slot (laterS l cy c r i t n))), CV.v (Value.int IntKind.i64 (Spot.tick (laterS l cy c r i t n)))], D.mk false [CV.v (Value.int IntKind.i64 (er1 (laterB l cy c r i t n)))]]) ∧ ((er1 (timeB l cy c r i t) != (0 : Int) || decide (n < (0 : Int)) || decide ((1073741824 : Int) < n)) = false → ((n == (0 : Int)) = true → Out.tup (U := U) [D.mk true [CV.v (Value.int IntKind.i64 c), CV.v (Value.int IntKind.i64 r), CV.v (Value.int IntKind.i64 i), CV.v (Value.int IntKind.i64 t)], D.mk false [CV.v (Value.int IntKind.i64 (0 : Int))]] = Out.tup (U := U) [D.mk true [CV.v (Value.int IntKind.i64 (Spot.cycle (laterS l cy c r i t n))), CV.v (Value.int IntKind.i64 (Spot.round (laterS l cy c r i t n))), CV.v (Value.int IntKind.i64 (Spot.slot (laterS l cy c r i t n))), CV.v (Value.int IntKind.i64 (Spot.tick (laterS l cy c r i t n)))], D.mk false [CV.v (Value.int IntKind.i64 (er1 (laterB l cy c r i t n)))]]) ∧ ((n == (0 : Int)) = false → (((0 : Int) ≤ c ∧ c ≤ (1099511627776 : Int)) ∧ ((1 : Int) ≤ cy ∧ cy ≤ (64 : Int)) ∧ ((0 : Int) ≤ r ∧ r < cy) ∧ (0 : Int) ≤ i) ∧ (fOn BinOp.add FloatKind.f64 (fB (Int.toNat (c * cy + r))) (0 : Nat) = true ∧ fOn BinOp.add FloatKind.f64 (fB (Int.toNat i)) (floatOfInt FloatKind.f64 n) = true) ∧ (∃ m n_1, m < (9007199254740992 : Nat) ∧ n_1 < (4503599627370496 : Nat) ∧ fA BinOp.add FloatKind.f64 (fB (Int.toNat (c * cy + r))) (0 : Nat) = fB m ∧ fA BinOp.add FloatKind.f64 (fB (Int.toNat i)) (floatOfInt FloatKind.f64 n) = fB n_1 ∧ (1 : Int) ≤ cy ∧ (1 : Nat) ≤ List.length l) ∧ List.length l ≤ (1000000 : Nat) ∧ ((er1 (timeB l cy ((fI FloatKind.f64 (fA BinOp.add FloatKind.f64 (fB (Int.toNat (c * cy + r))) (0 : Nat)) IntKind.i64 + fI FloatKind.f64 (fA BinOp.add FloatKind.f64 (fB (Int.toNat i)) (floatOfInt FloatKind.f64 n)) IntKind.i64 / (↑(List.length l) : Int)) / cy) ((fI FloatKind.f64 (fA BinOp.add FloatKind.f64 (fB (Int.toNat (c * cy + r))) (0 : Nat)) IntKind.i64 + fI FloatKind.f64 (fA BinOp.add FloatKind.f64 (fB (Int.toNat i)) (floatOfInt FloatKind.f64 n)) IntKind.i64 / (↑(List.length l) : Int)) % cy) (fI FloatKind.f64 (fA BinOp.add FloatKind.f64 (fB (Int.toNat i)) (floatOfInt FloatKind.f64 n)) IntKind.i64 % (↑(List.length l) : Int)) (0 : Int)) != (0 : Int)) = true → Out.tup (U := U) [D.mk true [CV.v (Value.int IntKind.i64 (0 : Int)), CV.v (Value.int IntKind.i64 (0 : Int)), CV.v (Value.int IntKind.i64 (0 : Int)), CV.v (Value.int IntKind.i64 (0 : Int))], D.mk false [CV.v (Value.int IntKind.i64 (1 : Int))]] = Out.tup (U := U) [D.mk true [CV.v (Value.int IntKind.i64 (Spot.cycle (laterS l cy c r i t n))), CV.v (Value.int IntKind.i64 (Spot.round (laterS l cy c r i t n))), CV.v (Value.int IntKind.i64 (Spot.slot (laterS l cy c r i t n))), CV.v (Value.int IntKind.i64 (Spot.tick (laterS l cy c r i t n)))], D.mk false [CV.v (Value.int IntKind.i64 (er1 (laterB l cy c r i t n)))]]) ∧ ((er1 (timeB l cy ((fI FloatKind.f64 (fA BinOp.add FloatKind.f64 (fB (Int.toNat (c * cy + r))) (0 : Nat)) IntKind.i64 + fI FloatKind.f64 (fA BinOp.add FloatKind.f64 (fB (Int.toNat i)) (floatOfInt FloatKind.f64 n)) IntKind.i64 / (↑(List.length l) : Int)) / cy) ((fI FloatKind.f64 (fA BinOp.add FloatKind.f64 (fB (Int.toNat (c * cy + r))) (0 : Nat)) IntKind.i64 + fI FloatKind.f64 (fA BinOp.add FloatKind.f64 (fB (Int.toNat i)) (floatOfInt FloatKind.f64 n)) IntKind.i64 / (↑(List.length l) : Int)) % cy) (fI FloatKind.f64 (fA BinOp.add FloatKind.f64 (fB (Int.toNat i)) (floatOfInt FloatKind.f64 n)) IntKind.i64 % (↑(List.length l) : Int)) (0 : Int)) != (0 : Int)) = false → Out.tup (U := U) [D.mk true [CV.v (Value.int IntKind.i64 ((fI FloatKind.f64 (fA BinOp.add FloatKind.f64 (fB (Int.toNat (c * cy + r))) (0 : Nat)) IntKind.i64 + fI FloatKind.f64 (fA BinOp.add FloatKind.f64 (fB (Int.toNat i)) (floatOfInt FloatKind.f64 n)) IntKind.i64 / (↑(List.length l) : Int)) / cy)), CV.v (Value.int IntKind.i64 ((fI FloatKind.f64 (fA BinOp.add FloatKind.f64 (fB (Int.toNat (c * cy + r))) (0 : Nat)) IntKind.i64 + fI FloatKind.f64 (fA BinOp.add FloatKind.f64 (fB (Int.toNat i)) (floatOfInt FloatKind.f64 n)) IntKind.i64 / (↑(List.length l) : Int)) % cy)), CV.v (Value.int IntKind.i64 (fI FloatKind.f64 (fA BinOp.add FloatKind.f64 (fB (Int.toNat i)) (floatOfInt FloatKind.f64 n)) IntKind.i64 % (↑(List.length l) : Int))), CV.v (Value.int IntKind.i64 (0 : Int))], D.mk false [CV.v (Value.int IntKind.i64 (0 : Int))]] = Out.tup (U := U) [D.mk true [CV.v (Value.int IntKind.i64 (Spot.cycle (laterS l cy c r i t n))), CV.v (Value.int IntKind.i64 (Spot.round (laterS l cy c r i t n))), CV.v (Value.int IntKind.i64 (Spot.slot (laterS l cy c r i t n))), CV.v (Value.int IntKind.i64 (Spot.tick (laterS l cy c r i t n)))], D.mk false [CV.v (Value.int IntKind.i64 (er1 (laterB l cy c r i t n)))]]))), by kernel_rfl, ?_⟩
      have hL := laterB_is l cy c r i t n
      refine ⟨hp, fun h => ?_, fun h => ⟨fun h2 => ?_, fun h2 => ?_⟩⟩
      · rw [h] at hL
        have hb : laterB l cy c r i t n = false := hL
        rw [later_no hb, hb]; rfl
      · have h2 : n = 0 := eq_of_beq h2
        rw [h, decide_eq_true h2] at hL
        have hb : laterB l cy c r i t n = true := hL
        unfold laterS
        rw [hb, if_pos rfl, if_pos h2]; rfl
      · have h2 : ¬ n = 0 := beq_eq_false_iff_ne.mp h2
        rw [h, decide_eq_false h2] at hL
        obtain ⟨htb, hlen, hcy, hc, hr, hi, hn⟩ := later_rng h
        have hS : laterB l cy c r i t n = true → laterS l cy c r i t n = laterO l cy c r i n := fun hb => by unfold laterS; rw [if_pos hb, if_neg h2]
        unfold laterO at hL hS
        have hm : c * cy ≤ 1099511627776 * 64 := Int.mul_le_mul hc.2 hcy.2 (by omega) (by omega)
        have hm0 : 0 ≤ c * cy := Int.mul_nonneg hc.1 (by omega)
        have f1 : Unit → _ := fun _ => fl_add (m := (c * cy + r).toNat) (n := 0) (by omega)
        have f2 : Unit → _ := fun _ => fl_add (m := i.toNat) (n := n.toNat) (by omega)
        have f3 : Unit → _ := fun _ => fl_int (n := (c * cy + r).toNat) (by omega)
        have f4 : Unit → _ := fun _ => fl_int (n := i.toNat + n.toNat) (by omega)
        have e3 : (((c * cy + r).toNat : Nat) : Int) = c * cy + r := by omega
        have e4 : ((i.toNat + n.toNat : Nat) : Int) = i + n := by omega
        rw [fB_zero, Nat.add_zero] at f1
        rw [fl_of hn.1, (f1 ()).2, (f2 ()).2, (f3 ()).2, (f4 ()).2, e3, e4]
        refine ⟨⟨hc, hcy, hr, hi.1⟩, ⟨(f1 ()).1, (f2 ()).1⟩, ⟨_, _, by omega, by omega, rfl, rfl, hcy.1, by omega⟩, hp, ?_⟩
        clear f1 f2 f3 f4
        have d1 : (c * cy + r + (i + n) / (l.length : Int)) / cy = c + (r + (i + n) / (l.length : Int)) / cy := by
          rw [Int.add_assoc, Int.add_comm (c * cy), Int.add_mul_ediv_right _ _ (show cy ≠ 0 by omega), Int.add_comm]
        have d2 : (c * cy + r + (i + n) / (l.length : Int)) % cy = (r + (i + n) / (l.length : Int)) % cy := by
          rw [Int.add_assoc, Int.add_comm (c * cy), Int.add_mul_emod_self_right]
        rw [d1, d2]
        refine ⟨fun hd => ?_, fun hd => ?_⟩
        · rw [er1_ne] at hd
          simp only at hL
          have hd : timeB l cy (c + (r + (i + n) / (l.length : Int)) / cy) ((r + (i + n) / (l.length : Int)) % cy) ((i + n) % (l.length : Int)) 0 = false := by simpa using hd
          rw [hd] at hL
          have hb : laterB l cy c r i t n = false := hL
          rw [later_no hb, hb]; rfl
        · rw [er1_ne] at hd
          simp only at hL
          have hd : timeB l cy (c + (r + (i + n) / (l.length : Int)) / cy) ((r + (i + n) / (l.length : Int)) % cy) ((i + n) % (l.length : Int)) 0 = true := by simpa using hd
          rw [hd] at hL
          have hb : laterB l cy c r i t n = true := hL
          rw [hS hb, hb]; rfl
    · cases hg

end Go.Proofs.Ytnhgnidpoiolgaa.X
