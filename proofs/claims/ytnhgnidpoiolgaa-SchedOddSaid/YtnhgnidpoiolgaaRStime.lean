/- Which time a spot is at. -/
import Derived.Test.YtnhgnidpoiolgaaRSat
namespace Go.Proofs.Ytnhgnidpoiolgaa.X
open Go Go.RX Go.RowKit Go.Proofs
set_option linter.unusedVariables false
set_option linter.unusedSimpArgs false
set_option maxHeartbeats 400000
def spotB (l : List Slot) (cy c r i t : Int) : Bool := planR l cy && decide (0 ≤ c ∧ c ≤ 1099511627776) && decide (0 ≤ r ∧ r < cy) && decide (0 ≤ i ∧ i < (l.length : Int)) && decide (0 ≤ t ∧ t < (l.getD i.toNat d_slot).ticks)
def timeN (l : List Slot) (cy c r i t : Int) : Int := (c * cy + r) * sumK l l.length + sumK l i.toNat + t
def timeB (l : List Slot) (cy c r i t : Int) : Bool := spotB l cy c r i t && decide (timeN l cy c r i t ≤ 1099511627776)
def timeI (l : List Slot) (cy c r i t : Int) : Int := if timeB l cy c r i t = true then timeN l cy c r i t else 0
theorem rounds_fl {c cy r : Int} (hc : 0 ≤ c ∧ c ≤ 1099511627776) (hy : 1 ≤ cy ∧ cy ≤ 64) (hr : 0 ≤ r ∧ r < cy) : fOn .mul .f64 (floatOfInt .f64 c) (floatOfInt .f64 cy) = true ∧ fOn .add .f64 (fA .mul .f64 (floatOfInt .f64 c) (floatOfInt .f64 cy)) (floatOfInt .f64 r) = true ∧ fIn .f64 (fA .add .f64 (fA .mul .f64 (floatOfInt .f64 c) (floatOfInt .f64 cy)) (floatOfInt .f64 r)) .i64 = true ∧ fI .f64 (fA .add .f64 (fA .mul .f64 (floatOfInt .f64 c) (floatOfInt .f64 cy)) (floatOfInt .f64 r)) .i64 = c * cy + r := by
  obtain ⟨m, rfl⟩ := Int.eq_ofNat_of_zero_le hc.1
  obtain ⟨n, rfl⟩ := Int.eq_ofNat_of_zero_le (show 0 ≤ cy by omega)
  obtain ⟨k, rfl⟩ := Int.eq_ofNat_of_zero_le hr.1
  have hmn : m * n ≤ 1099511627776 * 64 := Nat.mul_le_mul (by omega) (by omega)
  have h1 : m < 9007199254740992 := by omega
  have h2 : n < 9007199254740992 := by omega
  have h3 : m * n < 9007199254740992 := by omega
  have h4 : m * n + k < 9007199254740992 := by omega
  have g1 := fl_mul h1 h2 h3
  have g2 := fl_add h4
  have g3 := fl_int h4
  rw [fl_of (x := (m : Int)) (Int.natCast_nonneg _), fl_of (x := (n : Int)) (Int.natCast_nonneg _), fl_of (x := (k : Int)) (Int.natCast_nonneg _), Int.toNat_natCast, Int.toNat_natCast, Int.toNat_natCast, g1.2, g2.2]
  exact ⟨g1.1, g2.1, g3.1, g3.2⟩
def r8Time_S : RX.Spec U := fun
  | [⟨true, [.sl .slot l, .v (.int .i64 cy)]⟩, ⟨true, [.v (.int .i64 c), .v (.int .i64 r), .v (.int .i64 i), .v (.int .i64 t)]⟩] => some ⟨some (l.length ≤ 1000000), (.tup [⟨false, [.v (.int .i64 (timeI l cy c r i t))]⟩, ⟨false, [.v (.int .i64 (er1 (timeB l cy c r i t)))]⟩])⟩
  | _ => none

theorem r8Time_ok : ConOk Try.prog U GV 23 r8Time_S :=
  fn_go gs ty glok (conCons r8Right_ok (conCons r8Round_ok conNil)) Try.func23 (by kernel_rfl) fun ds r hg hp => by
    unfold r8Time_S at hg
    split at hg
    · rename_i l cy c r i t
      obtain ⟨l, rfl⟩ : ∃ q_ : List Slot, q_ = l := ⟨l, rfl⟩
      cases hg
      replace hp : (l.length ≤ 1000000) := hp
      refine ⟨fun st key => if key = 7 then some { N := i.toNat, mods := fun k => [.tv 7 (.int .i64 (k : Int)), .tv 6 (.int .i64 ((c * cy + r) * sumK l l.length + sumK l k))] } else none, List.length l ≤ (1000000 : Nat) ∧ ((!planR l cy || decide (c < (0 : Int)) || decide ((1099511627776 : Int) < c) || decide (r < (0 : Int)) || decide (cy ≤ r) || decide (i < (0 : Int)) || decide ((↑(List.length l) : Int) ≤ i)) = true → Out.tup (U := U) [D.mk false [CV.v (Value.int IntKind.i64 (0 : Int))], D.mk false [CV.v (Value.int IntKind.i64 (1 : Int))]] = Out.tup (U := U) [D.mk false [CV.v (Value.int IntKind.i64 (timeI l cy c r i t))], D.mk false [CV.v (Value.int IntKind.i64 (er1 (timeB l cy c r i t)))]]) ∧ ((!planR l cy || decide (c < (0 : Int)) || decide ((1099511627776 : Int) < c) || decide (r < (0 : Int)) || decide (cy ≤ r) || decide (i < (0 : Int)) || decide ((↑(List.length l) : Int) ≤ i)) = false → ((!decide (t < (0 : Int))) = true → (0 : Int) ≤ i ∧ i < (↑(List.length l) : Int)) ∧ ((decide (t < (0 : Int)) || decide (Slot.ticks (List.getD l (Int.toNat i) (d_slot)) ≤ t)) = true → Out.tup (U := U) [D.mk false [CV.v (Value.int IntKind.i64 (0 : Int))], D.mk false [CV.v (Value.int IntKind.i64 (1 : Int))]] = Out.tup (U := U) [D.mk false [CV.v (Value.int IntKind.i64 (timeI l cy c r i t))], D.mk false [CV.v (Value.int IntKind.i64 (er1 (timeB l cy c r i t)))]]) ∧ ((decide (t < (0 : Int)) || decide (Slot.ticks (List.getD l (Int.toNat i) (d_slot)) ≤ t)) = false → List.length l ≤ (1000000 : Nat) ∧ True ∧ (Value.int IntKind.i64 (0 : Int) = Value.int IntKind.i64 (0 : Int) ∧ Value.int IntKind.i64 (wrap64 (wrap64 (wrap64 (c * cy) + r) * roundS l cy)) = Value.int IntKind.i64 ((c * cy + r) * sumK l (List.length l) + sumK l (0 : Nat))) ∧ ∀ (k : Nat), k ≤ Int.toNat i → True → (decide ((↑k : Int) < i) = true → ((0 : Int) ≤ (↑k : Int) ∧ (↑k : Int) < (↑(List.length l) : Int)) ∧ k < Int.toNat i ∧ True ∧ Value.int IntKind.i64 (wrap64 ((↑k : Int) + (1 : Int))) = Value.int IntKind.i64 (↑(k + (1 : Nat)) : Int) ∧ Value.int IntKind.i64 (wrap64 ((c * cy + r) * sumK l (List.length l) + sumK l k + Slot.ticks (List.getD l (Int.toNat (↑k : Int)) (d_slot)))) = Value.int IntKind.i64 ((c * cy + r) * sumK l (List.length l) + sumK l (k + (1 : Nat)))) ∧ (decide ((↑k : Int) < i) = false → ((!decide ((1099511627776 : Int) < wrap64 ((c * cy + r) * sumK l (List.length l) + sumK l k + t))) = true → List.length l ≤ (1000000 : Nat)) ∧ ((!decide ((1099511627776 : Int) < wrap64 ((c * cy + r) * sumK l (List.length l) + sumK l k + t))) = true → wrap64 (cy * roundS l cy) ≠ (0 : Int)) ∧ ((decide ((1099511627776 : Int) < wrap64 ((c * cy + r) * sumK l (List.length l) + sumK l k + t)) || decide (wrap64 (Int.tdiv (1099511627776 : Int) (wrap64 (cy * roundS l cy))) < c)) = true → Out.tup (U := U) [D.mk false [CV.v (Value.int IntKind.i64 (0 : Int))], D.mk false [CV.v (Value.int IntKind.i64 (1 : Int))]] = Out.tup (U := U) [D.mk false [CV.v (Value.int IntKind.i64 (timeI l cy c r i t))], D.mk false [CV.v (Value.int IntKind.i64 (er1 (timeB l cy c r i t)))]]) ∧ ((decide ((1099511627776 : Int) < wrap64 ((c * cy + r) * sumK l (List.length l) + sumK l k + t)) || decide (wrap64 (Int.tdiv (1099511627776 : Int) (wrap64 (cy * roundS l cy))) < c)) = false → Out.tup (U := U) [D.mk false [CV.v (Value.int IntKind.i64 (wrap64 ((c * cy + r) * sumK l (List.length l) + sumK l k + t)))], D.mk false [CV.v (Value.int IntKind.i64 (0 : Int))]] = Out.tup (U := U) [D.mk false [CV.v (Value.int IntKind.i64 (timeI l cy c r i t))], D.mk false [CV.v (Value.int IntKind.i64 (er1 (timeB l cy c r i t)))]])))), by kernel_rfl, ?_⟩
      have no : timeB l cy c r i t = false → timeI l cy c r i t = 0 := fun h => by unfold timeI; rw [h]; rfl
      have noS : spotB l cy c r i t = false → timeB l cy c r i t = false := fun h => by unfold timeB; rw [h]; rfl
      have hS : spotB l cy c r i t = (!(!planR l cy || decide (c < 0) || decide ((1099511627776 : Int) < c) || decide (r < 0) || decide (cy ≤ r) || decide (i < 0) || decide ((l.length : Int) ≤ i)) && !(decide (t < 0) || decide ((l.getD i.toNat d_slot).ticks ≤ t))) := by
        unfold spotB
        generalize (l.getD i.toNat d_slot).ticks = g
        cases planR l cy with
        | false => rfl
        | true =>
          rw [Bool.true_and, Bool.not_true, Bool.false_or, Bool.eq_iff_iff]
          simp only [Bool.and_eq_true, decide_eq_true_eq, Bool.not_eq_true', Bool.or_eq_false_iff, decide_eq_false_iff_not]
          omega
      refine ⟨hp, fun h => ?_, fun h => ⟨fun _ => ?_, fun h2 => ?_, fun h2 => ?_⟩⟩
      · have hb := noS (by rw [hS, h]; rfl)
        rw [no hb, hb]; rfl
      · simp only [Bool.or_eq_false_iff, decide_eq_false_iff_not] at h
        omega
      · have hb := noS (by rw [hS, h2, Bool.not_true, Bool.and_false])
        rw [no hb, hb]; rfl
      · have hs : spotB l cy c r i t = true := by rw [hS, h, h2]; rfl
        clear hS h h2
        have hs' := hs
        unfold spotB at hs'
        simp only [Bool.and_eq_true, decide_eq_true_eq] at hs'
        obtain ⟨⟨⟨⟨hpl, hc⟩, hr0⟩, hi⟩, ht⟩ := hs'
        obtain ⟨hlen, hcy, hr⟩ := planR_is hpl
        have hR := sumK_rng hr l.length (Nat.le_refl _)
        have eR : roundS l cy = sumK l l.length := if_pos hpl
        have hm : c * cy ≤ 1099511627776 * 64 := Int.mul_le_mul hc.2 hcy.2 (by omega) (by omega)
        have hm0 : 0 ≤ c * cy := Int.mul_nonneg hc.1 (by omega)
        have hB : timeB l cy c r i t = decide (timeN l cy c r i t ≤ 1099511627776) := by unfold timeB; rw [hs]; rfl
        have hN : timeN l cy c r i t = (c * cy + r) * sumK l l.length + sumK l i.toNat + t := rfl
        have hle : c * (cy * sumK l l.length) ≤ (c * cy + r) * sumK l l.length := by
          rw [← Int.mul_assoc]; exact Int.mul_le_mul_of_nonneg_right (by omega) (by omega)
        rw [eR, w64 (x := c * cy) (by omega), w64 (x := c * cy + r) (by omega)]
        generalize hn : c * cy + r = n at hN hle
        have hn0 : 0 ≤ n ∧ n ≤ 70368744177728 := by omega
        generalize sumK l l.length = R at hR hN hle
        have h1 : 0 ≤ n * R := Int.mul_nonneg hn0.1 (by omega)
        have h2 : n * R ≤ 70368744177728 * 16000 := Int.mul_le_mul hn0.2 (by omega) (by omega) (by omega)
        have h6 : cy * R ≤ 64 * 16000 := Int.mul_le_mul hcy.2 (by omega) (by omega) (by omega)
        have h7 : 1 ≤ cy * R := Int.mul_pos (by omega) (by omega)
        generalize cy * R = w at h6 h7 hle
        have e1 : Int.tdiv 1099511627776 w = 1099511627776 / w := Int.tdiv_eq_ediv_of_nonneg (by omega)
        have h3 : 1099511627776 / w ≤ 1099511627776 := Int.ediv_le_self _ (by omega)
        have h4 : 0 ≤ 1099511627776 / w := Int.ediv_nonneg (by omega) (by omega)
        have h5 : 1099511627776 / w < c ↔ 1099511627776 < c * w := Int.ediv_lt_iff_lt_mul (by omega)
        rw [w64 (x := w) (by omega), e1, w64 (x := 1099511627776 / w) (by omega), w64 (x := n * R) (by omega)]
        refine ⟨hp, trivial, ⟨rfl, by show Value.int _ (n * R) = Value.int _ (n * R + 0); rw [Int.add_zero]⟩, fun k hk _ => ⟨fun hlt => ?_, fun hge => ?_⟩⟩
        · have hlt := of_decide_eq_true hlt
          have hI := sumK_rng hr k (by omega)
          have hT := (slotR_is (hr k (by omega))).2.1
          have h9 : sumK l (k + 1) = sumK l k + (l.getD k d_slot).ticks := rfl
          rw [Int.toNat_natCast, h9, w64 (x := n * R + sumK l k + (l.getD k d_slot).ticks) (by omega)]
          exact ⟨⟨by omega, by omega⟩, by omega, trivial, by rw [w64 (by omega)]; rfl, by rw [Int.add_assoc]⟩
        · have hge := of_decide_eq_false hge
          have hki : k = i.toNat := by omega
          subst hki
          have hI := sumK_rng hr i.toNat (by omega)
          have hT := (slotR_is (hr i.toNat (by omega))).2.1
          rw [w64 (x := n * R + sumK l i.toNat + t) (by omega)]
          refine ⟨fun _ => hp, fun _ => by omega, fun hd => ?_, fun hd => ?_⟩
          · simp only [Bool.or_eq_true, decide_eq_true_eq, h5] at hd
            have hb : timeB l cy c r i t = false := by rw [hB]; exact decide_eq_false (by omega)
            rw [no hb, hb]; rfl
          · simp only [Bool.or_eq_false_iff, decide_eq_false_iff_not, h5] at hd
            have hb : timeB l cy c r i t = true := by rw [hB]; exact decide_eq_true (by omega)
            have : timeI l cy c r i t = n * R + sumK l i.toNat + t := by unfold timeI; rw [if_pos hb, hN]
            rw [this, hb]; rfl
    · cases hg

def sMay_S : RX.Spec U := fun
  | [⟨true, [.sl .slot l, .v (.int .i64 cy)]⟩, ⟨true, [.v (.int .i64 c), .v (.int .i64 r), .v (.int .i64 i), .v (.int .i64 t)]⟩] => some ⟨some (l.length ≤ 1000000), (.one ⟨false, [.v (.bool (spotB l cy c r i t))]⟩)⟩
  | _ => none

theorem sMay_ok : ConOk Try.prog U GV 33 sMay_S :=
  fn_go gs ty glok (conCons sRight_ok conNil) Try.func33 (by kernel_rfl) fun ds r hg hp => by
    unfold sMay_S at hg
    split at hg
    · rename_i l cy c r i t
      obtain ⟨l, rfl⟩ : ∃ q_ : List Slot, q_ = l := ⟨l, rfl⟩
      cases hg
      replace hp : (l.length ≤ 1000000) := hp
      refine ⟨fun _ _ => none, List.length l ≤ (1000000 : Nat) ∧ ((planR l cy && decide ((0 : Int) ≤ c) && decide (c ≤ (1099511627776 : Int)) && decide ((0 : Int) ≤ r) && decide (r < cy) && decide ((0 : Int) ≤ i) && decide (i < (↑(List.length l) : Int)) && decide ((0 : Int) ≤ t)) = true → (0 : Int) ≤ i ∧ i < (↑(List.length l) : Int)) ∧ Out.one (U := U) (D.mk false [CV.v (Value.bool (planR l cy && decide ((0 : Int) ≤ c) && decide (c ≤ (1099511627776 : Int)) && decide ((0 : Int) ≤ r) && decide (r < cy) && decide ((0 : Int) ≤ i) && decide (i < (↑(List.length l) : Int)) && decide ((0 : Int) ≤ t) && decide (t < Slot.ticks (List.getD l (Int.toNat i) (d_slot)))))]) = Out.one (U := U) (D.mk false [CV.v (Value.bool (spotB l cy c r i t))]), by kernel_rfl, ?_⟩
      refine ⟨hp, fun h => ?_, ?_⟩
      · simp only [Bool.and_eq_true, decide_eq_true_eq] at h
        omega
      · unfold spotB
        simp only [Bool.decide_and, Bool.and_assoc]
    · cases hg

def sTime_S : RX.Spec U := fun
  | [⟨true, [.sl .slot l, .v (.int .i64 cy)]⟩, ⟨true, [.v (.int .i64 c), .v (.int .i64 r), .v (.int .i64 i), .v (.int .i64 t)]⟩] => some ⟨some (l.length ≤ 1000000), (.tup [⟨false, [.v (.int .i64 (timeI l cy c r i t))]⟩, ⟨false, [.v (.int .i64 (er1 (timeB l cy c r i t)))]⟩])⟩
  | _ => none

theorem sTime_ok : ConOk Try.prog U GV 22 sTime_S :=
  fn_go gs ty glok (conCons sMay_ok (conCons sRound_ok (conCons sBefore_ok conNil))) Try.func22 (by kernel_rfl) fun ds r hg hp => by
    unfold sTime_S at hg
    split at hg
    · rename_i l cy c r i t
      obtain ⟨l, rfl⟩ : ∃ q_ : List Slot, q_ = l := ⟨l, rfl⟩
      cases hg
      replace hp : (l.length ≤ 1000000) := hp
      refine ⟨fun _ _ => none, List.length l ≤ (1000000 : Nat) ∧ ((!spotB l cy c r i t) = true → Out.tup (U := U) [D.mk false [CV.v (Value.int IntKind.i64 (0 : Int))], D.mk false [CV.v (Value.int IntKind.i64 (1 : Int))]] = Out.tup (U := U) [D.mk false [CV.v (Value.int IntKind.i64 (timeI l cy c r i t))], D.mk false [CV.v (Value.int IntKind.i64 (er1 (timeB l cy c r i t)))]]) ∧ ((!spotB l cy c r i t) = false → List.length l ≤ (1000000 : Nat) ∧ fOn BinOp.mul FloatKind.f64 (floatOfInt FloatKind.f64 c) (floatOfInt FloatKind.f64 cy) = true ∧ fOn BinOp.add FloatKind.f64 (fA BinOp.mul FloatKind.f64 (floatOfInt FloatKind.f64 c) (floatOfInt FloatKind.f64 cy)) (floatOfInt FloatKind.f64 r) = true ∧ fIn FloatKind.f64 (fA BinOp.add FloatKind.f64 (fA BinOp.mul FloatKind.f64 (floatOfInt FloatKind.f64 c) (floatOfInt FloatKind.f64 cy)) (floatOfInt FloatKind.f64 r)) IntKind.i64 = true ∧ roundS l cy ≠ (0 : Int) ∧ (decide (wrap64 (Int.tdiv (1099511627776 : Int) (roundS l cy)) < fI FloatKind.f64 (fA BinOp.add FloatKind.f64 (fA BinOp.mul FloatKind.f64 (floatOfInt FloatKind.f64 c) (floatOfInt FloatKind.f64 cy)) (floatOfInt FloatKind.f64 r)) IntKind.i64) = true → Out.tup (U := U) [D.mk false [CV.v (Value.int IntKind.i64 (0 : Int))], D.mk false [CV.v (Value.int IntKind.i64 (1 : Int))]] = Out.tup (U := U) [D.mk false [CV.v (Value.int IntKind.i64 (timeI l cy c r i t))], D.mk false [CV.v (Value.int IntKind.i64 (er1 (timeB l cy c r i t)))]]) ∧ (decide (wrap64 (Int.tdiv (1099511627776 : Int) (roundS l cy)) < fI FloatKind.f64 (fA BinOp.add FloatKind.f64 (fA BinOp.mul FloatKind.f64 (floatOfInt FloatKind.f64 c) (floatOfInt FloatKind.f64 cy)) (floatOfInt FloatKind.f64 r)) IntKind.i64) = false → planR l cy = true ∧ (decide ((1099511627776 : Int) < wrap64 (wrap64 (wrap64 (fI FloatKind.f64 (fA BinOp.add FloatKind.f64 (fA BinOp.mul FloatKind.f64 (floatOfInt FloatKind.f64 c) (floatOfInt FloatKind.f64 cy)) (floatOfInt FloatKind.f64 r)) IntKind.i64 * roundS l cy) + beforeS l i) + t)) = true → Out.tup (U := U) [D.mk false [CV.v (Value.int IntKind.i64 (0 : Int))], D.mk false [CV.v (Value.int IntKind.i64 (1 : Int))]] = Out.tup (U := U) [D.mk false [CV.v (Value.int IntKind.i64 (timeI l cy c r i t))], D.mk false [CV.v (Value.int IntKind.i64 (er1 (timeB l cy c r i t)))]]) ∧ (decide ((1099511627776 : Int) < wrap64 (wrap64 (wrap64 (fI FloatKind.f64 (fA BinOp.add FloatKind.f64 (fA BinOp.mul FloatKind.f64 (floatOfInt FloatKind.f64 c) (floatOfInt FloatKind.f64 cy)) (floatOfInt FloatKind.f64 r)) IntKind.i64 * roundS l cy) + beforeS l i) + t)) = false → Out.tup (U := U) [D.mk false [CV.v (Value.int IntKind.i64 (wrap64 (wrap64 (wrap64 (fI FloatKind.f64 (fA BinOp.add FloatKind.f64 (fA BinOp.mul FloatKind.f64 (floatOfInt FloatKind.f64 c) (floatOfInt FloatKind.f64 cy)) (floatOfInt FloatKind.f64 r)) IntKind.i64 * roundS l cy) + beforeS l i) + t)))], D.mk false [CV.v (Value.int IntKind.i64 (0 : Int))]] = Out.tup (U := U) [D.mk false [CV.v (Value.int IntKind.i64 (timeI l cy c r i t))], D.mk false [CV.v (Value.int IntKind.i64 (er1 (timeB l cy c r i t)))]]))), by kernel_rfl, ?_⟩
      have no : timeB l cy c r i t = false → timeI l cy c r i t = 0 := fun h => by unfold timeI; rw [h]; rfl
      refine ⟨hp, fun h => ?_, fun h => ?_⟩
      · have hs : spotB l cy c r i t = false := by simpa using h
        have hb : timeB l cy c r i t = false := by unfold timeB; rw [hs]; rfl
        rw [no hb, hb]; rfl
      · have hs : spotB l cy c r i t = true := by simpa using h
        have hs' := hs
        unfold spotB at hs'
        simp only [Bool.and_eq_true, decide_eq_true_eq] at hs'
        obtain ⟨⟨⟨⟨hpl, hc⟩, hr0⟩, hi⟩, ht⟩ := hs'
        obtain ⟨hlen, hcy, hr⟩ := planR_is hpl
        have hR := sumK_rng hr l.length (Nat.le_refl _)
        have hI := sumK_rng hr i.toNat (by omega)
        have hT := (slotR_is (hr i.toNat (by omega))).2.1
        have eR : roundS l cy = sumK l l.length := if_pos hpl
        have eB : beforeS l i = sumK l i.toNat := if_pos (by omega)
        have Q : Unit → _ := fun _ => rounds_fl hc hcy hr0
        have hm : c * cy ≤ 1099511627776 * 64 := Int.mul_le_mul hc.2 hcy.2 (by omega) (by omega)
        have hm0 : 0 ≤ c * cy := Int.mul_nonneg hc.1 (by omega)
        have hB : timeB l cy c r i t = decide (timeN l cy c r i t ≤ 1099511627776) := by unfold timeB; rw [hs]; rfl
        have hN : timeN l cy c r i t = (c * cy + r) * sumK l l.length + sumK l i.toNat + t := rfl
        rw [(Q ()).2.2.2, eR, eB]
        refine ⟨hp, (Q ()).1, (Q ()).2.1, (Q ()).2.2.1, by omega, ?_⟩
        clear Q
        generalize hn : c * cy + r = n at hN
        have hn0 : 0 ≤ n ∧ n ≤ 70368744177728 := by omega
        generalize sumK l l.length = R at hR hN
        generalize sumK l i.toNat = x at hI hN
        have h1 : 0 ≤ n * R := Int.mul_nonneg hn0.1 (by omega)
        have h2 : n * R ≤ 70368744177728 * 16000 := Int.mul_le_mul hn0.2 (by omega) (by omega) (by omega)
        have e1 : Int.tdiv 1099511627776 R = 1099511627776 / R := Int.tdiv_eq_ediv_of_nonneg (by omega)
        have h3 : 1099511627776 / R ≤ 1099511627776 := Int.ediv_le_self _ (by omega)
        have h4 : 0 ≤ 1099511627776 / R := Int.ediv_nonneg (by omega) (by omega)
        have h5 : 1099511627776 / R < n ↔ 1099511627776 < n * R := Int.ediv_lt_iff_lt_mul (by omega)
        rw [e1, w64 (x := 1099511627776 / R) (by omega), w64 (x := n * R) (by omega), w64 (x := n * R + x) (by omega), w64 (x := n * R + x + t) (by omega)]
        refine ⟨fun hd => ?_, fun hd => ⟨hpl, fun hd2 => ?_, fun hd2 => ?_⟩⟩
        · have hd := h5.mp (of_decide_eq_true hd)
          have hb : timeB l cy c r i t = false := by rw [hB]; exact decide_eq_false (by omega)
          rw [no hb, hb]; rfl
        · have hd2 := of_decide_eq_true hd2
          have hb : timeB l cy c r i t = false := by rw [hB]; exact decide_eq_false (by omega)
          rw [no hb, hb]; rfl
        · have hd2 := of_decide_eq_false hd2
          have hb : timeB l cy c r i t = true := by rw [hB]; exact decide_eq_true (by omega)
          have : timeI l cy c r i t = n * R + x + t := by unfold timeI; rw [if_pos hb, hN]
          rw [this, hb]; rfl
    · cases hg

end Go.Proofs.Ytnhgnidpoiolgaa.X
