/- Raw plans may be; times and spots are one another's. -/
import Derived.Test.YtnhgnidpoiolgaaRLaw08
namespace Go.Proofs.Ytnhgnidpoiolgaa.X
open Go Go.RX Go.RowKit Go.Proofs
set_option linter.unusedVariables false
set_option linter.unusedSimpArgs false
set_option maxHeartbeats 400000
theorem planK_get (ticks : List Int) (turn n : Int) {k i : Nat} (h : i < k) : (planK ticks turn n k).getD i d_slot = slotP ticks turn n i := by
  unfold planK; rw [List.getD_eq_getElem?_getD, List.getElem?_map, List.getElem?_range h]; rfl
theorem tickI_rng (ticks : List Int) (i : Nat) : 1 ≤ tickI ticks i ∧ tickI ticks i ≤ 1000 := by
  unfold tickI
  split
  · omega
  · have := pickI_rng (ticks.getD (i % ticks.length) 0) 1000 (by decide); omega
theorem planN_rng (many : Int) : 2 ≤ planN many ∧ planN many ≤ 16 := by
  have := pickI_rng many 15 (by decide)
  unfold planN; omega
theorem planC_rng (cycle : Int) : 1 ≤ planC cycle ∧ planC cycle ≤ 64 := by
  have := pickI_rng cycle 64 (by decide)
  unfold planC; omega
theorem planL_len (many : Int) (ticks : List Int) (turn : Int) : (planL many ticks turn).length = (planN many).toNat := planK_length ..
theorem planL_get (many : Int) (ticks : List Int) (turn : Int) {i : Nat} (h : i < (planL many ticks turn).length) : (planL many ticks turn).getD i d_slot = slotP ticks turn (planN many) i := planK_get _ _ _ (by rw [planL_len] at h; exact h)
/-- Of the same plan no two slots are one node's. -/
theorem node_ne {p n : Int} {i j : Nat} (hij : j < i) (hi : (i : Int) < n) : ((j : Int) + p) % n ≠ ((i : Int) + p) % n := fun c => by
  have c := Int.emod_eq_emod_iff_emod_sub_eq_zero.mp c.symm
  have e : ((i : Int) + p) - ((j : Int) + p) = (i : Int) - (j : Int) := by omega
  rw [e, Int.emod_eq_of_lt (by omega) (by omega)] at c
  omega
theorem mem_take {l : List Slot} {i : Nat} {x : Slot} (h : x ∈ l.take i) : ∃ j, j < i ∧ j < l.length ∧ x = l.getD j d_slot := by
  obtain ⟨j, hj, e⟩ := List.mem_iff_getElem.mp h
  rw [List.length_take] at hj
  refine ⟨j, by omega, by omega, ?_⟩
  rw [List.getElem_take] at e
  rw [← e, List.getD_eq_getElem?_getD, List.getElem?_eq_getElem (by omega)]; rfl
theorem fresh_of {l : List Slot} {i : Nat} (h : ∀ j, j < i → j < l.length → (l.getD j d_slot).node ≠ (l.getD i d_slot).node) : freshS l i = true := by
  unfold freshS
  refine List.all_eq_true.mpr fun x hx => ?_
  obtain ⟨j, h1, h2, e⟩ := mem_take hx
  rw [e, decide_eq_false (h j h1 h2)]; rfl
theorem fresh_is {l : List Slot} {i j : Nat} (h : freshS l i = true) (hj : j < i) (hl : j < l.length) : (l.getD j d_slot).node ≠ (l.getD i d_slot).node := fun c => by
  unfold freshS at h
  have hm : l.getD j d_slot ∈ l.take i := by
    refine List.mem_iff_getElem.mpr ⟨j, by rw [List.length_take]; omega, ?_⟩
    rw [List.getElem_take, List.getD_eq_getElem?_getD, List.getElem?_eq_getElem hl]; rfl
  have := List.all_eq_true.mp h _ hm
  rw [decide_eq_true c] at this; cases this
theorem plan_of {l : List Slot} {cy : Int} (h1 : 2 ≤ l.length ∧ l.length ≤ 16) (h2 : 1 ≤ cy ∧ cy ≤ 64) (h3 : ∀ i, i < l.length → slotR l i = true) : planR l cy = true := by
  unfold planR planS
  rw [decide_eq_true h1, decide_eq_true h2]
  exact List.all_eq_true.mpr fun i hi => h3 i (List.mem_range.mp hi)
theorem slotR_of {l : List Slot} {i : Nat} (h1 : 0 ≤ (l.getD i d_slot).node ∧ (l.getD i d_slot).node ≤ 15) (h2 : 1 ≤ (l.getD i d_slot).ticks ∧ (l.getD i d_slot).ticks ≤ 1000) (h3 : freshS l i = true) : slotR l i = true := by
  unfold slotR okSl
  rw [decide_eq_true h1, decide_eq_true h2, h3]; rfl
theorem plan_right (many : Int) (ticks : List Int) (turn cycle : Int) : planR (planL many ticks turn) (planC cycle) = true := by
  have hn := planN_rng many
  have hl := planL_len many ticks turn
  refine plan_of (by rw [hl]; omega) (planC_rng cycle) fun i hi => ?_
  have hg := planL_get many ticks turn hi
  have hm := pickI_rng turn (planN many) (by omega)
  refine slotR_of ?_ ?_ (fresh_of fun j h1 h2 => ?_)
  · rw [hg]
    show 0 ≤ ((i : Int) + pickI turn (planN many)) % planN many ∧ ((i : Int) + pickI turn (planN many)) % planN many ≤ 15
    have a := Int.emod_nonneg ((i : Int) + pickI turn (planN many)) (show planN many ≠ 0 by omega)
    have b := Int.emod_lt_of_pos ((i : Int) + pickI turn (planN many)) (show 0 < planN many by omega)
    omega
  · rw [hg]; exact tickI_rng ticks i
  · rw [hg, planL_get many ticks turn h2]
    exact node_ne h1 (by omega)
theorem slots_of {l : List Slot} {cy : Int} (h : planR l cy = true) : ∀ i, i < l.length → slotR l i = true := (planR_is h).2.2
/-- Which slot a tick is in. -/
theorem pos_ex {l : List Slot} {x : Int} (h0 : 0 ≤ x) : ∀ m, x < sumK l m → ∃ k, k < m ∧ sumK l k ≤ x ∧ x < sumK l (k + 1)
  | 0, h => by
    have : sumK l 0 = 0 := rfl
    omega
  | m + 1, h => by
    by_cases c : x < sumK l m
    · obtain ⟨k, h1, h2, h3⟩ := pos_ex h0 m c
      exact ⟨k, by omega, h2, h3⟩
    · exact ⟨m, by omega, by omega, h⟩
theorem at_time {l : List Slot} {cy c r i t : Int} (h : spotB l cy c r i t = true) (h2 : timeN l cy c r i t ≤ 1099511627776) : atB l cy (timeN l cy c r i t) = true ∧ atS l cy (timeN l cy c r i t) = ⟨c, r, i, t⟩ := by
  obtain ⟨hpl, hc, hr, hi, ht⟩ := spotB_is h
  obtain ⟨hlen, hcy, hs⟩ := planR_is hpl
  have hR := sumK_rng hs l.length (Nat.le_refl _)
  have hI := sumK_rng hs i.toNat (by omega)
  have hm0 : 0 ≤ c * cy := Int.mul_nonneg hc.1 (by omega)
  have h9 : sumK l (i.toNat + 1) = sumK l i.toNat + (l.getD i.toNat d_slot).ticks := rfl
  have hmono := sumK_mono hs (a := i.toNat + 1) (b := l.length) (by omega) (Nat.le_refl _)
  have hN : timeN l cy c r i t = (sumK l i.toNat + t) + (c * cy + r) * sumK l l.length := by unfold timeN; omega
  have h3 : 0 ≤ (c * cy + r) * sumK l l.length := Int.mul_nonneg (by omega) (by omega)
  have hB : atB l cy (timeN l cy c r i t) = true := by
    unfold atB; rw [hpl, decide_eq_true (by omega)]; rfl
  refine ⟨hB, ?_⟩
  have q1 : timeN l cy c r i t / sumK l l.length = c * cy + r := by
    rw [hN, Int.add_mul_ediv_right _ _ (by omega), Int.ediv_eq_zero_of_lt (by omega) (by omega), Int.zero_add]
  have q2 : timeN l cy c r i t % sumK l l.length = sumK l i.toNat + t := by
    rw [hN, Int.add_mul_emod_self_right, Int.emod_eq_of_lt (by omega) (by omega)]
  have q3 : (c * cy + r) / cy = c := by
    rw [Int.add_comm, Int.add_mul_ediv_right _ _ (by omega), Int.ediv_eq_zero_of_lt hr.1 hr.2, Int.zero_add]
  have q4 : (c * cy + r) % cy = r := by
    rw [Int.add_comm, Int.add_mul_emod_self_right, Int.emod_eq_of_lt hr.1 hr.2]
  have q5 : posS l (sumK l i.toNat + t) = i.toNat := pos_is hs (by omega) (by omega) (by omega)
  unfold atS
  rw [if_pos hB, q1, q2, q3, q4, q5]
  have e1 : ((i.toNat : Nat) : Int) = i := by omega
  have e2 : sumK l i.toNat + t - sumK l i.toNat = t := by omega
  rw [e1, e2]
theorem at_back {l : List Slot} {cy t : Int} (hpl : planR l cy = true) (ht : 0 ≤ t ∧ t ≤ 1099511627776) : spotB l cy (atS l cy t).cycle (atS l cy t).round (atS l cy t).slot (atS l cy t).tick = true ∧ timeN l cy (atS l cy t).cycle (atS l cy t).round (atS l cy t).slot (atS l cy t).tick = t := by
  obtain ⟨hlen, hcy, hs⟩ := planR_is hpl
  have hR := sumK_rng hs l.length (Nat.le_refl _)
  have hB : atB l cy t = true := by unfold atB; rw [hpl, decide_eq_true ht]; rfl
  have hS : atS l cy t = ⟨t / sumK l l.length / cy, t / sumK l l.length % cy, (posS l (t % sumK l l.length) : Int), t % sumK l l.length - sumK l (posS l (t % sumK l l.length))⟩ := if_pos hB
  rw [hS]
  have a1 := Int.mul_ediv_add_emod t (sumK l l.length)
  have a2 := Int.emod_nonneg t (show sumK l l.length ≠ 0 by omega)
  have a3 := Int.emod_lt_of_pos t (show 0 < sumK l l.length by omega)
  have a4 := Int.ediv_nonneg ht.1 (show 0 ≤ sumK l l.length by omega)
  have a5 : t / sumK l l.length ≤ t := Int.ediv_le_self _ ht.1
  have b1 := Int.mul_ediv_add_emod (t / sumK l l.length) cy
  have b2 := Int.emod_nonneg (t / sumK l l.length) (show cy ≠ 0 by omega)
  have b3 := Int.emod_lt_of_pos (t / sumK l l.length) (show 0 < cy by omega)
  have b4 := Int.ediv_nonneg a4 (show 0 ≤ cy by omega)
  have b5 : t / sumK l l.length / cy ≤ t / sumK l l.length := Int.ediv_le_self _ a4
  obtain ⟨k, k1, k2, k3⟩ := pos_ex a2 l.length a3
  have hpos := pos_is hs k1 k2 k3
  rw [hpos]
  have h9 : sumK l (k + 1) = sumK l k + (l.getD k d_slot).ticks := rfl
  constructor
  · unfold spotB
    rw [hpl, decide_eq_true (show 0 ≤ t / sumK l l.length / cy ∧ t / sumK l l.length / cy ≤ 1099511627776 by omega), decide_eq_true (show 0 ≤ t / sumK l l.length % cy ∧ t / sumK l l.length % cy < cy from ⟨b2, b3⟩), decide_eq_true (show 0 ≤ (k : Int) ∧ (k : Int) < (l.length : Int) by omega), Int.toNat_natCast, decide_eq_true (show 0 ≤ t % sumK l l.length - sumK l k ∧ t % sumK l l.length - sumK l k < (l.getD k d_slot).ticks by omega)]
    rfl
  · unfold timeN
    simp only [Int.toNat_natCast]
    rw [Int.mul_comm (t / sumK l l.length / cy) cy, b1, Int.mul_comm (t / sumK l l.length)]
    omega
/-! ### Slots, counted from the first one of all -/
def idxO (l : List Slot) (cy c r i : Int) : Int := (c * cy + r) * (l.length : Int) + i
def spotO (l : List Slot) (cy j : Int) : Spot := ⟨j / (l.length : Int) / cy, j / (l.length : Int) % cy, j % (l.length : Int), 0⟩
def begO (l : List Slot) (j : Int) : Int := j / (l.length : Int) * sumK l l.length + sumK l (j % (l.length : Int)).toNat
theorem later_idx (l : List Slot) {cy : Int} (c r i n : Int) (hl : 1 ≤ l.length) (hcy : 1 ≤ cy) : laterO l cy c r i n = spotO l cy (idxO l cy c r i + n) := by
  unfold laterO spotO idxO
  have e : (c * cy + r) * (l.length : Int) + i + n = (i + n) + (c * cy + r) * (l.length : Int) := by omega
  rw [e, Int.add_mul_ediv_right _ _ (show (l.length : Int) ≠ 0 by omega), Int.add_mul_emod_self_right]
  have e2 : (i + n) / (l.length : Int) + (c * cy + r) = (r + (i + n) / (l.length : Int)) + c * cy := by omega
  rw [e2, Int.add_mul_ediv_right _ _ (show cy ≠ 0 by omega), Int.add_mul_emod_self_right, Int.add_comm c]
theorem spotO_time (l : List Slot) (cy j : Int) : timeN l cy (spotO l cy j).cycle (spotO l cy j).round (spotO l cy j).slot 0 = begO l j := by
  unfold timeN spotO begO
  have b1 := Int.mul_ediv_add_emod (j / (l.length : Int)) cy
  simp only
  rw [Int.mul_comm (j / (l.length : Int) / cy) cy, b1, Int.add_zero]
theorem spotO_idx (l : List Slot) (cy j : Int) : idxO l cy (spotO l cy j).cycle (spotO l cy j).round (spotO l cy j).slot = j := by
  unfold idxO spotO
  have b1 := Int.mul_ediv_add_emod (j / (l.length : Int)) cy
  have b2 := Int.mul_ediv_add_emod j (l.length : Int)
  simp only
  rw [Int.mul_comm (j / (l.length : Int) / cy) cy, b1, Int.mul_comm (j / (l.length : Int)), b2]
theorem beg_idx {l : List Slot} {cy c r i : Int} (hi : 0 ≤ i ∧ i < (l.length : Int)) : begO l (idxO l cy c r i) = (c * cy + r) * sumK l l.length + sumK l i.toNat := by
  unfold begO idxO
  rw [Int.add_comm ((c * cy + r) * (l.length : Int)), Int.add_mul_ediv_right _ _ (show (l.length : Int) ≠ 0 by omega), Int.add_mul_emod_self_right, Int.ediv_eq_zero_of_lt hi.1 hi.2, Int.emod_eq_of_lt hi.1 hi.2, Int.zero_add]
theorem spotO_ok {l : List Slot} {cy j : Int} (hpl : planR l cy = true) (hj : 0 ≤ j) (hb : begO l j ≤ 1099511627776) : timeB l cy (spotO l cy j).cycle (spotO l cy j).round (spotO l cy j).slot 0 = true := by
  obtain ⟨hlen, hcy, hs⟩ := planR_is hpl
  have hR := sumK_rng hs l.length (Nat.le_refl _)
  have a1 := Int.emod_nonneg j (show (l.length : Int) ≠ 0 by omega)
  have a2 := Int.emod_lt_of_pos j (show 0 < (l.length : Int) by omega)
  have a3 := Int.ediv_nonneg hj (show 0 ≤ (l.length : Int) by omega)
  have b2 := Int.emod_nonneg (j / (l.length : Int)) (show cy ≠ 0 by omega)
  have b3 := Int.emod_lt_of_pos (j / (l.length : Int)) (show 0 < cy by omega)
  have b4 := Int.ediv_nonneg a3 (show 0 ≤ cy by omega)
  have b5 : j / (l.length : Int) / cy ≤ j / (l.length : Int) := Int.ediv_le_self _ a3
  have hI := sumK_rng hs (j % (l.length : Int)).toNat (by omega)
  have hT := (slotR_is (hs (j % (l.length : Int)).toNat (by omega))).2.1
  have hm : j / (l.length : Int) * 1 ≤ j / (l.length : Int) * sumK l l.length := Int.mul_le_mul_of_nonneg_left (by omega) a3
  have hb2 : begO l j = j / (l.length : Int) * sumK l l.length + sumK l (j % (l.length : Int)).toNat := rfl
  have ht := spotO_time l cy j
  have hS : spotB l cy (spotO l cy j).cycle (spotO l cy j).round (spotO l cy j).slot 0 = true := by
    unfold spotB spotO
    simp only
    rw [hpl, decide_eq_true (show 0 ≤ j / (l.length : Int) / cy ∧ j / (l.length : Int) / cy ≤ 1099511627776 by omega), decide_eq_true (show 0 ≤ j / (l.length : Int) % cy ∧ j / (l.length : Int) % cy < cy from ⟨b2, b3⟩), decide_eq_true (show 0 ≤ j % (l.length : Int) ∧ j % (l.length : Int) < (l.length : Int) from ⟨a1, a2⟩), decide_eq_true (show 0 ≤ (0 : Int) ∧ 0 < (l.getD (j % (l.length : Int)).toNat d_slot).ticks by omega)]
    rfl
  unfold timeB
  rw [hS, ht, decide_eq_true hb]; rfl
theorem beg_succ {l : List Slot} {cy j : Int} (hpl : planR l cy = true) (hj : 0 ≤ j) : begO l (j + 1) = begO l j + (l.getD (j % (l.length : Int)).toNat d_slot).ticks := by
  obtain ⟨hlen, hcy, hs⟩ := planR_is hpl
  have a1 := Int.emod_nonneg j (show (l.length : Int) ≠ 0 by omega)
  have a2 := Int.emod_lt_of_pos j (show 0 < (l.length : Int) by omega)
  have a0 := Int.mul_ediv_add_emod j (l.length : Int)
  unfold begO
  have e : j + 1 = (j % (l.length : Int) + 1) + j / (l.length : Int) * (l.length : Int) := by rw [Int.mul_comm (j / (l.length : Int))]; omega
  have q1 : (j + 1) / (l.length : Int) = (j % (l.length : Int) + 1) / (l.length : Int) + j / (l.length : Int) := by
    conv => lhs; rw [e]
    exact Int.add_mul_ediv_right _ _ (by omega)
  have q2 : (j + 1) % (l.length : Int) = (j % (l.length : Int) + 1) % (l.length : Int) := by
    conv => lhs; rw [e]
    exact Int.add_mul_emod_self_right ..
  rw [q1, q2]
  generalize j / (l.length : Int) = q
  generalize j % (l.length : Int) = m at a1 a2
  by_cases c : m + 1 < (l.length : Int)
  · rw [Int.ediv_eq_zero_of_lt (by omega) c, Int.emod_eq_of_lt (by omega) c, Int.zero_add, show (m + 1).toNat = m.toNat + 1 by omega]
    have h9 : sumK l (m.toNat + 1) = sumK l m.toNat + (l.getD m.toNat d_slot).ticks := rfl
    omega
  · have c : m + 1 = (l.length : Int) := by omega
    rw [c, Int.ediv_self (by omega), Int.emod_self]
    have h9 : sumK l (m.toNat + 1) = sumK l m.toNat + (l.getD m.toNat d_slot).ticks := rfl
    rw [show m.toNat + 1 = l.length by omega] at h9
    have h0 : sumK l (Int.toNat 0) = 0 := rfl
    rw [h0, Int.add_mul, Int.one_mul]
    omega
theorem beg_add {l : List Slot} {cy j : Int} (hpl : planR l cy = true) (hj : 0 ≤ j) : ∀ n : Nat, begO l j + (n : Int) ≤ begO l (j + (n : Int)) ∧ begO l (j + (n : Int)) ≤ begO l j + 1000 * (n : Int)
  | 0 => by
    have e : j + ((0 : Nat) : Int) = j := by omega
    rw [e]; omega
  | n + 1 => by
    obtain ⟨hlen, hcy, hs⟩ := planR_is hpl
    have ih := beg_add hpl hj n
    have a1 := Int.emod_nonneg (j + (n : Int)) (show (l.length : Int) ≠ 0 by omega)
    have a2 := Int.emod_lt_of_pos (j + (n : Int)) (show 0 < (l.length : Int) by omega)
    have h1 := beg_succ hpl (j := j + (n : Int)) (by omega)
    have hT := (slotR_is (hs ((j + (n : Int)) % (l.length : Int)).toNat (by omega))).2.1
    have e : j + ((n + 1 : Nat) : Int) = j + (n : Int) + 1 := by omega
    rw [e, h1]; omega
theorem spotB_of {l : List Slot} {cy c r i t : Int} (hpl : planR l cy = true) (hc : 0 ≤ c ∧ c ≤ 1099511627776) (hr : 0 ≤ r ∧ r < cy) (hi : 0 ≤ i ∧ i < (l.length : Int)) (ht : 0 ≤ t ∧ t < (l.getD i.toNat d_slot).ticks) : spotB l cy c r i t = true := by
  unfold spotB
  rw [hpl, decide_eq_true hc, decide_eq_true hr, decide_eq_true hi, decide_eq_true ht]; rfl
theorem timeB_of {l : List Slot} {cy c r i t : Int} (h : spotB l cy c r i t = true) (h2 : timeN l cy c r i t ≤ 1099511627776) : timeB l cy c r i t = true ∧ timeI l cy c r i t = timeN l cy c r i t := by
  have hB : timeB l cy c r i t = true := by unfold timeB; rw [h, decide_eq_true h2]; rfl
  exact ⟨hB, if_pos hB⟩
theorem spot_beg {l : List Slot} {cy c r i t : Int} (h : spotB l cy c r i t = true) : 0 ≤ idxO l cy c r i ∧ begO l (idxO l cy c r i) + t = timeN l cy c r i t ∧ timeN l cy c r i t < begO l (idxO l cy c r i + 1) ∧ 0 ≤ t := by
  obtain ⟨hpl, hc, hr, hi, ht⟩ := spotB_is h
  obtain ⟨hlen, hcy, hs⟩ := planR_is hpl
  have hm0 : 0 ≤ c * cy := Int.mul_nonneg hc.1 (by omega)
  have hm1 : 0 ≤ (c * cy + r) * (l.length : Int) := Int.mul_nonneg (by omega) (by omega)
  have hJ : 0 ≤ idxO l cy c r i := by unfold idxO; omega
  have e1 := beg_idx (l := l) (cy := cy) (c := c) (r := r) hi
  have e2 : idxO l cy c r i % (l.length : Int) = i := by
    unfold idxO
    rw [Int.add_comm, Int.add_mul_emod_self_right, Int.emod_eq_of_lt hi.1 hi.2]
  have e3 := beg_succ hpl hJ
  rw [e2] at e3
  have hN : timeN l cy c r i t = (c * cy + r) * sumK l l.length + sumK l i.toNat + t := rfl
  exact ⟨hJ, by omega, by omega, ht.1⟩
/-- So many slots later, where there is time enough. -/
theorem later_main {l : List Slot} {cy c r i t n : Int} (h : spotB l cy c r i t = true) (hn : 0 ≤ n ∧ n ≤ 1073741824) (hb : begO l (idxO l cy c r i + n) ≤ 1099511627776) (hb0 : timeN l cy c r i t ≤ 1099511627776) : laterB l cy c r i t n = true ∧ (n = 0 → laterS l cy c r i t n = ⟨c, r, i, t⟩) ∧ (n ≠ 0 → laterS l cy c r i t n = spotO l cy (idxO l cy c r i + n)) := by
  obtain ⟨hpl, hc, hr, hi, ht⟩ := spotB_is h
  obtain ⟨hlen, hcy, hs⟩ := planR_is hpl
  have hJ := (spot_beg h).1
  have e := later_idx l (cy := cy) c r i n (by omega) (by omega)
  have hB : laterB l cy c r i t n = true := by
    unfold laterB
    rw [(timeB_of h hb0).1, decide_eq_true hn, e, spotO_ok hpl (j := idxO l cy c r i + n) (by omega) hb, Bool.or_true]; rfl
  refine ⟨hB, fun h0 => ?_, fun h0 => ?_⟩
  · unfold laterS; rw [if_pos hB, if_pos h0]
  · unfold laterS; rw [if_pos hB, if_neg h0, e]
/-! ### Plans that are none -/
theorem odd_no {l : List Slot} {cy : Int} (h : planR l cy = false) : roundS l cy = 0 ∧ (∀ t, atB l cy t = false) ∧ (∀ c r i t, timeB l cy c r i t = false) ∧ ∀ nd, slotB l cy nd = false := by
  refine ⟨?_, fun t => ?_, fun c r i t => ?_, fun nd => ?_⟩
  · unfold roundS; rw [h]; rfl
  · unfold atB; rw [h]; rfl
  · unfold timeB spotB; rw [h]; rfl
  · unfold slotB; rw [h]; rfl
theorem odd_slot {l : List Slot} {cy : Int} (k : Nat) (hk : k < l.length) (h : slotR l k = false) : planR l cy = false := by
  unfold planR
  rw [List.all_eq_false.mpr ⟨k, List.mem_range.mpr hk, by rw [h]; decide⟩, Bool.and_false]
theorem odd_twice {l : List Slot} {cy : Int} {i j : Nat} (hij : i < j) (hj : j < l.length) (h : (l.getD i d_slot).node = (l.getD j d_slot).node) : planR l cy = false := by
  cases hp : planR l cy with
  | false => rfl
  | true => exact absurd h (fresh_is (slotR_is (slots_of hp j hj)).2.2 hij (by omega))
theorem getD_set (l : List Slot) (i j : Nat) (x : Slot) : (l.set i x).getD j d_slot = if i = j ∧ j < l.length then x else l.getD j d_slot := by
  rw [List.getD_eq_getElem?_getD, List.getElem?_set]
  by_cases c : i = j
  · subst c
    rw [if_pos rfl]
    by_cases d : i < l.length
    · rw [if_pos d, if_pos ⟨rfl, d⟩]; rfl
    · rw [if_neg d, if_neg fun h => d h.2, List.getD_eq_getElem?_getD, List.getElem?_eq_none (by omega)]
  · rw [if_neg c, if_neg fun h => c h.1, List.getD_eq_getElem?_getD]
end Go.Proofs.Ytnhgnidpoiolgaa.X
