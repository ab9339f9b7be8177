/- Plans: which may be; their nodes, rounds and slots, as the program has it. -/
import Derived.Test.YtnhgnidpoiolgaaRSref
namespace Go.Proofs.Ytnhgnidpoiolgaa.X
open Go Go.RX Go.RowKit Go.Proofs
set_option linter.unusedVariables false
set_option linter.unusedSimpArgs false
set_option maxHeartbeats 4000000
theorem hasB_with8 (v a x : Int) : hasB (withB v a) x = (hasB v x || (decide (x = a) && decide (0 ≤ a ∧ a ≤ 15))) := by
  by_cases ha : 0 ≤ a ∧ a ≤ 15
  · rw [decide_eq_true ha, Bool.and_true]
    by_cases hx : 0 ≤ x ∧ x ≤ 15
    · obtain ⟨m, rfl⟩ := Int.eq_ofNat_of_zero_le ha.1
      obtain ⟨j, rfl⟩ := Int.eq_ofNat_of_zero_le hx.1
      have hm : m ≤ 15 := by omega
      have hlt : (v % 65536).toNat < 65536 := by omega
      have e0 := hasB_nat v (v % 65536).toNat m hm (by omega)
      have ej := hasB_nat v (v % 65536).toNat j (by omega) (by omega)
      rw [Nat.mod_eq_of_lt hlt] at e0 ej
      have key : withB v (m : Int) = (((v % 65536).toNat ||| 2 ^ m : Nat) : Int) := by
        unfold withB
        rw [decide_eq_true ha, Bool.true_and, e0, show (Int.toNat ((m : Nat) : Int)) = m from rfl]
        cases c : (v % 65536).toNat.testBit m with
        | true =>
          rw [if_neg (by decide)]
          have : (v % 65536).toNat ||| 2 ^ m = (v % 65536).toNat := by
            apply Nat.eq_of_testBit_eq
            intro i
            rw [Nat.testBit_or, Nat.testBit_two_pow]
            by_cases d : m = i
            · subst d; simp [c]
            · simp [d]
          rw [this]; omega
        | false =>
          rw [if_pos (by decide), or_add_pow _ _ hlt hm c]
          have hpi : ((2 : Int) ^ m) = ((2 ^ m : Nat) : Int) := by simp
          rw [hpi]; omega
      have hor : (v % 65536).toNat ||| 2 ^ m < 65536 := by
        have : (2 : Nat) ^ m < 2 ^ 16 := Nat.pow_lt_pow_right (by omega) (by omega)
        exact Nat.or_lt_two_pow (n := 16) hlt this
      rw [key, hasB_nat _ ((v % 65536).toNat ||| 2 ^ m) j (by omega) rfl, Nat.mod_eq_of_lt hor, Nat.testBit_or, Nat.testBit_two_pow, ej]
      by_cases d : m = j
      · subst d; simp
      · rw [decide_eq_false d, decide_eq_false (show ¬ ((j : Nat) : Int) = (m : Int) by omega)]
    · rw [hasB_out hx, hasB_out hx, decide_eq_false (fun e => hx (by rw [e]; exact ha))]; rfl
  · rw [decide_eq_false ha, Bool.and_false, Bool.or_false]
    have : withB v a = v % 65536 := by unfold withB; rw [decide_eq_false ha]; rfl
    rw [this, hasB_mod]
theorem hasB_zero8 (x : Int) : hasB 0 x = false := by
  unfold hasB
  rw [show (0 : Int) / 2 ^ x.toNat % 2 = 0 by simp]
  simp
theorem vl_len (v a : Int) (ha : 0 ≤ a ∧ a ≤ 15) (hv : hasB v a = false) : ∀ k : Nat, (vl (withB v a) k).length = (vl v k).length + if a < (k : Int) then 1 else 0
  | 0 => by rw [if_neg (by omega)]; rfl
  | k + 1 => by
    have ih := vl_len v a ha hv k
    have hw := hasB_with8 v a (k : Int)
    rw [decide_eq_true ha, Bool.and_true] at hw
    by_cases c : (k : Int) = a
    · have h1 : hasB v (k : Int) = false := by rw [c]; exact hv
      rw [h1, decide_eq_true c] at hw
      rw [vl_yes hw, vl_no h1, List.length_append, ih, if_neg (by omega), if_pos (by omega)]; rfl
    · rw [decide_eq_false c, Bool.or_false] at hw
      have hi : (if a < (k : Int) then 1 else 0 : Nat) = if a < ((k + 1 : Nat) : Int) then 1 else 0 := by
        by_cases q : a < (k : Int)
        · rw [if_pos q, if_pos (by omega)]
        · rw [if_neg q, if_neg (by omega)]
      cases hb : hasB v (k : Int) with
      | true => rw [hb] at hw; rw [vl_yes hw, vl_yes hb, List.length_append, List.length_append, ih, ← hi]; simp only [List.length_singleton]; omega
      | false => rw [hb] at hw; rw [vl_no hw, vl_no hb, ih, ← hi]
theorem vl_same (v a : Int) (hv : hasB v a = true) : ∀ k : Nat, vl (withB v a) k = vl v k
  | 0 => rfl
  | k + 1 => by
    have ih := vl_same v a hv k
    have hw := hasB_with8 v a (k : Int)
    have hw2 : hasB (withB v a) (k : Int) = hasB v (k : Int) := by
      rw [hw]
      by_cases c : (k : Int) = a
      · rw [c, hv]; rfl
      · rw [decide_eq_false c, Bool.false_and, Bool.or_false]
    cases hb : hasB v (k : Int) with
    | true => rw [hb] at hw2; rw [vl_yes hw2, vl_yes hb, ih]
    | false => rw [hb] at hw2; rw [vl_no hw2, vl_no hb, ih]
def okN (l : List Slot) (k : Nat) : Bool := (List.range k).all fun i => okSl (l.getD i d_slot)
theorem okN_at {l : List Slot} {k i : Nat} (h : okN l k = true) (hi : i < k) : 0 ≤ (l.getD i d_slot).node ∧ (l.getD i d_slot).node ≤ 15 := by
  have := List.all_eq_true.mp h i (List.mem_range.mpr hi)
  unfold okSl at this
  simp only [Bool.and_eq_true, decide_eq_true_eq] at this
  exact this.1
theorem okN_less {l : List Slot} {k : Nat} (h : okN l (k + 1) = true) : okN l k = true := by
  unfold okN at h ⊢
  rw [List.range_succ, List.all_append, Bool.and_eq_true] at h
  exact h.1
theorem vec_has (l : List Slot) (x : Int) : ∀ k, k ≤ l.length → okN l k = true → hasB (vecK l k) x = (l.take k).any fun y => decide (y.node = x)
  | 0, _, _ => hasB_zero8 x
  | k + 1, hk, h => by
    have hlt : k < l.length := by omega
    have ih := vec_has l x k (by omega) (okN_less h)
    have eg : l.getD k d_slot = l[k] := by rw [List.getD_eq_getElem?_getD, List.getElem?_eq_getElem hlt]; rfl
    have ha := okN_at h (Nat.lt_succ_self k)
    rw [List.take_succ_eq_append_getElem hlt, List.any_append, ← ih, vecK, hasB_with8, decide_eq_true ha, eg]
    have : decide (x = (l[k]).node) = decide ((l[k]).node = x) := decide_eq_decide.mpr eq_comm
    rw [this]; simp
theorem vec_cnt (l : List Slot) : ∀ k, k ≤ l.length → okN l k = true → (vl (vecK l k) 16).length ≤ k ∧ ((vl (vecK l k) 16).length = k ↔ (List.range k).all (freshS l) = true)
  | 0, _, _ => by
    have : (vl (vecK l 0) 16).length = 0 := (by decide : (vl 0 16).length = 0)
    rw [this]; exact ⟨Nat.le_refl _, fun _ => rfl, fun _ => rfl⟩
  | k + 1, hk, h => by
    obtain ⟨h1, h2⟩ := vec_cnt l k (by omega) (okN_less h)
    have ha := okN_at h (Nat.lt_succ_self k)
    have hh := vec_has l (l.getD k d_slot).node k (by omega) (okN_less h)
    have hf : freshS l k = !hasB (vecK l k) (l.getD k d_slot).node := by
      rw [hh]; unfold freshS
      rw [List.not_any_eq_all_not]
    rw [List.range_succ, List.all_append]
    simp only [List.all_cons, List.all_nil, Bool.and_true, Bool.and_eq_true]
    rw [hf]
    show (vl (withB (vecK l k) (l.getD k d_slot).node) 16).length ≤ k + 1 ∧ _
    cases hb : hasB (vecK l k) (l.getD k d_slot).node with
    | true =>
      rw [vl_same _ _ hb]
      refine ⟨by omega, fun c => absurd c ?_, fun c => (by cases c.2)⟩
      show ¬ (vl (withB (vecK l k) (l.getD k d_slot).node) 16).length = k + 1
      rw [vl_same _ _ hb]; omega
    | false =>
      have hl := vl_len _ _ ha hb 16
      rw [if_pos (by omega)] at hl
      refine ⟨by omega, fun c => ⟨h2.mp ?_, rfl⟩, fun c => ?_⟩
      · have c : (vl (withB (vecK l k) (l.getD k d_slot).node) 16).length = k + 1 := c
        omega
      · have := h2.mpr c.1
        show (vl (withB (vecK l k) (l.getD k d_slot).node) 16).length = k + 1
        omega
def beforeS (l : List Slot) (i : Int) : Int := if 0 ≤ i ∧ i ≤ (l.length : Int) then sumK l i.toNat else 0
def sNodes_S : RX.Spec U := fun
  | [⟨true, [.sl .slot l, .v (.int .i64 cy)]⟩] => some ⟨some (l.length ≤ 1000000), (.one ⟨false, [.v (.int .i64 (vecK l l.length))]⟩)⟩
  | _ => none

theorem sNodes_ok : ConOk Try.prog U GV 13 sNodes_S :=
  fn_go gs ty glok (conCons vWith_ok conNil) Try.func13 (by kernel_rfl) fun ds r hg hp => by
    unfold sNodes_S at hg
    split at hg
    · rename_i l cy
      obtain ⟨l, rfl⟩ : ∃ q_ : List Slot, q_ = l := ⟨l, rfl⟩
      cases hg
      replace hp : (l.length ≤ 1000000) := hp
      refine ⟨fun st key => if key = 2 then some { N := l.length, mods := fun k => [.tv 8 (.int .i64 (k : Int)), .tv 2 (.int .i64 (vecK l k))] } else none, True ∧ (Value.int IntKind.i64 (0 : Int) = Value.int IntKind.i64 (0 : Int) ∧ Value.int IntKind.i64 (0 : Int) = Value.int IntKind.i64 (vecK l (0 : Nat))) ∧ ∀ (k : Nat), k ≤ List.length l → True → (decide ((↑k : Int) < (↑(List.length l) : Int)) = true → ((0 : Int) ≤ (↑k : Int) ∧ (↑k : Int) < (↑(List.length l) : Int)) ∧ k < List.length l ∧ True ∧ Value.int IntKind.i64 (wrap64 ((↑k : Int) + (1 : Int))) = Value.int IntKind.i64 (↑(k + (1 : Nat)) : Int) ∧ Value.int IntKind.i64 (withB (vecK l k) (Slot.node (List.getD l (Int.toNat (↑k : Int)) (d_slot)))) = Value.int IntKind.i64 (vecK l (k + (1 : Nat)))) ∧ (decide ((↑k : Int) < (↑(List.length l) : Int)) = false → Out.one (U := U) (D.mk false [CV.v (Value.int IntKind.i64 (vecK l k))]) = Out.one (U := U) (D.mk false [CV.v (Value.int IntKind.i64 (vecK l (List.length l)))])), by kernel_rfl, ?_⟩
      refine ⟨trivial, ⟨rfl, rfl⟩, fun k hk _ => ⟨fun hlt => ?_, fun hge => ?_⟩⟩
      · have hlt : k < l.length := by have := of_decide_eq_true hlt; omega
        rw [Int.toNat_natCast]
        exact ⟨⟨by omega, by omega⟩, hlt, trivial, by rw [w64 (by omega)]; rfl, rfl⟩
      · have hge := of_decide_eq_false hge
        have hk2 : k = l.length := by omega
        subst hk2; rfl
    · cases hg

def sRight_S : RX.Spec U := fun
  | [⟨true, [.sl .slot l, .v (.int .i64 cy)]⟩] => some ⟨some (l.length ≤ 1000000), (.one ⟨false, [.v (.bool (planR l cy))]⟩)⟩
  | _ => none

theorem sRight_ok : ConOk Try.prog U GV 11 sRight_S :=
  fn_go gs ty glok (conCons sNodes_ok (conCons vCount_ok conNil)) Try.func11 (by kernel_rfl) fun ds r hg hp => by
    unfold sRight_S at hg
    split at hg
    · rename_i l cy
      obtain ⟨l, rfl⟩ : ∃ q_ : List Slot, q_ = l := ⟨l, rfl⟩
      cases hg
      replace hp : (l.length ≤ 1000000) := hp
      refine ⟨fun st key => if key = 3 then some { N := l.length, mods := fun k => [.tv 12 (.int .i64 (k : Int))], inv := fun k => okN l k = true } else none, okN l (0 : Nat) = true ∧ Value.int IntKind.i64 (0 : Int) = Value.int IntKind.i64 (0 : Int) ∧ ∀ (k : Nat), k ≤ List.length l → okN l k = true → (decide ((↑k : Int) < (↑(List.length l) : Int)) = true → ((0 : Int) ≤ (↑k : Int) ∧ (↑k : Int) < (↑(List.length l) : Int)) ∧ ((decide (Slot.node (List.getD l (Int.toNat (↑k : Int)) (d_slot)) < (0 : Int)) || decide ((16 : Int) ≤ Slot.node (List.getD l (Int.toNat (↑k : Int)) (d_slot))) || decide (Slot.ticks (List.getD l (Int.toNat (↑k : Int)) (d_slot)) < (1 : Int)) || decide ((1000 : Int) < Slot.ticks (List.getD l (Int.toNat (↑k : Int)) (d_slot)))) = true → Out.one (U := U) (D.mk false [CV.v (Value.bool false)]) = Out.one (U := U) (D.mk false [CV.v (Value.bool (planR l cy))])) ∧ ((decide (Slot.node (List.getD l (Int.toNat (↑k : Int)) (d_slot)) < (0 : Int)) || decide ((16 : Int) ≤ Slot.node (List.getD l (Int.toNat (↑k : Int)) (d_slot))) || decide (Slot.ticks (List.getD l (Int.toNat (↑k : Int)) (d_slot)) < (1 : Int)) || decide ((1000 : Int) < Slot.ticks (List.getD l (Int.toNat (↑k : Int)) (d_slot)))) = false → k < List.length l ∧ okN l (k + (1 : Nat)) = true ∧ Value.int IntKind.i64 (wrap64 ((↑k : Int) + (1 : Int))) = Value.int IntKind.i64 (↑(k + (1 : Nat)) : Int))) ∧ (decide ((↑k : Int) < (↑(List.length l) : Int)) = false → ((decide ((2 : Int) ≤ (↑(List.length l) : Int)) && decide ((↑(List.length l) : Int) ≤ (16 : Int))) = true → List.length l ≤ (1000000 : Nat)) ∧ Out.one (U := U) (D.mk false [CV.v (Value.bool (decide ((2 : Int) ≤ (↑(List.length l) : Int)) && decide ((↑(List.length l) : Int) ≤ (16 : Int)) && (↑(List.length (vl (vecK l (List.length l)) (16 : Nat))) : Int) == (↑(List.length l) : Int) && decide ((1 : Int) ≤ cy) && decide (cy ≤ (64 : Int))))]) = Out.one (U := U) (D.mk false [CV.v (Value.bool (planR l cy))])), by kernel_rfl, ?_⟩
      have hO : ∀ x : Slot, okSl x = !(decide (x.node < 0) || decide ((16 : Int) ≤ x.node) || decide (x.ticks < 1) || decide ((1000 : Int) < x.ticks)) := fun x => by
        unfold okSl
        rw [Bool.eq_iff_iff]
        simp only [Bool.and_eq_true, decide_eq_true_eq, Bool.not_eq_true', Bool.or_eq_false_iff, decide_eq_false_iff_not]
        omega
      have noM : ∀ k, k < l.length → okSl (l.getD k d_slot) = false → planR l cy = false := fun k hk h => by
        unfold planR
        rw [List.all_eq_false.mpr ⟨k, List.mem_range.mpr hk, by unfold slotR; rw [h, Bool.false_and]; decide⟩, Bool.and_false]
      have hsp : (List.range l.length).all (slotR l) = true ↔ okN l l.length = true ∧ (List.range l.length).all (freshS l) = true := by
        unfold okN
        rw [List.all_eq_true, List.all_eq_true, List.all_eq_true]
        constructor
        · intro h
          refine ⟨fun i hi => ?_, fun i hi => ?_⟩
          · have := h i hi; unfold slotR at this; exact (Bool.and_eq_true_iff.mp this).1
          · have := h i hi; unfold slotR at this; exact (Bool.and_eq_true_iff.mp this).2
        · rintro ⟨h1, h2⟩ i hi
          unfold slotR
          rw [h1 i hi, h2 i hi]; rfl
      refine ⟨rfl, rfl, fun k hk hik => ⟨fun hlt => ?_, fun hge => ?_⟩⟩
      · have hlt : k < l.length := by have := of_decide_eq_true hlt; omega
        rw [Int.toNat_natCast]
        refine ⟨⟨by omega, by omega⟩, fun ho => ?_, fun ho => ⟨hlt, ?_, by rw [w64 (by omega)]; rfl⟩⟩
        · rw [noM k hlt (by rw [hO, ho]; rfl)]
        · unfold okN at hik ⊢
          rw [List.range_succ, List.all_append, hik]
          simp only [List.all_cons, List.all_nil, Bool.and_true, hO, ho, Bool.not_false]
      · have hge := of_decide_eq_false hge
        have hk2 : k = l.length := by omega
        subst hk2
        obtain ⟨_, c2⟩ := vec_cnt l l.length (Nat.le_refl _) hik
        refine ⟨fun _ => hp, ?_⟩
        have e : ((((vl (vecK l l.length) 16).length : Int) == (l.length : Int)) = true) ↔ (List.range l.length).all (freshS l) = true := by
          rw [beq_iff_eq, ← c2]; omega
        have key : (decide ((2 : Int) ≤ (l.length : Int)) && decide ((l.length : Int) ≤ 16) && ((vl (vecK l l.length) 16).length : Int) == (l.length : Int) && decide (1 ≤ cy) && decide (cy ≤ 64)) = planR l cy := by
          unfold planR planS
          rw [Bool.eq_iff_iff]
          simp only [Bool.and_eq_true, decide_eq_true_eq, e, hsp]
          constructor
          · rintro ⟨⟨⟨⟨a1, a2⟩, a3⟩, a4⟩, a5⟩
            exact ⟨⟨⟨by omega, by omega⟩, a4, a5⟩, hik, a3⟩
          · rintro ⟨⟨⟨b1, b2⟩, b3, b4⟩, _, b5⟩
            exact ⟨⟨⟨⟨by omega, by omega⟩, b5⟩, b3⟩, b4⟩
        rw [key]
    · cases hg

def sBefore_S : RX.Spec U := fun
  | [⟨true, [.sl .slot l, .v (.int .i64 cy)]⟩, ⟨false, [.v (.int .i64 i)]⟩] => some ⟨some (planR l cy = true), (.one ⟨false, [.v (.int .i64 (beforeS l i))]⟩)⟩
  | _ => none

theorem sBefore_ok : ConOk Try.prog U GV 31 sBefore_S :=
  fn_go gs ty glok conNil Try.func31 (by kernel_rfl) fun ds r hg hp => by
    unfold sBefore_S at hg
    split at hg
    · rename_i l cy i
      obtain ⟨l, rfl⟩ : ∃ q_ : List Slot, q_ = l := ⟨l, rfl⟩
      cases hg
      replace hp : (planR l cy = true) := hp
      refine ⟨fun st key => if key = 2 then some { N := l.length, mods := fun k => [.tv 9 (.int .i64 (k : Int)), .tv 3 (.int .i64 (sumK l k))], inv := fun k => i < 0 ∨ (k : Int) ≤ i } else none, (i < (0 : Int) ∨ (0 : Int) ≤ i) ∧ (Value.int IntKind.i64 (0 : Int) = Value.int IntKind.i64 (0 : Int) ∧ Value.int IntKind.i64 (0 : Int) = Value.int IntKind.i64 (sumK l (0 : Nat))) ∧ ∀ (k : Nat), k ≤ List.length l → i < (0 : Int) ∨ (↑k : Int) ≤ i → (decide ((↑k : Int) < (↑(List.length l) : Int)) = true → ((0 : Int) ≤ (↑k : Int) ∧ (↑k : Int) < (↑(List.length l) : Int)) ∧ (((↑k : Int) == i) = true → (true = true → Out.one (U := U) (D.mk false [CV.v (Value.int IntKind.i64 (sumK l k))]) = Out.one (U := U) (D.mk false [CV.v (Value.int IntKind.i64 (beforeS l i))])) ∧ (true = false → k < List.length l ∧ (i < (0 : Int) ∨ (↑(k + (1 : Nat)) : Int) ≤ i) ∧ False)) ∧ (((↑k : Int) == i) = false → (false = true → Out.one (U := U) (D.mk false [CV.v (Value.int IntKind.i64 (0 : Int))]) = Out.one (U := U) (D.mk false [CV.v (Value.int IntKind.i64 (beforeS l i))])) ∧ (false = false → k < List.length l ∧ (i < (0 : Int) ∨ (↑(k + (1 : Nat)) : Int) ≤ i) ∧ Value.int IntKind.i64 (wrap64 ((↑k : Int) + (1 : Int))) = Value.int IntKind.i64 (↑(k + (1 : Nat)) : Int) ∧ Value.int IntKind.i64 (wrap64 (sumK l k + Slot.ticks (List.getD l (Int.toNat (↑k : Int)) (d_slot)))) = Value.int IntKind.i64 (sumK l (k + (1 : Nat)))))) ∧ (decide ((↑k : Int) < (↑(List.length l) : Int)) = false → (((↑(List.length l) : Int) == i) = true → Out.one (U := U) (D.mk false [CV.v (Value.int IntKind.i64 (sumK l k))]) = Out.one (U := U) (D.mk false [CV.v (Value.int IntKind.i64 (beforeS l i))])) ∧ (((↑(List.length l) : Int) == i) = false → Out.one (U := U) (D.mk false [CV.v (Value.int IntKind.i64 (0 : Int))]) = Out.one (U := U) (D.mk false [CV.v (Value.int IntKind.i64 (beforeS l i))]))), by kernel_rfl, ?_⟩
      obtain ⟨hlen, hcy, hr⟩ := planR_is hp
      have at_ : ∀ k : Nat, k ≤ l.length → i = (k : Int) → beforeS l i = sumK l k := fun k hk e => by
        unfold beforeS
        rw [if_pos (by omega), e, Int.toNat_natCast]
      refine ⟨by omega, ⟨rfl, rfl⟩, fun k hk hik => ⟨fun hlt => ?_, fun hge => ?_⟩⟩
      · have hlt : k < l.length := by have := of_decide_eq_true hlt; omega
        have h1 := sumK_rng hr k hk
        have h2 := (slotR_is (hr k hlt)).2.1
        rw [Int.toNat_natCast, w64 (x := sumK l k + (l.getD k d_slot).ticks) (by omega)]
        refine ⟨⟨by omega, by omega⟩, fun he => ⟨fun _ => ?_, fun c => (by cases c)⟩, fun he => ⟨fun c => (by cases c), fun _ => ⟨hlt, ?_, by rw [w64 (by omega)]; rfl, rfl⟩⟩⟩
        · rw [at_ k hk (eq_of_beq he).symm]
        · have := beq_eq_false_iff_ne.mp he
          omega
      · have hge := of_decide_eq_false hge
        have hk2 : k = l.length := by omega
        subst hk2
        refine ⟨fun he => ?_, fun he => ?_⟩
        · rw [at_ _ hk (eq_of_beq he).symm]
        · have := beq_eq_false_iff_ne.mp he
          unfold beforeS
          rw [if_neg (by omega)]
    · cases hg

def sRound_S : RX.Spec U := fun
  | [⟨true, [.sl .slot l, .v (.int .i64 cy)]⟩] => some ⟨some (l.length ≤ 1000000), (.one ⟨false, [.v (.int .i64 (roundS l cy))]⟩)⟩
  | _ => none

theorem sRound_ok : ConOk Try.prog U GV 15 sRound_S :=
  fn_go gs ty glok (conCons sRight_ok (conCons sBefore_ok conNil)) Try.func15 (by kernel_rfl) fun ds r hg hp => by
    unfold sRound_S at hg
    split at hg
    · rename_i l cy
      obtain ⟨l, rfl⟩ : ∃ q_ : List Slot, q_ = l := ⟨l, rfl⟩
      cases hg
      replace hp : (l.length ≤ 1000000) := hp
      refine ⟨fun _ _ => none, List.length l ≤ (1000000 : Nat) ∧ ((!planR l cy) = true → Out.one (U := U) (D.mk false [CV.v (Value.int IntKind.i64 (0 : Int))]) = Out.one (U := U) (D.mk false [CV.v (Value.int IntKind.i64 (roundS l cy))])) ∧ ((!planR l cy) = false → planR l cy = true ∧ Out.one (U := U) (D.mk false [CV.v (Value.int IntKind.i64 (beforeS l (↑(List.length l) : Int)))]) = Out.one (U := U) (D.mk false [CV.v (Value.int IntKind.i64 (roundS l cy))])), by kernel_rfl, ?_⟩
      refine ⟨hp, fun h => ?_, fun h => ?_⟩
      · have h : planR l cy = false := by simpa using h
        unfold roundS; rw [h]; rfl
      · have h : planR l cy = true := by simpa using h
        refine ⟨h, ?_⟩
        unfold roundS beforeS
        rw [if_pos h, if_pos (by omega), Int.toNat_natCast]
    · cases hg

def sSlot_S : RX.Spec U := fun
  | [⟨true, [.sl .slot l, .v (.int .i64 cy)]⟩, ⟨false, [.v (.int .i64 nd)]⟩] => some ⟨some (l.length ≤ 1000000), (.tup [⟨false, [.v (.int .i64 (slotI l cy nd))]⟩, ⟨false, [.v (.bool (slotB l cy nd))]⟩])⟩
  | _ => none

theorem sSlot_ok : ConOk Try.prog U GV 18 sSlot_S :=
  fn_go gs ty glok (conCons sRight_ok conNil) Try.func18 (by kernel_rfl) fun ds r hg hp => by
    unfold sSlot_S at hg
    split at hg
    · rename_i l cy nd
      obtain ⟨l, rfl⟩ : ∃ q_ : List Slot, q_ = l := ⟨l, rfl⟩
      cases hg
      replace hp : (l.length ≤ 1000000) := hp
      refine ⟨fun st key => if key = 2 then some { N := l.length, mods := fun k => [.tv 11 (.int .i64 (k : Int))], inv := fun k => planR l cy = true → ∀ y ∈ l.take k, y.node ≠ nd } else none, (planR l cy = true → ∀ (y : Slot), List.Mem y (List.take (0 : Nat) l) → Slot.node y ≠ nd) ∧ Value.int IntKind.i64 (0 : Int) = Value.int IntKind.i64 (0 : Int) ∧ ∀ (k : Nat), k ≤ List.length l → (planR l cy = true → ∀ (y : Slot), List.Mem y (List.take k l) → Slot.node y ≠ nd) → (decide ((↑k : Int) < (↑(List.length l) : Int)) = true → ((0 : Int) ≤ (↑k : Int) ∧ (↑k : Int) < (↑(List.length l) : Int)) ∧ ((Slot.node (List.getD l (Int.toNat (↑k : Int)) (d_slot)) == nd) = true → List.length l ≤ (1000000 : Nat)) ∧ ((Slot.node (List.getD l (Int.toNat (↑k : Int)) (d_slot)) == nd && planR l cy) = true → Out.tup (U := U) [D.mk false [CV.v (Value.int IntKind.i64 (↑k : Int))], D.mk false [CV.v (Value.bool true)]] = Out.tup (U := U) [D.mk false [CV.v (Value.int IntKind.i64 (slotI l cy nd))], D.mk false [CV.v (Value.bool (slotB l cy nd))]]) ∧ ((Slot.node (List.getD l (Int.toNat (↑k : Int)) (d_slot)) == nd && planR l cy) = false → k < List.length l ∧ (planR l cy = true → ∀ (y : Slot), List.Mem y (List.take (k + (1 : Nat)) l) → Slot.node y ≠ nd) ∧ Value.int IntKind.i64 (wrap64 ((↑k : Int) + (1 : Int))) = Value.int IntKind.i64 (↑(k + (1 : Nat)) : Int))) ∧ (decide ((↑k : Int) < (↑(List.length l) : Int)) = false → Out.tup (U := U) [D.mk false [CV.v (Value.int IntKind.i64 (0 : Int))], D.mk false [CV.v (Value.bool false)]] = Out.tup (U := U) [D.mk false [CV.v (Value.int IntKind.i64 (slotI l cy nd))], D.mk false [CV.v (Value.bool (slotB l cy nd))]]), by kernel_rfl, ?_⟩
      refine ⟨fun _ y hy => (by cases hy), rfl, fun k hk hik => ⟨fun hlt => ?_, fun hge => ?_⟩⟩
      · have hlt : k < l.length := by have := of_decide_eq_true hlt; omega
        have eg : l.getD k d_slot = l[k] := by rw [List.getD_eq_getElem?_getD, List.getElem?_eq_getElem hlt]; rfl
        rw [Int.toNat_natCast, eg]
        refine ⟨⟨by omega, by omega⟩, fun _ => hp, fun he => ?_, fun he => ⟨hlt, fun h y hy => ?_, by rw [w64 (by omega)]; rfl⟩⟩
        · obtain ⟨he, h⟩ := Bool.and_eq_true_iff.mp he
          have hx := idxS_at hlt (hik h) (eq_of_beq he)
          have hb : slotB l cy nd = true := by unfold slotB; rw [h, hx, decide_eq_true hlt]; rfl
          unfold slotI; rw [hb, hx]; rfl
        · have hy : y ∈ l.take (k + 1) := hy
          rw [List.take_succ_eq_append_getElem hlt, List.mem_append, List.mem_singleton] at hy
          rcases hy with hy | hy
          · exact hik h y hy
          · rw [hy]; exact fun c => by rw [c, beq_self_eq_true, h] at he; cases he
      · have hge := of_decide_eq_false hge
        rw [List.take_of_length_le (by omega)] at hik
        have hb : slotB l cy nd = false := by
          unfold slotB
          cases h : planR l cy with
          | false => rfl
          | true => rw [idxS_none (l := l) (x := nd) (hik h), decide_eq_false (Nat.lt_irrefl _)]; rfl
        unfold slotI; rw [hb]; rfl
    · cases hg

end Go.Proofs.Ytnhgnidpoiolgaa.X
