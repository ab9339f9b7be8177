/- Plans: which may be; their nodes, rounds and slots, as the document has it. -/
import Derived.Test.YtnhgnidpoiolgaaRRef03
import Derived.Test.YtnhgnidpoiolgaaRFlt
namespace Go.Proofs.Ytnhgnidpoiolgaa.X
open Go Go.RX Go.RowKit Go.Proofs
set_option linter.unusedVariables false
set_option linter.unusedSimpArgs false
set_option maxHeartbeats 4000000
def okSl (s : Slot) : Bool := decide (0 ≤ s.node ∧ s.node ≤ 15) && decide (1 ≤ s.ticks ∧ s.ticks ≤ 1000)
/-- No slot ahead of slot i is its node's. -/
def freshS (l : List Slot) (i : Nat) : Bool := (l.take i).all fun x => !decide (x.node = (l.getD i d_slot).node)
def slotR (l : List Slot) (i : Nat) : Bool := okSl (l.getD i d_slot) && freshS l i
def planS (l : List Slot) (cy : Int) : Bool := decide (2 ≤ l.length ∧ l.length ≤ 16) && decide (1 ≤ cy ∧ cy ≤ 64)
def planR (l : List Slot) (cy : Int) : Bool := planS l cy && (List.range l.length).all (slotR l)
/-- Of the first k slots: the nodes, and the ticks. -/
def vecK (l : List Slot) : Nat → Int
  | 0 => 0
  | k + 1 => withB (vecK l k) (l.getD k d_slot).node
def sumK (l : List Slot) : Nat → Int
  | 0 => 0
  | k + 1 => sumK l k + (l.getD k d_slot).ticks
def roundS (l : List Slot) (cy : Int) : Int := if planR l cy = true then sumK l l.length else 0
/-- Which slot is a node's first one; how many there are, where none is. -/
def idxS : List Slot → Int → Nat
  | [], _ => 0
  | y :: r, x => if y.node = x then 0 else idxS r x + 1
def slotB (l : List Slot) (cy nd : Int) : Bool := planR l cy && decide (idxS l nd < l.length)
def slotI (l : List Slot) (cy nd : Int) : Int := if slotB l cy nd = true then (idxS l nd : Int) else 0
theorem idxS_at : ∀ {l : List Slot} {k : Nat} {x : Int} (hk : k < l.length), (∀ y ∈ l.take k, y.node ≠ x) → l[k].node = x → idxS l x = k
  | y :: r, 0, x, _, _, hx => by unfold idxS; exact if_pos hx
  | y :: r, k + 1, x, hk, h, hx => by
    unfold idxS
    rw [if_neg (h y (by rw [List.take_succ_cons]; exact List.mem_cons_self ..))]
    exact congrArg (· + 1) (idxS_at (l := r) (k := k) (Nat.lt_of_succ_lt_succ hk) (fun z hz => h z (by rw [List.take_succ_cons]; exact List.mem_cons_of_mem _ hz)) hx)
theorem idxS_none : ∀ {l : List Slot} {x : Int}, (∀ y ∈ l, y.node ≠ x) → idxS l x = l.length
  | [], x, _ => rfl
  | y :: r, x, h => by
    unfold idxS
    rw [if_neg (h y (List.mem_cons_self ..)), idxS_none fun z hz => h z (List.mem_cons_of_mem _ hz)]
    rfl
theorem planR_is {l : List Slot} {cy : Int} (h : planR l cy = true) : (2 ≤ l.length ∧ l.length ≤ 16) ∧ (1 ≤ cy ∧ cy ≤ 64) ∧ ∀ i, i < l.length → slotR l i = true := by
  unfold planR planS at h
  simp only [Bool.and_eq_true, decide_eq_true_eq] at h
  exact ⟨h.1.1, h.1.2, fun i hi => List.all_eq_true.mp h.2 i (List.mem_range.mpr hi)⟩
theorem slotR_is {l : List Slot} {i : Nat} (h : slotR l i = true) : (0 ≤ (l.getD i d_slot).node ∧ (l.getD i d_slot).node ≤ 15) ∧ (1 ≤ (l.getD i d_slot).ticks ∧ (l.getD i d_slot).ticks ≤ 1000) ∧ freshS l i = true := by
  unfold slotR okSl at h
  simp only [Bool.and_eq_true, decide_eq_true_eq] at h
  exact ⟨h.1.1, h.1.2, h.2⟩
theorem sumK_rng {l : List Slot} (h : ∀ i, i < l.length → slotR l i = true) : ∀ k, k ≤ l.length → (k : Int) ≤ sumK l k ∧ sumK l k ≤ 1000 * (k : Int)
  | 0, _ => ⟨Int.le_refl _, Int.le_refl _⟩
  | k + 1, hk => by
    have ih := sumK_rng h k (by omega)
    have h1 := (slotR_is (h k (by omega))).2.1
    unfold sumK
    omega
def r8Right_S : RX.Spec U := fun
  | [⟨true, [.sl .slot l, .v (.int .i64 cy)]⟩] => some ⟨some (l.length ≤ 1000000), (.one ⟨false, [.v (.bool (planR l cy))]⟩)⟩
  | _ => none

theorem r8Right_ok : ConOk Try.prog U GV 12 r8Right_S :=
  fn_go gs ty glok conNil Try.func12 (by kernel_rfl) fun ds r hg hp => by
    unfold r8Right_S at hg
    split at hg
    · rename_i l cy
      obtain ⟨l, rfl⟩ : ∃ q_ : List Slot, q_ = l := ⟨l, rfl⟩
      cases hg
      replace hp : (l.length ≤ 1000000) := hp
      refine ⟨fun st key => if key = 4 then some { N := l.length, mods := fun k => [.tv 3 (.int .i64 (k : Int))], inv := fun k => (List.range k).all (slotR l) = true } else if key = 10 then match st with | k :: _ => some { N := k, mods := fun j => [.tv 5 (.int .i64 (j : Int))], inv := fun j => ((l.take k).take j).all (fun x => !decide (x.node = (l.getD k d_slot).node)) = true } | [] => none else none, ((decide ((↑(List.length l) : Int) < (2 : Int)) || decide ((16 : Int) < (↑(List.length l) : Int)) || decide (cy < (1 : Int)) || decide ((64 : Int) < cy)) = true → Out.one (U := U) (D.mk false [CV.v (Value.bool false)]) = Out.one (U := U) (D.mk false [CV.v (Value.bool (planR l cy))])) ∧ ((decide ((↑(List.length l) : Int) < (2 : Int)) || decide ((16 : Int) < (↑(List.length l) : Int)) || decide (cy < (1 : Int)) || decide ((64 : Int) < cy)) = false → true = true ∧ Value.int IntKind.i64 (0 : Int) = Value.int IntKind.i64 (0 : Int) ∧ ∀ (k : Nat), k ≤ List.length l → List.all (List.range k) (slotR l) = true → (decide ((↑k : Int) < (↑(List.length l) : Int)) = true → ((0 : Int) ≤ (↑k : Int) ∧ (↑k : Int) < (↑(List.length l) : Int)) ∧ ((decide (Slot.node (List.getD l (Int.toNat (↑k : Int)) (d_slot)) < (0 : Int)) || decide ((15 : Int) < Slot.node (List.getD l (Int.toNat (↑k : Int)) (d_slot))) || decide (Slot.ticks (List.getD l (Int.toNat (↑k : Int)) (d_slot)) < (1 : Int)) || decide ((1000 : Int) < Slot.ticks (List.getD l (Int.toNat (↑k : Int)) (d_slot)))) = true → Out.one (U := U) (D.mk false [CV.v (Value.bool false)]) = Out.one (U := U) (D.mk false [CV.v (Value.bool (planR l cy))])) ∧ ((decide (Slot.node (List.getD l (Int.toNat (↑k : Int)) (d_slot)) < (0 : Int)) || decide ((15 : Int) < Slot.node (List.getD l (Int.toNat (↑k : Int)) (d_slot))) || decide (Slot.ticks (List.getD l (Int.toNat (↑k : Int)) (d_slot)) < (1 : Int)) || decide ((1000 : Int) < Slot.ticks (List.getD l (Int.toNat (↑k : Int)) (d_slot)))) = false → true = true ∧ Value.int IntKind.i64 (0 : Int) = Value.int IntKind.i64 (0 : Int) ∧ ∀ (k_1 : Nat), k_1 ≤ k → (List.all (List.take k_1 (List.take k l)) fun x => !decide (Slot.node x = Slot.node (List.getD l k d_slot))) = true → (decide ((↑k_1 : Int) < (↑k : Int)) = true → ((0 : Int) ≤ (↑k_1 : Int) ∧ (↑k_1 : Int) < (↑(List.length l) : Int)) ∧ ((Slot.node (List.getD l (Int.toNat (↑k_1 : Int)) (d_slot)) == Slot.node (List.getD l (Int.toNat (↑k : Int)) (d_slot))) = true → Out.one (U := U) (D.mk false [CV.v (Value.bool false)]) = Out.one (U := U) (D.mk false [CV.v (Value.bool (planR l cy))])) ∧ ((Slot.node (List.getD l (Int.toNat (↑k_1 : Int)) (d_slot)) == Slot.node (List.getD l (Int.toNat (↑k : Int)) (d_slot))) = false → k_1 < k ∧ (List.all (List.take (k_1 + (1 : Nat)) (List.take k l)) fun x => !decide (Slot.node x = Slot.node (List.getD l k d_slot))) = true ∧ Value.int IntKind.i64 (wrap64 ((↑k_1 : Int) + (1 : Int))) = Value.int IntKind.i64 (↑(k_1 + (1 : Nat)) : Int))) ∧ (decide ((↑k_1 : Int) < (↑k : Int)) = false → k < List.length l ∧ List.all (List.range (k + (1 : Nat))) (slotR l) = true ∧ Value.int IntKind.i64 (wrap64 ((↑k : Int) + (1 : Int))) = Value.int IntKind.i64 (↑(k + (1 : Nat)) : Int)))) ∧ (decide ((↑k : Int) < (↑(List.length l) : Int)) = false → Out.one (U := U) (D.mk false [CV.v (Value.bool true)]) = Out.one (U := U) (D.mk false [CV.v (Value.bool (planR l cy))]))), by kernel_rfl, ?_⟩
      have no1 : planS l cy = false → planR l cy = false := fun h => by unfold planR; rw [h]; rfl
      have noM : ∀ k, k < l.length → slotR l k = false → planR l cy = false := fun k hk h => by
        unfold planR
        rw [List.all_eq_false.mpr ⟨k, List.mem_range.mpr hk, by rw [h]; decide⟩, Bool.and_false]
      have hS : planS l cy = !(decide ((l.length : Int) < 2) || decide ((16 : Int) < (l.length : Int)) || decide (cy < 1) || decide ((64 : Int) < cy)) := by
        unfold planS
        rw [Bool.eq_iff_iff]
        simp only [Bool.and_eq_true, decide_eq_true_eq, Bool.not_eq_true', Bool.or_eq_false_iff, decide_eq_false_iff_not]
        omega
      have hO : ∀ x : Slot, okSl x = !(decide (x.node < 0) || decide ((15 : Int) < x.node) || decide (x.ticks < 1) || decide ((1000 : Int) < x.ticks)) := fun x => by
        unfold okSl
        rw [Bool.eq_iff_iff]
        simp only [Bool.and_eq_true, decide_eq_true_eq, Bool.not_eq_true', Bool.or_eq_false_iff, decide_eq_false_iff_not]
        omega
      refine ⟨fun h => ?_, fun h => ⟨rfl, rfl, fun k hk hik => ⟨fun hlt => ?_, fun hge => ?_⟩⟩⟩
      · rw [no1 (by rw [hS, h]; rfl)]
      · have hlt : k < l.length := by have := of_decide_eq_true hlt; omega
        rw [Int.toNat_natCast]
        refine ⟨⟨by omega, by omega⟩, fun ho => ?_, fun ho => ⟨rfl, rfl, fun j hj hij => ⟨fun hlj => ?_, fun hgj => ?_⟩⟩⟩
        · rw [noM k hlt (by unfold slotR; rw [hO, ho]; rfl)]
        · have hlj : j < k := by have := of_decide_eq_true hlj; omega
          have hjl : j < (l.take k).length := by rw [List.length_take]; omega
          have ej : (l.take k)[j] = l.getD j d_slot := by
            rw [List.getElem_take, List.getD_eq_getElem?_getD, List.getElem?_eq_getElem (by omega)]; rfl
          rw [Int.toNat_natCast]
          refine ⟨⟨by omega, by omega⟩, fun he => ?_, fun he => ⟨hlj, ?_, by rw [w64 (by omega)]; rfl⟩⟩
          · have hf : freshS l k = false := by
              unfold freshS
              refine List.all_eq_false.mpr ⟨(l.take k)[j], List.getElem_mem hjl, ?_⟩
              rw [ej, eq_of_beq he, decide_eq_true rfl]; decide
            rw [noM k hlt (by unfold slotR; rw [hf, Bool.and_false])]
          · rw [List.take_succ_eq_append_getElem hjl, List.all_append, hij, ej]
            have hne : ¬ (l.getD j d_slot).node = (l.getD k d_slot).node := fun c => by rw [c, beq_self_eq_true] at he; cases he
            simp only [List.all_cons, List.all_nil, Bool.and_true, Bool.true_and, decide_eq_false hne, Bool.not_false]
        · have hgj := of_decide_eq_false hgj
          have hjk : j = k := by omega
          subst hjk
          rw [List.take_of_length_le (by rw [List.length_take]; omega)] at hij
          have hsl : slotR l j = true := by
            unfold slotR freshS
            rw [hO, ho, hij]; rfl
          refine ⟨hlt, ?_, by rw [w64 (by omega)]; rfl⟩
          rw [List.range_succ, List.all_append, hik]
          simp only [List.all_cons, List.all_nil, Bool.and_true, hsl]
      · have hge := of_decide_eq_false hge
        have hk2 : k = l.length := by omega
        subst hk2
        have : planR l cy = true := by unfold planR; rw [hS, h, hik]; rfl
        rw [this]
    · cases hg

def r8Nodes_S : RX.Spec U := fun
  | [⟨true, [.sl .slot l, .v (.int .i64 cy)]⟩] => some ⟨some (l.length ≤ 1000000), (.one ⟨false, [.v (.int .i64 (vecK l l.length))]⟩)⟩
  | _ => none

theorem r8Nodes_ok : ConOk Try.prog U GV 14 r8Nodes_S :=
  fn_go gs ty glok (conCons rWith_ok conNil) Try.func14 (by kernel_rfl) fun ds r hg hp => by
    unfold r8Nodes_S at hg
    split at hg
    · rename_i l cy
      obtain ⟨l, rfl⟩ : ∃ q_ : List Slot, q_ = l := ⟨l, rfl⟩
      cases hg
      replace hp : (l.length ≤ 1000000) := hp
      refine ⟨fun st key => if key = 3 then some { N := l.length, mods := fun k => [.tv 4 (.int .i64 (k : Int)), .tv 3 (.int .i64 (vecK l k))] } else none, True ∧ (Value.int IntKind.i64 (0 : Int) = Value.int IntKind.i64 (0 : Int) ∧ Value.int IntKind.i64 (0 : Int) = Value.int IntKind.i64 (vecK l (0 : Nat))) ∧ ∀ (k : Nat), k ≤ List.length l → True → (decide ((↑k : Int) < (↑(List.length l) : Int)) = true → ((0 : Int) ≤ (↑k : Int) ∧ (↑k : Int) < (↑(List.length l) : Int)) ∧ k < List.length l ∧ True ∧ Value.int IntKind.i64 (wrap64 ((↑k : Int) + (1 : Int))) = Value.int IntKind.i64 (↑(k + (1 : Nat)) : Int) ∧ Value.int IntKind.i64 (withB (vecK l k) (Slot.node (List.getD l (Int.toNat (↑k : Int)) (d_slot)))) = Value.int IntKind.i64 (vecK l (k + (1 : Nat)))) ∧ (decide ((↑k : Int) < (↑(List.length l) : Int)) = false → Out.one (U := U) (D.mk false [CV.v (Value.int IntKind.i64 (vecK l k))]) = Out.one (U := U) (D.mk false [CV.v (Value.int IntKind.i64 (vecK l (List.length l)))])), by kernel_rfl, ?_⟩
      refine ⟨trivial, ⟨rfl, rfl⟩, fun k hk _ => ⟨fun hlt => ?_, fun hge => ?_⟩⟩
      · have hlt : k < l.length := by have := of_decide_eq_true hlt; omega
        rw [Int.toNat_natCast]
        exact ⟨⟨by omega, by omega⟩, hlt, trivial, by rw [w64 (by omega)]; rfl, rfl⟩
      · have hge := of_decide_eq_false hge
        have hk2 : k = l.length := by omega
        subst hk2; rfl
    · cases hg

def r8Round_S : RX.Spec U := fun
  | [⟨true, [.sl .slot l, .v (.int .i64 cy)]⟩] => some ⟨some (l.length ≤ 1000000), (.one ⟨false, [.v (.int .i64 (roundS l cy))]⟩)⟩
  | _ => none

theorem r8Round_ok : ConOk Try.prog U GV 16 r8Round_S :=
  fn_go gs ty glok (conCons r8Right_ok conNil) Try.func16 (by kernel_rfl) fun ds r hg hp => by
    unfold r8Round_S at hg
    split at hg
    · rename_i l cy
      obtain ⟨l, rfl⟩ : ∃ q_ : List Slot, q_ = l := ⟨l, rfl⟩
      cases hg
      replace hp : (l.length ≤ 1000000) := hp
      refine ⟨fun st key => if key = 5 then some { N := l.length, mods := fun k => [.tv 4 (.int .i64 (k : Int)), .tv 3 (.int .i64 (sumK l k))] } else none, List.length l ≤ (1000000 : Nat) ∧ ((!planR l cy) = true → Out.one (U := U) (D.mk false [CV.v (Value.int IntKind.i64 (0 : Int))]) = Out.one (U := U) (D.mk false [CV.v (Value.int IntKind.i64 (roundS l cy))])) ∧ ((!planR l cy) = false → True ∧ (Value.int IntKind.i64 (0 : Int) = Value.int IntKind.i64 (0 : Int) ∧ Value.int IntKind.i64 (0 : Int) = Value.int IntKind.i64 (sumK l (0 : Nat))) ∧ ∀ (k : Nat), k ≤ List.length l → True → (decide ((↑k : Int) < (↑(List.length l) : Int)) = true → ((0 : Int) ≤ (↑k : Int) ∧ (↑k : Int) < (↑(List.length l) : Int)) ∧ k < List.length l ∧ True ∧ Value.int IntKind.i64 (wrap64 ((↑k : Int) + (1 : Int))) = Value.int IntKind.i64 (↑(k + (1 : Nat)) : Int) ∧ Value.int IntKind.i64 (wrap64 (sumK l k + Slot.ticks (List.getD l (Int.toNat (↑k : Int)) (d_slot)))) = Value.int IntKind.i64 (sumK l (k + (1 : Nat)))) ∧ (decide ((↑k : Int) < (↑(List.length l) : Int)) = false → Out.one (U := U) (D.mk false [CV.v (Value.int IntKind.i64 (sumK l k))]) = Out.one (U := U) (D.mk false [CV.v (Value.int IntKind.i64 (roundS l cy))]))), by kernel_rfl, ?_⟩
      refine ⟨hp, fun h => ?_, fun h => ⟨trivial, ⟨rfl, rfl⟩, fun k hk _ => ⟨fun hlt => ?_, fun hge => ?_⟩⟩⟩
      · have h : planR l cy = false := by simpa using h
        unfold roundS; rw [h]; rfl
      · have h : planR l cy = true := by simpa using h
        have hlt : k < l.length := by have := of_decide_eq_true hlt; omega
        have hr := (planR_is h).2.2
        have h1 := sumK_rng hr k hk
        have h2 := (slotR_is (hr k hlt)).2.1
        rw [Int.toNat_natCast, w64 (x := sumK l k + (l.getD k d_slot).ticks) (by omega)]
        exact ⟨⟨by omega, by omega⟩, hlt, trivial, by rw [w64 (by omega)]; rfl, rfl⟩
      · have h : planR l cy = true := by simpa using h
        have hge := of_decide_eq_false hge
        have hk2 : k = l.length := by omega
        subst hk2
        unfold roundS; rw [h]; rfl
    · cases hg

def r8Slot_S : RX.Spec U := fun
  | [⟨true, [.sl .slot l, .v (.int .i64 cy)]⟩, ⟨false, [.v (.int .i64 nd)]⟩] => some ⟨some (l.length ≤ 1000000), (.tup [⟨false, [.v (.int .i64 (slotI l cy nd))]⟩, ⟨false, [.v (.bool (slotB l cy nd))]⟩])⟩
  | _ => none

theorem r8Slot_ok : ConOk Try.prog U GV 19 r8Slot_S :=
  fn_go gs ty glok (conCons r8Right_ok conNil) Try.func19 (by kernel_rfl) fun ds r hg hp => by
    unfold r8Slot_S at hg
    split at hg
    · rename_i l cy nd
      obtain ⟨l, rfl⟩ : ∃ q_ : List Slot, q_ = l := ⟨l, rfl⟩
      cases hg
      replace hp : (l.length ≤ 1000000) := hp
      refine ⟨fun st key => if key = 4 then some { N := l.length, mods := fun k => [.tv 6 (.int .i64 (k : Int))], inv := fun k => ∀ y ∈ l.take k, y.node ≠ nd } else none, List.length l ≤ (1000000 : Nat) ∧ ((!planR l cy) = true → Out.tup (U := U) [D.mk false [CV.v (Value.int IntKind.i64 (0 : Int))], D.mk false [CV.v (Value.bool false)]] = Out.tup (U := U) [D.mk false [CV.v (Value.int IntKind.i64 (slotI l cy nd))], D.mk false [CV.v (Value.bool (slotB l cy nd))]]) ∧ ((!planR l cy) = false → (∀ (y : Slot), List.Mem y (List.take (0 : Nat) l) → Slot.node y ≠ nd) ∧ Value.int IntKind.i64 (0 : Int) = Value.int IntKind.i64 (0 : Int) ∧ ∀ (k : Nat), k ≤ List.length l → (∀ (y : Slot), List.Mem y (List.take k l) → Slot.node y ≠ nd) → (decide ((↑k : Int) < (↑(List.length l) : Int)) = true → ((0 : Int) ≤ (↑k : Int) ∧ (↑k : Int) < (↑(List.length l) : Int)) ∧ ((Slot.node (List.getD l (Int.toNat (↑k : Int)) (d_slot)) == nd) = true → Out.tup (U := U) [D.mk false [CV.v (Value.int IntKind.i64 (↑k : Int))], D.mk false [CV.v (Value.bool true)]] = Out.tup (U := U) [D.mk false [CV.v (Value.int IntKind.i64 (slotI l cy nd))], D.mk false [CV.v (Value.bool (slotB l cy nd))]]) ∧ ((Slot.node (List.getD l (Int.toNat (↑k : Int)) (d_slot)) == nd) = false → k < List.length l ∧ (∀ (y : Slot), List.Mem y (List.take (k + (1 : Nat)) l) → Slot.node y ≠ nd) ∧ Value.int IntKind.i64 (wrap64 ((↑k : Int) + (1 : Int))) = Value.int IntKind.i64 (↑(k + (1 : Nat)) : Int))) ∧ (decide ((↑k : Int) < (↑(List.length l) : Int)) = false → Out.tup (U := U) [D.mk false [CV.v (Value.int IntKind.i64 (0 : Int))], D.mk false [CV.v (Value.bool false)]] = Out.tup (U := U) [D.mk false [CV.v (Value.int IntKind.i64 (slotI l cy nd))], D.mk false [CV.v (Value.bool (slotB l cy nd))]])), by kernel_rfl, ?_⟩
      refine ⟨hp, fun h => ?_, fun h => ⟨fun y hy => (by cases hy), rfl, fun k hk hik => ⟨fun hlt => ?_, fun hge => ?_⟩⟩⟩
      · have h : planR l cy = false := by simpa using h
        have hb : slotB l cy nd = false := by unfold slotB; rw [h]; rfl
        unfold slotI; rw [hb]; rfl
      · have h : planR l cy = true := by simpa using h
        have hlt : k < l.length := by have := of_decide_eq_true hlt; omega
        have eg : l.getD k d_slot = l[k] := by rw [List.getD_eq_getElem?_getD, List.getElem?_eq_getElem hlt]; rfl
        rw [Int.toNat_natCast, eg]
        refine ⟨⟨by omega, by omega⟩, fun he => ?_, fun he => ⟨hlt, ?_, by rw [w64 (by omega)]; rfl⟩⟩
        · have hx := idxS_at hlt hik (eq_of_beq he)
          have hb : slotB l cy nd = true := by unfold slotB; rw [h, hx, decide_eq_true hlt]; rfl
          unfold slotI; rw [hb, hx]; rfl
        · intro y hy
          have hy : y ∈ l.take (k + 1) := hy
          rw [List.take_succ_eq_append_getElem hlt, List.mem_append, List.mem_singleton] at hy
          rcases hy with hy | hy
          · exact hik y hy
          · rw [hy]; exact fun c => by rw [c, beq_self_eq_true] at he; cases he
      · have h : planR l cy = true := by simpa using h
        have hge := of_decide_eq_false hge
        rw [List.take_of_length_le (by omega)] at hik
        have hx := idxS_none (l := l) (x := nd) hik
        have hb : slotB l cy nd = false := by unfold slotB; rw [hx, decide_eq_false (Nat.lt_irrefl _), Bool.and_false]
        unfold slotI; rw [hb]; rfl
    · cases hg

end Go.Proofs.Ytnhgnidpoiolgaa.X
