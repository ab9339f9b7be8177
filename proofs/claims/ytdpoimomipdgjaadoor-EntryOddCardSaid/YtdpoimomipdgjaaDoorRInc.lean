/- Which time a member of an entry was started. -/
import Derived.Test.YtdpoimomipdgjaaDoorRRef03
import Derived.Test.YtdpoimomipdgjaaDoorRLess
namespace Go.Proofs.YtdpoimomipdgjaaDoor.X
open Go Go.RX Go.RowKit Go.Proofs
set_option linter.unusedVariables false
set_option linter.unusedSimpArgs false
/-- Where x stands first in a list; its length, where it does not. -/
def idxN : List Int → Int → Nat
  | [], _ => 0
  | y :: r, x => if y = x then 0 else idxN r x + 1
theorem idxN_at : ∀ {l : List Int} {k : Nat} {x : Int} (hk : k < l.length), (∀ y ∈ l.take k, y ≠ x) → l[k] = x → idxN l x = k
  | y :: r, 0, x, _, _, hx => by unfold idxN; exact if_pos hx
  | y :: r, k + 1, x, hk, h, hx => by
    unfold idxN
    rw [if_neg (h y (by rw [List.take_succ_cons]; exact List.mem_cons_self ..))]
    exact congrArg (· + 1) (idxN_at (l := r) (k := k) (Nat.lt_of_succ_lt_succ hk) (fun z hz => h z (by rw [List.take_succ_cons]; exact List.mem_cons_of_mem _ hz)) hx)
theorem idxN_none : ∀ {l : List Int} {x : Int}, (∀ y ∈ l, y ≠ x) → idxN l x = l.length
  | [], x, _ => rfl
  | y :: r, x, h => by
    unfold idxN
    rw [if_neg (h y (List.mem_cons_self ..)), idxN_none fun z hz => h z (List.mem_cons_of_mem _ hz)]
    rfl
theorem idxN_le : ∀ (l : List Int) (x : Int), idxN l x ≤ l.length
  | [], _ => Nat.le_refl _
  | y :: r, x => by
    unfold idxN
    split
    · exact Nat.zero_le _
    · exact Nat.succ_le_succ (idxN_le r x)
theorem vl_mem {v x : Int} : ∀ {k : Nat}, x ∈ vl v k ↔ (0 ≤ x ∧ x < (k : Int) ∧ hasB v x = true)
  | 0 => by constructor
            · intro h; cases h
            · rintro ⟨a, b, _⟩; omega
  | k + 1 => by
    have ih := vl_mem (v := v) (x := x) (k := k)
    unfold vl
    split
    · rename_i c
      rw [List.mem_append, ih, List.mem_singleton]
      constructor
      · rintro (⟨a, b, d⟩ | rfl)
        · exact ⟨a, by omega, d⟩
        · exact ⟨by omega, by omega, c⟩
      · rintro ⟨a, b, d⟩
        by_cases e : x = (k : Int)
        · exact .inr e
        · exact .inl ⟨a, by omega, d⟩
    · rename_i c
      rw [ih]
      constructor
      · rintro ⟨a, b, d⟩; exact ⟨a, by omega, d⟩
      · rintro ⟨a, b, d⟩
        refine ⟨a, ?_, d⟩
        have : x ≠ (k : Int) := fun e => c (e ▸ d)
        omega
def incIs (mb : Int) (incs : List Int) (nd : Int) : Bool := decide ((vl mb 16).length = incs.length) && decide (idxN (vl mb 16) nd < (vl mb 16).length)
def incOf (mb : Int) (incs : List Int) (nd : Int) : Int := if incIs mb incs nd = true then incs.getD (idxN (vl mb 16) nd) 0 else 0
def sIndex_S : RX.Spec U := fun
  | [⟨false, [.sl .int l]⟩, ⟨false, [.v (.int .i64 x)]⟩] => some ⟨some (l.length ≤ 1000000), (.one ⟨false, [.v (.int .i64 (if idxN l x < l.length then (idxN l x : Int) else -1))]⟩)⟩
  | _ => none

theorem sIndex_ok : ConOk Tryd.prog U GV 32 sIndex_S :=
  fn_go gs ty glok conNil Tryd.func32 (by kernel_rfl) fun ds r hg hp => by
    unfold sIndex_S at hg
    split at hg
    · rename_i l x
      obtain ⟨l, rfl⟩ : ∃ q_ : List Int, q_ = l := ⟨l, rfl⟩
      cases hg
      replace hp : (l.length ≤ 1000000) := hp
      refine ⟨fun st key => if key = 2 then some { N := l.length, mods := fun k => [.tv 8 (.int .i64 (k : Int))], inv := fun k => ∀ y ∈ l.take k, y ≠ x } else none, (∀ (y : Int), List.Mem y (List.take (0 : Nat) l) → y ≠ x) ∧ Value.int IntKind.i64 (0 : Int) = Value.int IntKind.i64 (0 : Int) ∧ ∀ (k : Nat), k ≤ List.length l → (∀ (y : Int), List.Mem y (List.take k l) → y ≠ x) → (decide ((↑k : Int) < (↑(List.length l) : Int)) = true → ((0 : Int) ≤ (↑k : Int) ∧ (↑k : Int) < (↑(List.length l) : Int)) ∧ ((x == List.getD l (Int.toNat (↑k : Int)) (d_int)) = true → Out.one (U := U) (D.mk false [CV.v (Value.int IntKind.i64 (↑k : Int))]) = Out.one (U := U) (D.mk false [CV.v (Value.int IntKind.i64 (if idxN l x < List.length l then (↑(idxN l x) : Int) else (-1 : Int)))])) ∧ ((x == List.getD l (Int.toNat (↑k : Int)) (d_int)) = false → k < List.length l ∧ (∀ (y : Int), List.Mem y (List.take (k + (1 : Nat)) l) → y ≠ x) ∧ Value.int IntKind.i64 (wrap64 ((↑k : Int) + (1 : Int))) = Value.int IntKind.i64 (↑(k + (1 : Nat)) : Int))) ∧ (decide ((↑k : Int) < (↑(List.length l) : Int)) = false → Out.one (U := U) (D.mk false [CV.v (Value.int IntKind.i64 (-1 : Int))]) = Out.one (U := U) (D.mk false [CV.v (Value.int IntKind.i64 (if idxN l x < List.length l then (↑(idxN l x) : Int) else (-1 : Int)))])), by kernel_rfl, ?_⟩
      refine ⟨fun y hy => (by cases hy), rfl, fun k hk hik => ⟨fun hlt => ?_, fun hge => ?_⟩⟩
      · have hlt : k < l.length := by have := of_decide_eq_true hlt; omega
        rw [getD_at l k _ hlt]
        refine ⟨by omega, fun ho => ?_, fun ho => ⟨hlt, fun y hy => ?_, ?_⟩⟩
        · have hx : l[k] = x := (eq_of_beq ho).symm
          rw [idxN_at hlt hik hx, if_pos hlt]
        · have hy : y ∈ l.take (k + 1) := hy
          rw [List.take_succ_eq_append_getElem hlt] at hy
          rcases List.mem_append.mp hy with q | q
          · exact hik y q
          · have : y = l[k] := by simpa using q
            rw [this]
            intro e
            rw [e] at ho
            simp at ho
        · rw [w64 (by omega)]; rfl
      · have hge := of_decide_eq_false hge
        have e1 : l.take k = l := List.take_of_length_le (by omega)
        rw [e1] at hik
        rw [idxN_none hik, if_neg (Nat.lt_irrefl _)]
    · cases hg

def entInc_S : RX.Spec U := fun
  | [⟨true, [.v (.int .i64 t), .v (.int .i64 ep), .v (.int .i64 mb), .sl .int incs, .sl .msg ms]⟩, ⟨false, [.v (.int .i64 nd)]⟩] => some ⟨none, (.tup [⟨false, [.v (.int .i64 (incOf mb incs nd))]⟩, ⟨false, [.v (.bool (incIs mb incs nd))]⟩])⟩
  | _ => none

theorem entInc_ok : ConOk Tryd.prog U GV 15 entInc_S :=
  fn_go gs ty glok (conCons vList_ok (conCons sIndex_ok conNil)) Tryd.func15 (by kernel_rfl) fun ds r hg hp => by
    unfold entInc_S at hg
    split at hg
    · rename_i t ep mb incs ms nd
      obtain ⟨incs, rfl⟩ : ∃ q_ : List Int, q_ = incs := ⟨incs, rfl⟩
      obtain ⟨ms, rfl⟩ : ∃ q_ : List Msg, q_ = ms := ⟨ms, rfl⟩
      cases hg
      refine ⟨fun _ _ => none, List.length (vl mb (16 : Nat)) ≤ (1000000 : Nat) ∧ ((decide ((if idxN (vl mb (16 : Nat)) nd < List.length (vl mb (16 : Nat)) then (↑(idxN (vl mb (16 : Nat)) nd) : Int) else (-1 : Int)) < (0 : Int)) || (↑(List.length (vl mb (16 : Nat))) : Int) != (↑(List.length incs) : Int)) = true → Out.tup (U := U) [D.mk false [CV.v (Value.int IntKind.i64 (0 : Int))], D.mk false [CV.v (Value.bool false)]] = Out.tup (U := U) [D.mk false [CV.v (Value.int IntKind.i64 (incOf mb incs nd))], D.mk false [CV.v (Value.bool (incIs mb incs nd))]]) ∧ ((decide ((if idxN (vl mb (16 : Nat)) nd < List.length (vl mb (16 : Nat)) then (↑(idxN (vl mb (16 : Nat)) nd) : Int) else (-1 : Int)) < (0 : Int)) || (↑(List.length (vl mb (16 : Nat))) : Int) != (↑(List.length incs) : Int)) = false → (((0 : Int) ≤ if idxN (vl mb (16 : Nat)) nd < List.length (vl mb (16 : Nat)) then (↑(idxN (vl mb (16 : Nat)) nd) : Int) else (-1 : Int)) ∧ (if idxN (vl mb (16 : Nat)) nd < List.length (vl mb (16 : Nat)) then (↑(idxN (vl mb (16 : Nat)) nd) : Int) else (-1 : Int)) < (↑(List.length incs) : Int)) ∧ Out.tup (U := U) [D.mk false [CV.v (Value.int IntKind.i64 (List.getD incs (Int.toNat (if idxN (vl mb (16 : Nat)) nd < List.length (vl mb (16 : Nat)) then (↑(idxN (vl mb (16 : Nat)) nd) : Int) else (-1 : Int))) (d_int)))], D.mk false [CV.v (Value.bool true)]] = Out.tup (U := U) [D.mk false [CV.v (Value.int IntKind.i64 (incOf mb incs nd))], D.mk false [CV.v (Value.bool (incIs mb incs nd))]]), by kernel_rfl, ?_⟩
      have hl := vl_length mb 16
      unfold incOf incIs
      revert hl
      generalize vl mb 16 = l
      intro hl
      by_cases c : idxN l nd < l.length
      · rw [if_pos c, decide_eq_true c]
        by_cases d : l.length = incs.length
        · rw [decide_eq_true d]
          refine ⟨by omega, fun h => ?_, fun h => ⟨⟨by omega, by omega⟩, ?_⟩⟩
          · exfalso
            rw [decide_eq_false (show ¬ ((idxN l nd : Nat) : Int) < 0 by omega), d] at h
            simp at h
          · simp only [Out.one.injEq, Out.tup.injEq, D.mk.injEq, List.cons.injEq, CV.v.injEq, CV.sl.injEq, Value.bool.injEq, Value.int.injEq, Value.string.injEq, and_true, true_and, heq_eq_eq]
            simp [d_int]
        · rw [decide_eq_false d]
          refine ⟨by omega, fun h => ?_, fun h => ?_⟩
          · simp only [Out.one.injEq, Out.tup.injEq, D.mk.injEq, List.cons.injEq, CV.v.injEq, CV.sl.injEq, Value.bool.injEq, Value.int.injEq, Value.string.injEq, and_true, true_and, heq_eq_eq]
            simp
          · exfalso
            simp only [Bool.or_eq_false_iff, bne_eq_false_iff_eq] at h
            omega
      · rw [if_neg c, decide_eq_false c]
        refine ⟨by omega, fun h => ?_, fun h => (by simp at h)⟩
        simp only [Out.one.injEq, Out.tup.injEq, D.mk.injEq, List.cons.injEq, CV.v.injEq, CV.sl.injEq, Value.bool.injEq, Value.int.injEq, Value.string.injEq, and_true, true_and, heq_eq_eq]
        simp
    · cases hg

def rInc_S : RX.Spec U := fun
  | [⟨true, [.v (.int .i64 t), .v (.int .i64 ep), .v (.int .i64 mb), .sl .int incs, .sl .msg ms]⟩, ⟨false, [.v (.int .i64 nd)]⟩] => some ⟨none, (.tup [⟨false, [.v (.int .i64 (incOf mb incs nd))]⟩, ⟨false, [.v (.bool (incIs mb incs nd))]⟩])⟩
  | _ => none

theorem rInc_ok : ConOk Tryd.prog U GV 16 rInc_S :=
  fn_go gs ty glok (conCons rList_ok conNil) Tryd.func16 (by kernel_rfl) fun ds r hg hp => by
    unfold rInc_S at hg
    split at hg
    · rename_i t ep mb incs ms nd
      obtain ⟨incs, rfl⟩ : ∃ q_ : List Int, q_ = incs := ⟨incs, rfl⟩
      obtain ⟨ms, rfl⟩ : ∃ q_ : List Msg, q_ = ms := ⟨ms, rfl⟩
      cases hg
      refine ⟨fun st key => if key = 5 then some { N := (vl mb 16).length, mods := fun k => [.tv 7 (.int .i64 (k : Int))], inv := fun k => ∀ y ∈ (vl mb 16).take k, y ≠ nd } else none, (((↑(List.length (vl mb (16 : Nat))) : Int) != (↑(List.length incs) : Int)) = true → Out.tup (U := U) [D.mk false [CV.v (Value.int IntKind.i64 (0 : Int))], D.mk false [CV.v (Value.bool false)]] = Out.tup (U := U) [D.mk false [CV.v (Value.int IntKind.i64 (incOf mb incs nd))], D.mk false [CV.v (Value.bool (incIs mb incs nd))]]) ∧ (((↑(List.length (vl mb (16 : Nat))) : Int) != (↑(List.length incs) : Int)) = false → (∀ (y : Int), List.Mem y (List.take (0 : Nat) (vl mb (16 : Nat))) → y ≠ nd) ∧ Value.int IntKind.i64 (0 : Int) = Value.int IntKind.i64 (0 : Int) ∧ ∀ (k : Nat), k ≤ List.length (vl mb (16 : Nat)) → (∀ (y : Int), List.Mem y (List.take k (vl mb (16 : Nat))) → y ≠ nd) → (decide ((↑k : Int) < (↑(List.length (vl mb (16 : Nat))) : Int)) = true → ((0 : Int) ≤ (↑k : Int) ∧ (↑k : Int) < (↑(List.length (vl mb (16 : Nat))) : Int)) ∧ ((List.getD (vl mb (16 : Nat)) (Int.toNat (↑k : Int)) (d_int) == nd) = true → ((0 : Int) ≤ (↑k : Int) ∧ (↑k : Int) < (↑(List.length incs) : Int)) ∧ Out.tup (U := U) [D.mk false [CV.v (Value.int IntKind.i64 (List.getD incs (Int.toNat (↑k : Int)) (d_int)))], D.mk false [CV.v (Value.bool true)]] = Out.tup (U := U) [D.mk false [CV.v (Value.int IntKind.i64 (incOf mb incs nd))], D.mk false [CV.v (Value.bool (incIs mb incs nd))]]) ∧ ((List.getD (vl mb (16 : Nat)) (Int.toNat (↑k : Int)) (d_int) == nd) = false → k < List.length (vl mb (16 : Nat)) ∧ (∀ (y : Int), List.Mem y (List.take (k + (1 : Nat)) (vl mb (16 : Nat))) → y ≠ nd) ∧ Value.int IntKind.i64 (wrap64 ((↑k : Int) + (1 : Int))) = Value.int IntKind.i64 (↑(k + (1 : Nat)) : Int))) ∧ (decide ((↑k : Int) < (↑(List.length (vl mb (16 : Nat))) : Int)) = false → Out.tup (U := U) [D.mk false [CV.v (Value.int IntKind.i64 (0 : Int))], D.mk false [CV.v (Value.bool false)]] = Out.tup (U := U) [D.mk false [CV.v (Value.int IntKind.i64 (incOf mb incs nd))], D.mk false [CV.v (Value.bool (incIs mb incs nd))]])), by kernel_rfl, ?_⟩
      have hl := vl_length mb 16
      unfold incOf incIs
      revert hl
      generalize vl mb 16 = l
      intro hl
      refine ⟨fun h => ?_, fun h => ⟨fun y hy => (by cases hy), rfl, fun k hk hik => ⟨fun hlt => ?_, fun hge => ?_⟩⟩⟩
      · have d : ¬ l.length = incs.length := fun e => by simp [e] at h
        rw [decide_eq_false d]
        simp only [Out.one.injEq, Out.tup.injEq, D.mk.injEq, List.cons.injEq, CV.v.injEq, CV.sl.injEq, Value.bool.injEq, Value.int.injEq, Value.string.injEq, and_true, true_and, heq_eq_eq]
        simp
      · have d : l.length = incs.length := by
          rw [bne_eq_false_iff_eq] at h
          omega
        have hlt : k < l.length := by have := of_decide_eq_true hlt; omega
        rw [getD_at l k _ hlt]
        refine ⟨by omega, fun ho => ⟨by omega, ?_⟩, fun ho => ⟨hlt, fun y hy => ?_, ?_⟩⟩
        · rw [idxN_at hlt hik (eq_of_beq ho), decide_eq_true d, decide_eq_true hlt]
          simp only [Out.one.injEq, Out.tup.injEq, D.mk.injEq, List.cons.injEq, CV.v.injEq, CV.sl.injEq, Value.bool.injEq, Value.int.injEq, Value.string.injEq, and_true, true_and, heq_eq_eq]
          simp [d_int]
        · have hy : y ∈ l.take (k + 1) := hy
          rw [List.take_succ_eq_append_getElem hlt] at hy
          rcases List.mem_append.mp hy with q | q
          · exact hik y q
          · have : y = l[k] := by simpa using q
            rw [this]
            intro e
            rw [e] at ho
            simp at ho
        · rw [w64 (by omega)]; rfl
      · have hge := of_decide_eq_false hge
        have e1 : l.take k = l := List.take_of_length_le (by omega)
        rw [e1] at hik
        rw [idxN_none hik, decide_eq_false (Nat.lt_irrefl _), Bool.and_false]
        simp only [Out.one.injEq, Out.tup.injEq, D.mk.injEq, List.cons.injEq, CV.v.injEq, CV.sl.injEq, Value.bool.injEq, Value.int.injEq, Value.string.injEq, and_true, true_and, heq_eq_eq]
        simp
    · cases hg

def rSame_S : RX.Spec U := fun
  | [⟨true, [.v (.int .i64 t), .v (.int .i64 ep), .v (.int .i64 mb), .sl .int incs, .sl .msg ms]⟩, ⟨true, [.v (.int .i64 (t')), .v (.int .i64 (ep')), .v (.int .i64 (mb')), .sl .int (incs'), .sl .msg (ms')]⟩] => some ⟨some ((incs.length ≤ 1000000 ∧ ms.length ≤ 1000000)), (.one ⟨false, [.v (.bool (decide (t = t') && decide (ep = ep') && decide (mb = mb') && intsEq incs incs' && msgsEq ms ms'))]⟩)⟩
  | _ => none

theorem rSame_ok : ConOk Tryd.prog U GV 21 rSame_S :=
  fn_go gs ty glok (conCons rInts_ok (conCons msgsSame_ok conNil)) Tryd.func21 (by kernel_rfl) fun ds r hg hp => by
    unfold rSame_S at hg
    split at hg
    · rename_i t ep mb incs ms t' ep' mb' incs' ms'
      obtain ⟨incs, rfl⟩ : ∃ q_ : List Int, q_ = incs := ⟨incs, rfl⟩
      obtain ⟨ms, rfl⟩ : ∃ q_ : List Msg, q_ = ms := ⟨ms, rfl⟩
      obtain ⟨incs', rfl⟩ : ∃ q_ : List Int, q_ = incs' := ⟨incs', rfl⟩
      obtain ⟨ms', rfl⟩ : ∃ q_ : List Msg, q_ = ms' := ⟨ms', rfl⟩
      cases hg
      replace hp : ((incs.length ≤ 1000000 ∧ ms.length ≤ 1000000)) := hp
      refine ⟨fun _ _ => none, ((t == t' && ep == ep' && mb == mb') = true → List.length incs ≤ (1000000 : Nat)) ∧ ((t == t' && ep == ep' && mb == mb' && intsEq incs incs') = true → List.length ms ≤ (1000000 : Nat)) ∧ Out.one (U := U) (D.mk false [CV.v (Value.bool (t == t' && ep == ep' && mb == mb' && intsEq incs incs' && msgsEq ms ms'))]) = Out.one (U := U) (D.mk false [CV.v (Value.bool (decide (t = t') && decide (ep = ep') && decide (mb = mb') && intsEq incs incs' && msgsEq ms ms'))]), by kernel_rfl, ?_⟩
      refine ⟨fun _ => hp.1, fun _ => hp.2, ?_⟩
      simp only [Out.one.injEq, Out.tup.injEq, D.mk.injEq, List.cons.injEq, CV.v.injEq, CV.sl.injEq, Value.bool.injEq, Value.int.injEq, Value.string.injEq, and_true, true_and, heq_eq_eq]
      rfl
    · cases hg

end Go.Proofs.YtdpoimomipdgjaaDoor.X
