/- The law's fifos and filters, out of raw numbers. -/
import Derived.Test.YtdepagelkocldaaDoorRLaw04
import Derived.Test.YtdepagelkocldaaDoorRFifo
namespace Go.Proofs.YtdepagelkocldaaDoor.X
open Go Go.RX Go.RowKit Go.Proofs
set_option linter.unusedVariables false
set_option linter.unusedSimpArgs false
def pick14_S : RX.Spec U := fun
  | [⟨false, [.v (.int .i64 c)]⟩, ⟨false, [.v (.int .i64 n)]⟩] => some ⟨some ((in64 c ∧ 0 < n ∧ n ≤ 1000000000)), (.one ⟨false, [.v (.int .i64 (pickI c n))]⟩)⟩
  | _ => none

theorem pick14_ok : ConOk Tryd.prog U GV 14 pick14_S :=
  fn_go gs ty glok conNil Tryd.func14 (by kernel_rfl) fun ds r hg hp => by
    unfold pick14_S at hg
    split at hg
    · rename_i c n
      cases hg
      replace hp : ((in64 c ∧ 0 < n ∧ n ≤ 1000000000)) := hp
      refine ⟨fun _ _ => none, (decide (c < (0 : Int)) = true → n ≠ (0 : Int) ∧ Out.one (U := U) (D.mk false [CV.v (Value.int IntKind.i64 (Int.tmod (wrap64 ((0 : Int) - wrap64 (c + (1 : Int)))) n))]) = Out.one (U := U) (D.mk false [CV.v (Value.int IntKind.i64 (pickI c n))])) ∧ (decide (c < (0 : Int)) = false → n ≠ (0 : Int) ∧ Out.one (U := U) (D.mk false [CV.v (Value.int IntKind.i64 (Int.tmod c n))]) = Out.one (U := U) (D.mk false [CV.v (Value.int IntKind.i64 (pickI c n))])), by kernel_rfl, ?_⟩
      unfold in64 at hp
      refine ⟨fun h => ⟨by omega, ?_⟩, fun h => ⟨by omega, ?_⟩⟩
      · have h' := of_decide_eq_true h
        simp only [Out.one.injEq, Out.tup.injEq, D.mk.injEq, List.cons.injEq, CV.v.injEq, CV.sl.injEq, Value.bool.injEq, Value.int.injEq, Value.string.injEq, and_true, true_and, heq_eq_eq]
        rw [pickI, if_pos h', w64 (x := c + 1) (by omega), w64 (by omega), Int.tmod_eq_emod_of_nonneg (by omega)]
        congr 1; omega
      · have h' := of_decide_eq_false h
        simp only [Out.one.injEq, Out.tup.injEq, D.mk.injEq, List.cons.injEq, CV.v.injEq, CV.sl.injEq, Value.bool.injEq, Value.int.injEq, Value.string.injEq, and_true, true_and, heq_eq_eq]
        rw [pickI, if_neg h', Int.tmod_eq_emod_of_nonneg (by omega)]
    · cases hg

def textD : ByteArray := ⟨#[100]⟩
def fLim (c : Int) : Int := 1 + pickI c 32
def fMsgs (c : Int) (raw : List A6) : List Msg := (raw.take (Int.toNat (fLim c))).map fun r => msgOf r textD
def fN (c : Int) (raw : List A6) : Nat := if raw.length < Int.toNat (fLim c) then raw.length else Int.toNat (fLim c)
def mkFifo_S : RX.Spec U := fun
  | [⟨false, [.v (.int .i64 lm)]⟩, ⟨false, [.v (.int .i64 ls)]⟩, ⟨false, [.sl .a6 raw]⟩] => some ⟨some ((in64 lm ∧ in64 ls ∧ ∀ r ∈ raw, okA6 r)), (.one ⟨true, [.v (.int .i64 (fLim lm)), .v (.int .i64 (pickI ls 65536)), .sl .msg (fMsgs lm raw)]⟩)⟩
  | _ => none

theorem mkFifo_ok : ConOk Tryd.prog U GV 12 mkFifo_S :=
  fn_go gs ty glok (conCons pick14_ok (conCons Message_ok conNil)) Tryd.func12 (by kernel_rfl) fun ds r hg hp => by
    unfold mkFifo_S at hg
    split at hg
    · rename_i lm ls raw
      obtain ⟨raw, rfl⟩ : ∃ q_ : List A6, q_ = raw := ⟨raw, rfl⟩
      cases hg
      replace hp : ((in64 lm ∧ in64 ls ∧ ∀ r ∈ raw, okA6 r)) := hp
      refine ⟨fun st key => if key = 3 then some { N := fN lm raw, mods := fun k => [.tv 8 (.int .i64 (k : Int)), .cr 7 2 .msg ((raw.take k).map fun r => msgOf r textD) true] } else none, (((-9223372036854775808 : Int) ≤ lm ∧ lm ≤ (9223372036854775807 : Int)) ∧ (0 : Int) < (32 : Int) ∧ (32 : Int) ≤ (1000000000 : Int)) ∧ (((-9223372036854775808 : Int) ≤ ls ∧ ls ≤ (9223372036854775807 : Int)) ∧ (0 : Int) < (65536 : Int) ∧ (65536 : Int) ≤ (1000000000 : Int)) ∧ True ∧ (Value.int IntKind.i64 (0 : Int) = Value.int IntKind.i64 (0 : Int) ∧ List.map (fun r => msgOf r textD) (List.take (0 : Nat) raw) = []) ∧ ∀ (k : Nat), k ≤ fN lm raw → True → ((decide ((↑k : Int) < (↑(List.length raw) : Int)) && decide ((↑k : Int) < wrap64 ((1 : Int) + pickI lm (32 : Int)))) = true → ((0 : Int) ≤ (↑k : Int) ∧ (↑k : Int) < (↑(List.length raw) : Int)) ∧ (((-9223372036854775808 : Int) ≤ A6.a (List.getD raw (Int.toNat (↑k : Int)) (d_a6)) ∧ A6.a (List.getD raw (Int.toNat (↑k : Int)) (d_a6)) ≤ (9223372036854775807 : Int)) ∧ ((-9223372036854775808 : Int) ≤ A6.b (List.getD raw (Int.toNat (↑k : Int)) (d_a6)) ∧ A6.b (List.getD raw (Int.toNat (↑k : Int)) (d_a6)) ≤ (9223372036854775807 : Int)) ∧ ((-9223372036854775808 : Int) ≤ A6.c (List.getD raw (Int.toNat (↑k : Int)) (d_a6)) ∧ A6.c (List.getD raw (Int.toNat (↑k : Int)) (d_a6)) ≤ (9223372036854775807 : Int)) ∧ ((-9223372036854775808 : Int) ≤ A6.d (List.getD raw (Int.toNat (↑k : Int)) (d_a6)) ∧ A6.d (List.getD raw (Int.toNat (↑k : Int)) (d_a6)) ≤ (9223372036854775807 : Int)) ∧ ((-9223372036854775808 : Int) ≤ A6.e (List.getD raw (Int.toNat (↑k : Int)) (d_a6)) ∧ A6.e (List.getD raw (Int.toNat (↑k : Int)) (d_a6)) ≤ (9223372036854775807 : Int)) ∧ (-9223372036854775808 : Int) ≤ A6.f (List.getD raw (Int.toNat (↑k : Int)) (d_a6)) ∧ A6.f (List.getD raw (Int.toNat (↑k : Int)) (d_a6)) ≤ (9223372036854775807 : Int)) ∧ List.length (List.map (fun r => msgOf r textD) (List.take k raw)) + List.length [msgOf (List.getD raw (Int.toNat (↑k : Int)) (d_a6)) (ByteArray.mk (Array.mk [(100 : UInt8)]))] ≤ (1000000 : Nat) ∧ k < fN lm raw ∧ True ∧ Value.int IntKind.i64 (wrap64 ((↑k : Int) + (1 : Int))) = Value.int IntKind.i64 (↑(k + (1 : Nat)) : Int) ∧ True ∧ List.map (fun r => msgOf r textD) (List.take k raw) ++ [msgOf (List.getD raw (Int.toNat (↑k : Int)) (d_a6)) (ByteArray.mk (Array.mk [(100 : UInt8)]))] = List.map (fun r => msgOf r textD) (List.take (k + (1 : Nat)) raw)) ∧ ((decide ((↑k : Int) < (↑(List.length raw) : Int)) && decide ((↑k : Int) < wrap64 ((1 : Int) + pickI lm (32 : Int)))) = false → Out.one (U := U) (D.mk true [CV.v (Value.int IntKind.i64 (wrap64 ((1 : Int) + pickI lm (32 : Int)))), CV.v (Value.int IntKind.i64 (pickI ls (65536 : Int))), CV.sl Kind.msg (List.map (fun r => msgOf r textD) (List.take k raw))]) = Out.one (U := U) (D.mk true [CV.v (Value.int IntKind.i64 (fLim lm)), CV.v (Value.int IntKind.i64 (pickI ls (65536 : Int))), CV.sl Kind.msg (fMsgs lm raw)])), by kernel_rfl, ?_⟩
      obtain ⟨h1, h2, h4⟩ := hp
      have r1 := pickI_range lm 32 (by omega)
      unfold in64 at h1 h2
      have w1 : wrap64 ((1 : Int) + pickI lm 32) = fLim lm := w64 (by omega)
      have hN : fN lm raw ≤ raw.length ∧ fN lm raw ≤ 32 := by unfold fN fLim; split <;> omega
      rw [w1]
      refine ⟨by omega, by omega, trivial, ⟨rfl, rfl⟩, fun k hk _ => ⟨fun hlt => ?_, fun hge => ?_⟩⟩
      · simp only [Bool.and_eq_true, decide_eq_true_eq] at hlt
        have hl : k < raw.length := by omega
        rw [getD_at raw k _ hl]
        have ok := h4 raw[k] (List.getElem_mem hl)
        have t1 : raw.take (k + 1) = raw.take k ++ [raw[k]] := by rw [List.take_succ_eq_append_getElem hl]
        refine ⟨by omega, ok, ?_, ?_, trivial, ?_, trivial, ?_⟩
        · rw [List.length_map, List.length_take]; show _ + 1 ≤ 1000000; omega
        · unfold fN; split <;> omega
        · rw [w64 (by omega)]; rfl
        · rw [t1, List.map_append]; rfl
      · have hge : ¬ (k < raw.length ∧ (k : Int) < fLim lm) := by simp only [Bool.and_eq_false_iff, decide_eq_false_iff_not] at hge; omega
        have hkN : k = fN lm raw := by revert hk; unfold fN; split <;> omega
        have t1 : raw.take k = raw.take (Int.toNat (fLim lm)) := by
          rw [hkN]; unfold fN; split
          · rw [List.take_of_length_le (Nat.le_refl _), List.take_of_length_le (by omega)]
          · rfl
        simp only [Out.one.injEq, Out.tup.injEq, D.mk.injEq, List.cons.injEq, CV.v.injEq, CV.sl.injEq, Value.bool.injEq, Value.int.injEq, Value.string.injEq, and_true, true_and, heq_eq_eq]
        rw [t1]; rfl
    · cases hg

def filtOf (r : A2) : Filter := ⟨pickI r.a 2 == 1, pickI r.a 6, pickI r.b 8⟩
def okA2 (r : A2) : Prop := in64 r.a ∧ in64 r.b
def fFilts (raw : List A2) : List Filter := (raw.take 4).map filtOf
def mkFilters_S : RX.Spec U := fun
  | [⟨false, [.sl .a2 raw]⟩] => some ⟨some (∀ r ∈ raw, okA2 r), (.one ⟨false, [.sl .filter (fFilts raw)]⟩)⟩
  | _ => none

theorem mkFilters_ok : ConOk Tryd.prog U GV 22 mkFilters_S :=
  fn_go gs ty glok (conCons pick14_ok conNil) Tryd.func22 (by kernel_rfl) fun ds r hg hp => by
    unfold mkFilters_S at hg
    split at hg
    · rename_i raw
      obtain ⟨raw, rfl⟩ : ∃ q_ : List A2, q_ = raw := ⟨raw, rfl⟩
      cases hg
      replace hp : (∀ r ∈ raw, okA2 r) := hp
      refine ⟨fun st key => if key = 3 then some { N := if raw.length < 4 then raw.length else 4, mods := fun k => [.tv 4 (.int .i64 (k : Int)), .tr 3 .filter ((raw.take k).map filtOf) true] } else none, True ∧ (Value.int IntKind.i64 (0 : Int) = Value.int IntKind.i64 (0 : Int) ∧ List.map filtOf (List.take (0 : Nat) raw) = []) ∧ ∀ (k : Nat), (k ≤ if List.length raw < (4 : Nat) then List.length raw else (4 : Nat)) → True → ((decide ((↑k : Int) < (↑(List.length raw) : Int)) && decide ((↑k : Int) < (4 : Int))) = true → ((0 : Int) ≤ (↑k : Int) ∧ (↑k : Int) < (↑(List.length raw) : Int)) ∧ ((0 : Int) ≤ (0 : Int) ∧ (0 : Int) < (2 : Int)) ∧ (((-9223372036854775808 : Int) ≤ A2.a (List.getD raw (Int.toNat (↑k : Int)) (d_a2)) ∧ A2.a (List.getD raw (Int.toNat (↑k : Int)) (d_a2)) ≤ (9223372036854775807 : Int)) ∧ (0 : Int) < (2 : Int) ∧ (2 : Int) ≤ (1000000000 : Int)) ∧ ((0 : Int) ≤ (↑k : Int) ∧ (↑k : Int) < (↑(List.length raw) : Int)) ∧ ((0 : Int) ≤ (0 : Int) ∧ (0 : Int) < (2 : Int)) ∧ (((-9223372036854775808 : Int) ≤ A2.a (List.getD raw (Int.toNat (↑k : Int)) (d_a2)) ∧ A2.a (List.getD raw (Int.toNat (↑k : Int)) (d_a2)) ≤ (9223372036854775807 : Int)) ∧ (0 : Int) < (6 : Int) ∧ (6 : Int) ≤ (1000000000 : Int)) ∧ ((0 : Int) ≤ (↑k : Int) ∧ (↑k : Int) < (↑(List.length raw) : Int)) ∧ ((0 : Int) ≤ (1 : Int) ∧ (1 : Int) < (2 : Int)) ∧ (((-9223372036854775808 : Int) ≤ A2.b (List.getD raw (Int.toNat (↑k : Int)) (d_a2)) ∧ A2.b (List.getD raw (Int.toNat (↑k : Int)) (d_a2)) ≤ (9223372036854775807 : Int)) ∧ (0 : Int) < (8 : Int) ∧ (8 : Int) ≤ (1000000000 : Int)) ∧ List.length (List.map filtOf (List.take k raw)) + List.length [Filter.mk (pickI (A2.a (List.getD raw (Int.toNat (↑k : Int)) (d_a2))) (2 : Int) == (1 : Int)) (pickI (A2.a (List.getD raw (Int.toNat (↑k : Int)) (d_a2))) (6 : Int)) (pickI (A2.b (List.getD raw (Int.toNat (↑k : Int)) (d_a2))) (8 : Int))] ≤ (1000000 : Nat) ∧ (k < if List.length raw < (4 : Nat) then List.length raw else (4 : Nat)) ∧ True ∧ Value.int IntKind.i64 (wrap64 ((↑k : Int) + (1 : Int))) = Value.int IntKind.i64 (↑(k + (1 : Nat)) : Int) ∧ True ∧ List.map filtOf (List.take k raw) ++ [Filter.mk (pickI (A2.a (List.getD raw (Int.toNat (↑k : Int)) (d_a2))) (2 : Int) == (1 : Int)) (pickI (A2.a (List.getD raw (Int.toNat (↑k : Int)) (d_a2))) (6 : Int)) (pickI (A2.b (List.getD raw (Int.toNat (↑k : Int)) (d_a2))) (8 : Int))] = List.map filtOf (List.take (k + (1 : Nat)) raw)) ∧ ((decide ((↑k : Int) < (↑(List.length raw) : Int)) && decide ((↑k : Int) < (4 : Int))) = false → Out.one (U := U) (D.mk false [CV.sl Kind.filter (List.map filtOf (List.take k raw))]) = Out.one (U := U) (D.mk false [CV.sl Kind.filter (fFilts raw)])), by kernel_rfl, ?_⟩
      have h4 := hp
      have hN : (if raw.length < 4 then raw.length else 4) ≤ raw.length ∧ (if raw.length < 4 then raw.length else 4) ≤ 4 := by split <;> omega
      refine ⟨trivial, ⟨rfl, rfl⟩, fun k hk _ => ⟨fun hlt => ?_, fun hge => ?_⟩⟩
      · simp only [Bool.and_eq_true, decide_eq_true_eq] at hlt
        have hl : k < raw.length := by omega
        rw [getD_at raw k _ hl]
        have ok := h4 raw[k] (List.getElem_mem hl)
        unfold okA2 in64 at ok
        have t1 : raw.take (k + 1) = raw.take k ++ [raw[k]] := by rw [List.take_succ_eq_append_getElem hl]
        refine ⟨by omega, by omega, by omega, by omega, by omega, by omega, by omega, by omega, by omega, ?_, ?_, trivial, ?_, trivial, ?_⟩
        · rw [List.length_map, List.length_take]; show _ + 1 ≤ 1000000; omega
        · split <;> omega
        · rw [w64 (by omega)]; rfl
        · rw [t1, List.map_append]; rfl
      · have hge : ¬ (k < raw.length ∧ k < 4) := by simp only [Bool.and_eq_false_iff, decide_eq_false_iff_not] at hge; omega
        have t1 : raw.take k = raw.take 4 := by
          revert hk; split <;> intro hk
          · have : k = raw.length := by omega
            rw [this, List.take_of_length_le (Nat.le_refl _), List.take_of_length_le (by omega)]
          · have : k = 4 := by omega
            rw [this]
        simp only [Out.one.injEq, Out.tup.injEq, D.mk.injEq, List.cons.injEq, CV.v.injEq, CV.sl.injEq, Value.bool.injEq, Value.int.injEq, Value.string.injEq, and_true, true_and, heq_eq_eq]
        rw [t1]; rfl
    · cases hg

end Go.Proofs.YtdepagelkocldaaDoor.X
