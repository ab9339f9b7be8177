/- What was gathered: which may be; when it is the same. -/
import Derived.Test.YtelpblhhpdonkaaRFr
namespace Go.Proofs.Ytelpblhhpdonkaa.X
open Go Go.RX Go.RowKit Go.Proofs
set_option linter.unusedVariables false
set_option linter.unusedSimpArgs false
theorem take_all5 {α : Type} (p : α → Bool) (l : List α) (k : Nat) (h : k < l.length) : (l.take (k + 1)).all p = ((l.take k).all p && p l[k]) := by
  rw [List.take_succ_eq_append_getElem h, List.all_append]; simp
theorem take_any5 {α : Type} (p : α → Bool) (l : List α) (k : Nat) (h : k < l.length) : (l.take (k + 1)).any p = ((l.take k).any p || p l[k]) := by
  rw [List.take_succ_eq_append_getElem h, List.any_append]; simp
theorem long_is (s : ByteArray) : decide ((16 : Int) < (s.size : Int)) = !okPart s := by
  unfold okPart
  rw [Bool.eq_iff_iff]
  simp only [decide_eq_true_eq, Bool.not_eq_true', decide_eq_false_iff_not]
  omega
theorem take_same5 {α : Type} [DecidableEq α] {l m : List α} {k : Nat} (hl : k < l.length) (hm : k < m.length) (h : l.take k = m.take k) (e : l[k] = m[k]) : l.take (k + 1) = m.take (k + 1) := by
  rw [List.take_succ_eq_append_getElem hl, List.take_succ_eq_append_getElem hm, h, e]
theorem piece_eq (x y : Piece) : (x.seq == y.seq && (x.at_ == y.at_ && (x.of_ == y.of_ && x.bytes == y.bytes))) = decide (x = y) := by
  obtain ⟨a, b, c, d⟩ := x
  obtain ⟨a', b', c', d'⟩ := y
  rw [Bool.eq_iff_iff]
  simp only [Bool.and_eq_true, beq_iff_eq, ba_beq, decide_eq_true_eq, Piece.mk.injEq]
def flong_S : RX.Spec U := fun
  | [⟨false, [.v (.string s)]⟩] => some ⟨none, (.one ⟨false, [.v (.bool (!okPart s))]⟩)⟩
  | _ => none

theorem flong_ok : ConOk Try.prog U GV 38 flong_S :=
  fn_go gs ty glok conNil Try.func38 (by kernel_rfl) fun ds r hg hp => by
    unfold flong_S at hg
    split at hg
    · rename_i s
      cases hg
      refine ⟨fun _ _ => none, Out.one (U := U) (D.mk false [CV.v (Value.bool (decide ((16 : Int) < (↑(ByteArray.size s) : Int))))]) = Out.one (U := U) (D.mk false [CV.v (Value.bool !okPart s)]), by kernel_rfl, ?_⟩
      simp only [Out.one.injEq, Out.tup.injEq, D.mk.injEq, List.cons.injEq, CV.v.injEq, CV.sl.injEq, Value.bool.injEq, Value.int.injEq, Value.string.injEq, and_true, true_and, heq_eq_eq]
      unfold okPart
      rw [Bool.eq_iff_iff]
      simp only [decide_eq_true_eq, Bool.not_eq_true', decide_eq_false_iff_not]
      omega
    · cases hg

def fsome_S : RX.Spec U := fun
  | [⟨false, [.v (.string s)]⟩] => some ⟨none, (.one ⟨false, [.v (.bool (s != .empty))]⟩)⟩
  | _ => none

theorem fsome_ok : ConOk Try.prog U GV 39 fsome_S :=
  fn_go gs ty glok conNil Try.func39 (by kernel_rfl) fun ds r hg hp => by
    unfold fsome_S at hg
    split at hg
    · rename_i s
      cases hg
      refine ⟨fun _ _ => none, Out.one (U := U) (D.mk false [CV.v (Value.bool !s == ByteArray.mk (Array.mk []))]) = Out.one (U := U) (D.mk false [CV.v (Value.bool (s != ByteArray.empty))]), by kernel_rfl, ?_⟩
      simp only [Out.one.injEq, Out.tup.injEq, D.mk.injEq, List.cons.injEq, CV.v.injEq, CV.sl.injEq, Value.bool.injEq, Value.int.injEq, Value.string.injEq, and_true, true_and, heq_eq_eq]
      rfl
    · cases hg

def fanyLong_S : RX.Spec U := fun
  | [⟨false, [.sl .str l]⟩, ⟨false, [.v fv0_]⟩] => RX.onF 38 fv0_ (some ⟨some (l.length ≤ 1000000), (.one ⟨false, [.v (.bool (!l.all okPart))]⟩)⟩)
  | _ => none

theorem fanyLong_ok : ConOk Try.prog U GV 40 fanyLong_S :=
  fn_go gs ty glok conNil Try.func40 (by kernel_rfl) fun ds r hg hp => by
    unfold fanyLong_S at hg
    split at hg
    · replace hg := RX.onF_is hg
      obtain ⟨rfl, hg⟩ := hg
      rename_i l
      obtain ⟨l, rfl⟩ : ∃ q_ : List ByteArray, q_ = l := ⟨l, rfl⟩
      cases hg
      replace hp : (l.length ≤ 1000000) := hp
      refine ⟨fun st key => if key = 2 then some { N := l.length, mods := fun k => [.tv 8 (.int .i64 (k : Int))], inv := fun k => (l.take k).all okPart = true } else none, true = true ∧ Value.int IntKind.i64 (0 : Int) = Value.int IntKind.i64 (0 : Int) ∧ ∀ (k : Nat), k ≤ List.length l → List.all (List.take k l) okPart = true → (decide ((↑k : Int) < (↑(List.length l) : Int)) = true → ((0 : Int) ≤ (↑k : Int) ∧ (↑k : Int) < (↑(List.length l) : Int)) ∧ (decide ((16 : Int) < (↑(ByteArray.size (List.getD l (Int.toNat (↑k : Int)) (d_str))) : Int)) = true → Out.one (U := U) (D.mk false [CV.v (Value.bool (decide ((0 : Int) ≤ (↑k : Int))))]) = Out.one (U := U) (D.mk false [CV.v (Value.bool !List.all l okPart)])) ∧ (decide ((16 : Int) < (↑(ByteArray.size (List.getD l (Int.toNat (↑k : Int)) (d_str))) : Int)) = false → k < List.length l ∧ List.all (List.take (k + (1 : Nat)) l) okPart = true ∧ Value.int IntKind.i64 (wrap64 ((↑k : Int) + (1 : Int))) = Value.int IntKind.i64 (↑(k + (1 : Nat)) : Int))) ∧ (decide ((↑k : Int) < (↑(List.length l) : Int)) = false → Out.one (U := U) (D.mk false [CV.v (Value.bool false)]) = Out.one (U := U) (D.mk false [CV.v (Value.bool !List.all l okPart)])), by kernel_rfl, ?_⟩
      refine ⟨rfl, rfl, fun k hk hik => ⟨fun hlt => ?_, fun hge => ?_⟩⟩
      · have hlt : k < l.length := by have := of_decide_eq_true hlt; omega
        rw [getD_at l k _ hlt, long_is]
        refine ⟨⟨by omega, by omega⟩, fun ho => ?_, fun ho => ⟨hlt, ?_, ?_⟩⟩
        · simp only [Out.one.injEq, Out.tup.injEq, D.mk.injEq, List.cons.injEq, CV.v.injEq, CV.sl.injEq, Value.bool.injEq, Value.int.injEq, Value.string.injEq, and_true, true_and, heq_eq_eq]
          have h1 : l.all okPart = false := by
            cases hh : l.all okPart with
            | false => rfl
            | true => have := List.all_eq_true.mp hh l[k] (List.getElem_mem hlt); rw [this] at ho; cases ho
          rw [h1]; exact decide_eq_true (by omega)
        · rw [take_all5 _ l k hlt, hik]; simpa using ho
        · rw [w64 (by omega)]; rfl
      · have hge := of_decide_eq_false hge
        rw [List.take_of_length_le (by omega)] at hik
        simp only [Out.one.injEq, Out.tup.injEq, D.mk.injEq, List.cons.injEq, CV.v.injEq, CV.sl.injEq, Value.bool.injEq, Value.int.injEq, Value.string.injEq, and_true, true_and, heq_eq_eq]
        rw [hik]; rfl
    · cases hg

def fanySome_S : RX.Spec U := fun
  | [⟨false, [.sl .str l]⟩, ⟨false, [.v fv0_]⟩] => RX.onF 39 fv0_ (some ⟨some (l.length ≤ 1000000), (.one ⟨false, [.v (.bool (anyS l))]⟩)⟩)
  | _ => none

theorem fanySome_ok : ConOk Try.prog U GV 40 fanySome_S :=
  fn_go gs ty glok conNil Try.func40 (by kernel_rfl) fun ds r hg hp => by
    unfold fanySome_S at hg
    split at hg
    · replace hg := RX.onF_is hg
      obtain ⟨rfl, hg⟩ := hg
      rename_i l
      obtain ⟨l, rfl⟩ : ∃ q_ : List ByteArray, q_ = l := ⟨l, rfl⟩
      cases hg
      replace hp : (l.length ≤ 1000000) := hp
      refine ⟨fun st key => if key = 2 then some { N := l.length, mods := fun k => [.tv 8 (.int .i64 (k : Int))], inv := fun k => anyS (l.take k) = false } else none, anyS (List.take (0 : Nat) l) = false ∧ Value.int IntKind.i64 (0 : Int) = Value.int IntKind.i64 (0 : Int) ∧ ∀ (k : Nat), k ≤ List.length l → anyS (List.take k l) = false → (decide ((↑k : Int) < (↑(List.length l) : Int)) = true → ((0 : Int) ≤ (↑k : Int) ∧ (↑k : Int) < (↑(List.length l) : Int)) ∧ ((!List.getD l (Int.toNat (↑k : Int)) (d_str) == ByteArray.mk (Array.mk [])) = true → Out.one (U := U) (D.mk false [CV.v (Value.bool (decide ((0 : Int) ≤ (↑k : Int))))]) = Out.one (U := U) (D.mk false [CV.v (Value.bool (anyS l))])) ∧ ((!List.getD l (Int.toNat (↑k : Int)) (d_str) == ByteArray.mk (Array.mk [])) = false → k < List.length l ∧ anyS (List.take (k + (1 : Nat)) l) = false ∧ Value.int IntKind.i64 (wrap64 ((↑k : Int) + (1 : Int))) = Value.int IntKind.i64 (↑(k + (1 : Nat)) : Int))) ∧ (decide ((↑k : Int) < (↑(List.length l) : Int)) = false → Out.one (U := U) (D.mk false [CV.v (Value.bool false)]) = Out.one (U := U) (D.mk false [CV.v (Value.bool (anyS l))])), by kernel_rfl, ?_⟩
      refine ⟨rfl, rfl, fun k hk hik => ⟨fun hlt => ?_, fun hge => ?_⟩⟩
      · have hlt : k < l.length := by have := of_decide_eq_true hlt; omega
        rw [getD_at l k _ hlt]
        refine ⟨⟨by omega, by omega⟩, fun ho => ?_, fun ho => ⟨hlt, ?_, ?_⟩⟩
        · simp only [Out.one.injEq, Out.tup.injEq, D.mk.injEq, List.cons.injEq, CV.v.injEq, CV.sl.injEq, Value.bool.injEq, Value.int.injEq, Value.string.injEq, and_true, true_and, heq_eq_eq]
          have h1 : anyS l = true := List.any_eq_true.mpr ⟨l[k], List.getElem_mem hlt, ho⟩
          rw [h1]; exact decide_eq_true (by omega)
        · unfold anyS at hik ⊢
          rw [take_any5 _ l k hlt, hik]; exact ho
        · rw [w64 (by omega)]; rfl
      · have hge := of_decide_eq_false hge
        rw [List.take_of_length_le (by omega)] at hik
        simp only [Out.one.injEq, Out.tup.injEq, D.mk.injEq, List.cons.injEq, CV.v.injEq, CV.sl.injEq, Value.bool.injEq, Value.int.injEq, Value.string.injEq, and_true, true_and, heq_eq_eq]
        rw [hik]
    · cases hg

def fhasNone_S : RX.Spec U := fun
  | [⟨false, [.sl .str l]⟩, ⟨false, [.v (.string s)]⟩] => some ⟨some (l.length ≤ 1000000), (.one ⟨false, [.v (.bool (hasS l s))]⟩)⟩
  | _ => none

theorem fhasNone_ok : ConOk Try.prog U GV 36 fhasNone_S :=
  fn_go gs ty glok conNil Try.func36 (by kernel_rfl) fun ds r hg hp => by
    unfold fhasNone_S at hg
    split at hg
    · rename_i l s
      obtain ⟨l, rfl⟩ : ∃ q_ : List ByteArray, q_ = l := ⟨l, rfl⟩
      cases hg
      replace hp : (l.length ≤ 1000000) := hp
      refine ⟨fun st key => if key = 2 then some { N := l.length, mods := fun k => [.tv 8 (.int .i64 (k : Int))], inv := fun k => hasS (l.take k) s = false } else none, hasS (List.take (0 : Nat) l) s = false ∧ Value.int IntKind.i64 (0 : Int) = Value.int IntKind.i64 (0 : Int) ∧ ∀ (k : Nat), k ≤ List.length l → hasS (List.take k l) s = false → (decide ((↑k : Int) < (↑(List.length l) : Int)) = true → ((0 : Int) ≤ (↑k : Int) ∧ (↑k : Int) < (↑(List.length l) : Int)) ∧ ((s == List.getD l (Int.toNat (↑k : Int)) (d_str)) = true → Out.one (U := U) (D.mk false [CV.v (Value.bool (decide ((0 : Int) ≤ (↑k : Int))))]) = Out.one (U := U) (D.mk false [CV.v (Value.bool (hasS l s))])) ∧ ((s == List.getD l (Int.toNat (↑k : Int)) (d_str)) = false → k < List.length l ∧ hasS (List.take (k + (1 : Nat)) l) s = false ∧ Value.int IntKind.i64 (wrap64 ((↑k : Int) + (1 : Int))) = Value.int IntKind.i64 (↑(k + (1 : Nat)) : Int))) ∧ (decide ((↑k : Int) < (↑(List.length l) : Int)) = false → Out.one (U := U) (D.mk false [CV.v (Value.bool false)]) = Out.one (U := U) (D.mk false [CV.v (Value.bool (hasS l s))])), by kernel_rfl, ?_⟩
      refine ⟨rfl, rfl, fun k hk hik => ⟨fun hlt => ?_, fun hge => ?_⟩⟩
      · have hlt : k < l.length := by have := of_decide_eq_true hlt; omega
        rw [getD_at l k _ hlt]
        refine ⟨⟨by omega, by omega⟩, fun ho => ?_, fun ho => ⟨hlt, ?_, ?_⟩⟩
        · simp only [Out.one.injEq, Out.tup.injEq, D.mk.injEq, List.cons.injEq, CV.v.injEq, CV.sl.injEq, Value.bool.injEq, Value.int.injEq, Value.string.injEq, and_true, true_and, heq_eq_eq]
          have h1 : hasS l s = true := List.any_eq_true.mpr ⟨l[k], List.getElem_mem hlt, by rw [ba_beq] at ho ⊢; rw [of_decide_eq_true ho]; simp⟩
          rw [h1]; exact decide_eq_true (by omega)
        · unfold hasS at hik ⊢
          rw [take_any5 _ l k hlt, hik, Bool.false_or, ba_beq]
          rw [ba_beq] at ho
          exact decide_eq_false fun c => (of_decide_eq_false ho) c.symm
        · rw [w64 (by omega)]; rfl
      · have hge := of_decide_eq_false hge
        rw [List.take_of_length_le (by omega)] at hik
        simp only [Out.one.injEq, Out.tup.injEq, D.mk.injEq, List.cons.injEq, CV.v.injEq, CV.sl.injEq, Value.bool.injEq, Value.int.injEq, Value.string.injEq, and_true, true_and, heq_eq_eq]
        rw [hik]
    · cases hg

def fany_S : RX.Spec U := fun ds => match fanyLong_S ds with | some r => some r | none => fanySome_S ds
theorem fany_ok : ConOk Try.prog U GV 40 fany_S :=
  ⟨fanyLong_ok.1, fun ds r hg => by
    unfold fany_S at hg
    split at hg
    · rename_i r0 h0; cases hg; exact fanyLong_ok.2 ds _ h0
    · exact fanySome_ok.2 ds r hg⟩
def fMay_S : RX.Spec U := fun
  | [⟨true, [.v (.int .i64 i), .v (.int .i64 sq), .sl .str l]⟩] => some ⟨some (l.length ≤ 1000000), (.one ⟨false, [.v (.bool (gatherM ⟨i, sq, l⟩))]⟩)⟩
  | _ => none

theorem fMay_ok : ConOk Try.prog U GV 26 fMay_S :=
  fn_go gs ty glok (conCons fsmall_ok (conCons fany_ok conNil)) Try.func26 (by kernel_rfl) fun ds r hg hp => by
    unfold fMay_S at hg
    split at hg
    · rename_i i sq l
      obtain ⟨l, rfl⟩ : ∃ q_ : List ByteArray, q_ = l := ⟨l, rfl⟩
      cases hg
      replace hp : (l.length ≤ 1000000) := hp
      refine ⟨fun _ _ => none, ((i == (0 : Int) && sq == (0 : Int)) = true → Out.one (U := U) (D.mk false [CV.v (Value.bool ((↑(List.length l) : Int) == (0 : Int)))]) = Out.one (U := U) (D.mk false [CV.v (Value.bool (gatherM (Gather.mk i sq l)))])) ∧ ((i == (0 : Int) && sq == (0 : Int)) = false → ((btw i (1 : Int) (65535 : Int) && btw sq (1 : Int) (65535 : Int) && decide ((↑(List.length l) : Int) ≤ (20 : Int))) = true → List.length l ≤ (1000000 : Nat)) ∧ ((btw i (1 : Int) (65535 : Int) && btw sq (1 : Int) (65535 : Int) && decide ((↑(List.length l) : Int) ≤ (20 : Int)) && !!List.all l okPart) = true → List.length l ≤ (1000000 : Nat)) ∧ Out.one (U := U) (D.mk false [CV.v (Value.bool (btw i (1 : Int) (65535 : Int) && btw sq (1 : Int) (65535 : Int) && decide ((↑(List.length l) : Int) ≤ (20 : Int)) && !!List.all l okPart && anyS l))]) = Out.one (U := U) (D.mk false [CV.v (Value.bool (gatherM (Gather.mk i sq l)))])), by kernel_rfl, ?_⟩
      refine ⟨fun h => ?_, fun h => ⟨fun _ => hp, fun _ => hp, ?_⟩⟩
      · simp only [Bool.and_eq_true, beq_iff_eq] at h
        simp only [Out.one.injEq, Out.tup.injEq, D.mk.injEq, List.cons.injEq, CV.v.injEq, CV.sl.injEq, Value.bool.injEq, Value.int.injEq, Value.string.injEq, and_true, true_and, heq_eq_eq]
        unfold gatherM
        rw [if_pos h, Bool.eq_iff_iff]
        simp
      · have h' : ¬ (i = 0 ∧ sq = 0) := by
          intro c
          rw [c.1, c.2] at h
          cases h
        simp only [Out.one.injEq, Out.tup.injEq, D.mk.injEq, List.cons.injEq, CV.v.injEq, CV.sl.injEq, Value.bool.injEq, Value.int.injEq, Value.string.injEq, and_true, true_and, heq_eq_eq]
        unfold gatherM
        rw [if_neg h', Bool.not_not]
        have e : decide ((l.length : Int) ≤ 20) = decide (l.length ≤ 20) := decide_eq_decide.mpr (by omega)
        rw [e]
    · cases hg

def r5May_S : RX.Spec U := fun
  | [⟨true, [.v (.int .i64 i), .v (.int .i64 sq), .sl .str l]⟩] => some ⟨some (l.length ≤ 1000000), (.one ⟨false, [.v (.bool (gatherM ⟨i, sq, l⟩))]⟩)⟩
  | _ => none

theorem r5May_ok : ConOk Try.prog U GV 27 r5May_S :=
  fn_go gs ty glok (conCons r5small_ok conNil) Try.func27 (by kernel_rfl) fun ds r hg hp => by
    unfold r5May_S at hg
    split at hg
    · rename_i i sq l
      obtain ⟨l, rfl⟩ : ∃ q_ : List ByteArray, q_ = l := ⟨l, rfl⟩
      cases hg
      replace hp : (l.length ≤ 1000000) := hp
      refine ⟨fun st key => if key = 5 then some { N := l.length, mods := fun k => [.tv 4 (.int .i64 (k : Int)), .tv 3 (.bool (anyS (l.take k)))], inv := fun k => (l.take k).all okPart = true } else none, ((i == (0 : Int) && sq == (0 : Int)) = true → Out.one (U := U) (D.mk false [CV.v (Value.bool ((↑(List.length l) : Int) == (0 : Int)))]) = Out.one (U := U) (D.mk false [CV.v (Value.bool (gatherM (Gather.mk i sq l)))])) ∧ ((i == (0 : Int) && sq == (0 : Int)) = false → true = true ∧ (Value.int IntKind.i64 (0 : Int) = Value.int IntKind.i64 (0 : Int) ∧ Value.bool false = Value.bool (anyS (List.take (0 : Nat) l))) ∧ ∀ (k : Nat), k ≤ List.length l → List.all (List.take k l) okPart = true → (decide ((↑k : Int) < (↑(List.length l) : Int)) = true → ((0 : Int) ≤ (↑k : Int) ∧ (↑k : Int) < (↑(List.length l) : Int)) ∧ (decide ((16 : Int) < (↑(ByteArray.size (List.getD l (Int.toNat (↑k : Int)) (d_str))) : Int)) = true → Out.one (U := U) (D.mk false [CV.v (Value.bool false)]) = Out.one (U := U) (D.mk false [CV.v (Value.bool (gatherM (Gather.mk i sq l)))])) ∧ (decide ((16 : Int) < (↑(ByteArray.size (List.getD l (Int.toNat (↑k : Int)) (d_str))) : Int)) = false → ((!anyS (List.take k l)) = true → (0 : Int) ≤ (↑k : Int) ∧ (↑k : Int) < (↑(List.length l) : Int)) ∧ k < List.length l ∧ List.all (List.take (k + (1 : Nat)) l) okPart = true ∧ Value.int IntKind.i64 (wrap64 ((↑k : Int) + (1 : Int))) = Value.int IntKind.i64 (↑(k + (1 : Nat)) : Int) ∧ Value.bool (anyS (List.take k l) || !List.getD l (Int.toNat (↑k : Int)) (d_str) == ByteArray.mk (Array.mk [])) = Value.bool (anyS (List.take (k + (1 : Nat)) l)))) ∧ (decide ((↑k : Int) < (↑(List.length l) : Int)) = false → Out.one (U := U) (D.mk false [CV.v (Value.bool (btw i (1 : Int) (65535 : Int) && btw sq (1 : Int) (65535 : Int) && decide ((↑(List.length l) : Int) ≤ (20 : Int)) && anyS (List.take k l)))]) = Out.one (U := U) (D.mk false [CV.v (Value.bool (gatherM (Gather.mk i sq l)))]))), by kernel_rfl, ?_⟩
      refine ⟨fun h => ?_, fun h => ⟨rfl, ⟨rfl, rfl⟩, fun k hk hik => ⟨fun hlt => ?_, fun hge => ?_⟩⟩⟩
      · simp only [Bool.and_eq_true, beq_iff_eq] at h
        simp only [Out.one.injEq, Out.tup.injEq, D.mk.injEq, List.cons.injEq, CV.v.injEq, CV.sl.injEq, Value.bool.injEq, Value.int.injEq, Value.string.injEq, and_true, true_and, heq_eq_eq]
        unfold gatherM
        rw [if_pos h, Bool.eq_iff_iff]
        simp
      · have h' : ¬ (i = 0 ∧ sq = 0) := by
          intro c
          rw [c.1, c.2] at h
          cases h
        have hlt : k < l.length := by have := of_decide_eq_true hlt; omega
        rw [getD_at l k _ hlt, long_is]
        refine ⟨⟨by omega, by omega⟩, fun ho => ?_, fun ho => ⟨fun _ => ⟨by omega, by omega⟩, hlt, ?_, ?_, ?_⟩⟩
        · simp only [Out.one.injEq, Out.tup.injEq, D.mk.injEq, List.cons.injEq, CV.v.injEq, CV.sl.injEq, Value.bool.injEq, Value.int.injEq, Value.string.injEq, and_true, true_and, heq_eq_eq]
          have h1 : l.all okPart = false := by
            cases hh : l.all okPart with
            | false => rfl
            | true => have := List.all_eq_true.mp hh l[k] (List.getElem_mem hlt); rw [this] at ho; cases ho
          unfold gatherM
          rw [if_neg h']
          show false = (_ && _ && _ && l.all okPart && _)
          rw [h1, Bool.and_false, Bool.false_and]
        · rw [take_all5 _ l k hlt, hik]; simpa using ho
        · rw [w64 (by omega)]; rfl
        · unfold anyS
          rw [take_any5 _ l k hlt]
          rfl
      · have h' : ¬ (i = 0 ∧ sq = 0) := by
          intro c
          rw [c.1, c.2] at h
          cases h
        have hge := of_decide_eq_false hge
        have hl : l.take k = l := List.take_of_length_le (by omega)
        rw [hl] at hik ⊢
        simp only [Out.one.injEq, Out.tup.injEq, D.mk.injEq, List.cons.injEq, CV.v.injEq, CV.sl.injEq, Value.bool.injEq, Value.int.injEq, Value.string.injEq, and_true, true_and, heq_eq_eq]
        unfold gatherM
        rw [if_neg h', hik, Bool.and_true]
        have e : decide ((l.length : Int) ≤ 20) = decide (l.length ≤ 20) := decide_eq_decide.mpr (by omega)
        rw [e]
    · cases hg

def r5Own_S : RX.Spec U := fun
  | [⟨true, [.v (.int .i64 i), .v (.int .i64 sq), .sl .str l]⟩] => some ⟨some (l.length ≤ 1000000), (.one ⟨true, [.v (.int .i64 i), .v (.int .i64 sq), .sl .str l]⟩)⟩
  | _ => none

theorem r5Own_ok : ConOk Try.prog U GV 23 r5Own_S :=
  fn_go gs ty glok conNil Try.func23 (by kernel_rfl) fun ds r hg hp => by
    unfold r5Own_S at hg
    split at hg
    · rename_i i sq l
      obtain ⟨l, rfl⟩ : ∃ q_ : List ByteArray, q_ = l := ⟨l, rfl⟩
      cases hg
      replace hp : (l.length ≤ 1000000) := hp
      refine ⟨fun _ _ => none, (0 : Nat) + List.length l ≤ (1000000 : Nat) ∧ Out.one (U := U) (D.mk true [CV.v (Value.int IntKind.i64 i), CV.v (Value.int IntKind.i64 sq), CV.sl Kind.str ([] ++ l)]) = Out.one (U := U) (D.mk true [CV.v (Value.int IntKind.i64 i), CV.v (Value.int IntKind.i64 sq), CV.sl Kind.str l]), by kernel_rfl, ?_⟩
      refine ⟨by omega, ?_⟩
      rfl
    · cases hg

def r5Same_S : RX.Spec U := fun
  | [⟨true, [.v (.int .i64 a), .v (.int .i64 b), .sl .str l]⟩, ⟨true, [.v (.int .i64 c), .v (.int .i64 d), .sl .str m]⟩] => some ⟨some (l.length ≤ 1000000), (.one ⟨false, [.v (.bool (a == c && b == d && strsEq l m))]⟩)⟩
  | _ => none

theorem r5Same_ok : ConOk Try.prog U GV 30 r5Same_S :=
  fn_go gs ty glok conNil Try.func30 (by kernel_rfl) fun ds r hg hp => by
    unfold r5Same_S at hg
    split at hg
    · rename_i a b l c d m
      obtain ⟨l, rfl⟩ : ∃ q_ : List ByteArray, q_ = l := ⟨l, rfl⟩
      obtain ⟨m, rfl⟩ : ∃ q_ : List ByteArray, q_ = m := ⟨m, rfl⟩
      cases hg
      replace hp : (l.length ≤ 1000000) := hp
      refine ⟨fun st key => if key = 4 then some { N := l.length, mods := fun k => [.tv 5 (.int .i64 (k : Int))], inv := fun k => l.take k = m.take k } else none, ((a != c || b != d || (↑(List.length l) : Int) != (↑(List.length m) : Int)) = true → Out.one (U := U) (D.mk false [CV.v (Value.bool false)]) = Out.one (U := U) (D.mk false [CV.v (Value.bool (a == c && b == d && strsEq l m))])) ∧ ((a != c || b != d || (↑(List.length l) : Int) != (↑(List.length m) : Int)) = false → List.take (0 : Nat) l = List.take (0 : Nat) m ∧ Value.int IntKind.i64 (0 : Int) = Value.int IntKind.i64 (0 : Int) ∧ ∀ (k : Nat), k ≤ List.length l → List.take k l = List.take k m → (decide ((↑k : Int) < (↑(List.length l) : Int)) = true → ((0 : Int) ≤ (↑k : Int) ∧ (↑k : Int) < (↑(List.length l) : Int)) ∧ ((0 : Int) ≤ (↑k : Int) ∧ (↑k : Int) < (↑(List.length m) : Int)) ∧ ((!List.getD l (Int.toNat (↑k : Int)) (d_str) == List.getD m (Int.toNat (↑k : Int)) (d_str)) = true → Out.one (U := U) (D.mk false [CV.v (Value.bool false)]) = Out.one (U := U) (D.mk false [CV.v (Value.bool (a == c && b == d && strsEq l m))])) ∧ ((!List.getD l (Int.toNat (↑k : Int)) (d_str) == List.getD m (Int.toNat (↑k : Int)) (d_str)) = false → k < List.length l ∧ List.take (k + (1 : Nat)) l = List.take (k + (1 : Nat)) m ∧ Value.int IntKind.i64 (wrap64 ((↑k : Int) + (1 : Int))) = Value.int IntKind.i64 (↑(k + (1 : Nat)) : Int))) ∧ (decide ((↑k : Int) < (↑(List.length l) : Int)) = false → Out.one (U := U) (D.mk false [CV.v (Value.bool true)]) = Out.one (U := U) (D.mk false [CV.v (Value.bool (a == c && b == d && strsEq l m))]))), by kernel_rfl, ?_⟩
      have nil' : ∀ (x : Bool), strsEq l m = false → (a == c && b == d && strsEq l m) = false := fun _ h => by rw [h, Bool.and_false]
      refine ⟨fun h => ?_, fun h => ?_⟩
      · simp only [Out.one.injEq, Out.tup.injEq, D.mk.injEq, List.cons.injEq, CV.v.injEq, CV.sl.injEq, Value.bool.injEq, Value.int.injEq, Value.string.injEq, and_true, true_and, heq_eq_eq]
        symm
        cases h1 : strsEq l m with
        | false => rw [Bool.and_false]
        | true =>
          have h1 : l = m := of_decide_eq_true h1
          subst h1
          have h2 : (a != c || b != d) = true := by simpa using h
          rw [Bool.and_true]
          cases h3 : a == c with
          | false => rfl
          | true =>
            cases h4 : b == d with
            | false => rfl
            | true => rw [bne, bne, h3, h4] at h2; cases h2
      · simp only [Bool.or_eq_false_iff] at h
        obtain ⟨⟨h1, h2⟩, h3⟩ := h
        have h1 : a == c := by simpa using h1
        have h2 : b == d := by simpa using h2
        have hll : l.length = m.length := by
          have : (l.length : Int) = (m.length : Int) := by simpa using h3
          omega
        refine ⟨rfl, rfl, fun k hk hik => ⟨fun hlt => ?_, fun hge => ?_⟩⟩
        · have hlt : k < l.length := by have := of_decide_eq_true hlt; omega
          rw [getD_at l k _ hlt, getD_at m k _ (by omega), ba_beq]
          refine ⟨⟨by omega, by omega⟩, ⟨by omega, by omega⟩, fun ho => ?_, fun ho => ⟨hlt, ?_, ?_⟩⟩
          · have hne : ¬ l = m := fun e => by subst e; simp at ho
            have : strsEq l m = false := decide_eq_false hne
            simp only [Out.one.injEq, Out.tup.injEq, D.mk.injEq, List.cons.injEq, CV.v.injEq, CV.sl.injEq, Value.bool.injEq, Value.int.injEq, Value.string.injEq, and_true, true_and, heq_eq_eq]
            rw [this, Bool.and_false]
          · exact take_same5 hlt (by omega) hik (by simpa using ho)
          · rw [w64 (by omega)]; rfl
        · have hge := of_decide_eq_false hge
          rw [List.take_of_length_le (by omega), List.take_of_length_le (by omega)] at hik
          have : strsEq l m = true := decide_eq_true hik
          simp only [Out.one.injEq, Out.tup.injEq, D.mk.injEq, List.cons.injEq, CV.v.injEq, CV.sl.injEq, Value.bool.injEq, Value.int.injEq, Value.string.injEq, and_true, true_and, heq_eq_eq]
          rw [this, h1, h2]; rfl
    · cases hg

def r5Pieces_S : RX.Spec U := fun
  | [⟨false, [.sl .piece l]⟩, ⟨false, [.sl .piece m]⟩] => some ⟨some (l.length ≤ 1000000), (.one ⟨false, [.v (.bool (piecesEq l m))]⟩)⟩
  | _ => none

theorem r5Pieces_ok : ConOk Try.prog U GV 14 r5Pieces_S :=
  fn_go gs ty glok conNil Try.func14 (by kernel_rfl) fun ds r hg hp => by
    unfold r5Pieces_S at hg
    split at hg
    · rename_i l m
      obtain ⟨l, rfl⟩ : ∃ q_ : List Piece, q_ = l := ⟨l, rfl⟩
      obtain ⟨m, rfl⟩ : ∃ q_ : List Piece, q_ = m := ⟨m, rfl⟩
      cases hg
      replace hp : (l.length ≤ 1000000) := hp
      refine ⟨fun st key => if key = 4 then some { N := l.length, mods := fun k => [.tv 5 (.int .i64 (k : Int))], inv := fun k => l.take k = m.take k } else none, (((↑(List.length l) : Int) != (↑(List.length m) : Int)) = true → Out.one (U := U) (D.mk false [CV.v (Value.bool false)]) = Out.one (U := U) (D.mk false [CV.v (Value.bool (piecesEq l m))])) ∧ (((↑(List.length l) : Int) != (↑(List.length m) : Int)) = false → List.take (0 : Nat) l = List.take (0 : Nat) m ∧ Value.int IntKind.i64 (0 : Int) = Value.int IntKind.i64 (0 : Int) ∧ ∀ (k : Nat), k ≤ List.length l → List.take k l = List.take k m → (decide ((↑k : Int) < (↑(List.length l) : Int)) = true → ((0 : Int) ≤ (↑k : Int) ∧ (↑k : Int) < (↑(List.length l) : Int)) ∧ ((0 : Int) ≤ (↑k : Int) ∧ (↑k : Int) < (↑(List.length m) : Int)) ∧ ((!(Piece.seq (List.getD l (Int.toNat (↑k : Int)) (d_piece)) == Piece.seq (List.getD m (Int.toNat (↑k : Int)) (d_piece)) && (Piece.at_ (List.getD l (Int.toNat (↑k : Int)) (d_piece)) == Piece.at_ (List.getD m (Int.toNat (↑k : Int)) (d_piece)) && (Piece.of_ (List.getD l (Int.toNat (↑k : Int)) (d_piece)) == Piece.of_ (List.getD m (Int.toNat (↑k : Int)) (d_piece)) && Piece.bytes (List.getD l (Int.toNat (↑k : Int)) (d_piece)) == Piece.bytes (List.getD m (Int.toNat (↑k : Int)) (d_piece)))))) = true → Out.one (U := U) (D.mk false [CV.v (Value.bool false)]) = Out.one (U := U) (D.mk false [CV.v (Value.bool (piecesEq l m))])) ∧ ((!(Piece.seq (List.getD l (Int.toNat (↑k : Int)) (d_piece)) == Piece.seq (List.getD m (Int.toNat (↑k : Int)) (d_piece)) && (Piece.at_ (List.getD l (Int.toNat (↑k : Int)) (d_piece)) == Piece.at_ (List.getD m (Int.toNat (↑k : Int)) (d_piece)) && (Piece.of_ (List.getD l (Int.toNat (↑k : Int)) (d_piece)) == Piece.of_ (List.getD m (Int.toNat (↑k : Int)) (d_piece)) && Piece.bytes (List.getD l (Int.toNat (↑k : Int)) (d_piece)) == Piece.bytes (List.getD m (Int.toNat (↑k : Int)) (d_piece)))))) = false → k < List.length l ∧ List.take (k + (1 : Nat)) l = List.take (k + (1 : Nat)) m ∧ Value.int IntKind.i64 (wrap64 ((↑k : Int) + (1 : Int))) = Value.int IntKind.i64 (↑(k + (1 : Nat)) : Int))) ∧ (decide ((↑k : Int) < (↑(List.length l) : Int)) = false → Out.one (U := U) (D.mk false [CV.v (Value.bool true)]) = Out.one (U := U) (D.mk false [CV.v (Value.bool (piecesEq l m))]))), by kernel_rfl, ?_⟩
      refine ⟨fun h => ?_, fun h => ⟨rfl, rfl, fun k hk hik => ⟨fun hlt => ?_, fun hge => ?_⟩⟩⟩
      · have hne : ¬ l = m := fun e => by subst e; simp at h
        simp only [Out.one.injEq, Out.tup.injEq, D.mk.injEq, List.cons.injEq, CV.v.injEq, CV.sl.injEq, Value.bool.injEq, Value.int.injEq, Value.string.injEq, and_true, true_and, heq_eq_eq]
        exact (decide_eq_false hne).symm
      · have hlt : k < l.length := by have := of_decide_eq_true hlt; omega
        have hll : l.length = m.length := by
          have : (l.length : Int) = (m.length : Int) := by simpa using h
          omega
        rw [getD_at l k _ hlt, getD_at m k _ (by omega), piece_eq]
        refine ⟨⟨by omega, by omega⟩, ⟨by omega, by omega⟩, fun ho => ?_, fun ho => ⟨hlt, ?_, ?_⟩⟩
        · have hne : ¬ l = m := fun e => by subst e; simp at ho
          simp only [Out.one.injEq, Out.tup.injEq, D.mk.injEq, List.cons.injEq, CV.v.injEq, CV.sl.injEq, Value.bool.injEq, Value.int.injEq, Value.string.injEq, and_true, true_and, heq_eq_eq]
          exact (decide_eq_false hne).symm
        · exact take_same5 hlt (by omega) hik (by simpa using ho)
        · rw [w64 (by omega)]; rfl
      · have hge := of_decide_eq_false hge
        have hll : l.length = m.length := by
          have : (l.length : Int) = (m.length : Int) := by simpa using h
          omega
        rw [List.take_of_length_le (by omega), List.take_of_length_le (by omega)] at hik
        simp only [Out.one.injEq, Out.tup.injEq, D.mk.injEq, List.cons.injEq, CV.v.injEq, CV.sl.injEq, Value.bool.injEq, Value.int.injEq, Value.string.injEq, and_true, true_and, heq_eq_eq]
        exact (decide_eq_true hik).symm
    · cases hg

end Go.Proofs.Ytelpblhhpdonkaa.X
