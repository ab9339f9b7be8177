/- Messages in order, as the document says. -/
import Derived.Test.YtdpoimomipdgjaaDoorRLess
namespace Go.Proofs.YtdpoimomipdgjaaDoor.X
open Go Go.RX Go.RowKit Go.Proofs
set_option linter.unusedVariables false
set_option linter.unusedSimpArgs false
/-- Where x is put, among the first k. -/
def insAt (x : Msg) (out : List Msg) : Nat → Nat
  | 0 => 0
  | k + 1 => if msgL x (out.getD k d_msg) = true then insAt x out k else k + 1
def insM (x : Msg) (out : List Msg) : List Msg := out.take (insAt x out out.length) ++ [x] ++ out.drop (insAt x out out.length)
def srtL (l : List Msg) : Nat → List Msg
  | 0 => []
  | k + 1 => if right (l.getD k d_msg).ext (l.getD k d_msg).id = true then insM (l.getD k d_msg) (srtL l k) else srtL l k
theorem insAt_le (x : Msg) (out : List Msg) : ∀ k, insAt x out k ≤ k
  | 0 => Nat.le_refl _
  | k + 1 => by
    unfold insAt
    split
    · exact Nat.le_succ_of_le (insAt_le x out k)
    · exact Nat.le_refl _
theorem insM_length (x : Msg) (out : List Msg) : (insM x out).length = out.length + 1 := by
  have h := insAt_le x out out.length
  unfold insM
  rw [List.length_append, List.length_append, List.length_take, List.length_drop, List.length_singleton]
  omega
theorem srtL_length (l : List Msg) : ∀ k, (srtL l k).length ≤ k
  | 0 => Nat.le_refl _
  | k + 1 => by
    have h := srtL_length l k
    unfold srtL
    split
    · rw [insM_length]; omega
    · omega
def rSort_S : RX.Spec U := fun
  | [⟨false, [.sl .msg l]⟩] => some ⟨some (l.length ≤ 1000), (.one ⟨false, [.sl .msg (srtL l l.length)]⟩)⟩
  | _ => none

theorem rSort_ok : ConOk Tryd.prog U GV 26 rSort_S :=
  fn_go gs ty glok (conCons rRight_ok (conCons rmsgLess_ok conNil)) Tryd.func26 (by kernel_rfl) fun ds r hg hp => by
    unfold rSort_S at hg
    split at hg
    · rename_i l
      obtain ⟨l, rfl⟩ : ∃ q_ : List Msg, q_ = l := ⟨l, rfl⟩
      cases hg
      replace hp : (l.length ≤ 1000) := hp
      refine ⟨fun st key => if key = 3 then some { N := l.length, mods := fun k => [.tv 4 (.int .i64 (k : Int)), .tr 3 .msg (srtL l k) false] } else if key = 7 then match st with | k :: _ => some { N := (srtL l k).length, mods := fun j => [.tv 5 (.int .i64 (((srtL l k).length : Int) - (j : Int)))], inv := fun j => insAt (l.getD k d_msg) (srtL l k) ((srtL l k).length - j) = insAt (l.getD k d_msg) (srtL l k) (srtL l k).length } | [] => none else none, True ∧ (Value.int IntKind.i64 (0 : Int) = Value.int IntKind.i64 (0 : Int) ∧ srtL l (0 : Nat) = []) ∧ ∀ (k : Nat), k ≤ List.length l → True → (decide ((↑k : Int) < (↑(List.length l) : Int)) = true → ((0 : Int) ≤ (↑k : Int) ∧ (↑k : Int) < (↑(List.length l) : Int)) ∧ ((!right (Msg.ext (List.getD l (Int.toNat (↑k : Int)) (d_msg))) (Msg.id (List.getD l (Int.toNat (↑k : Int)) (d_msg)))) = true → k < List.length l ∧ True ∧ Value.int IntKind.i64 (wrap64 ((↑k : Int) + (1 : Int))) = Value.int IntKind.i64 (↑(k + (1 : Nat)) : Int) ∧ True ∧ srtL l k = srtL l (k + (1 : Nat))) ∧ ((!right (Msg.ext (List.getD l (Int.toNat (↑k : Int)) (d_msg))) (Msg.id (List.getD l (Int.toNat (↑k : Int)) (d_msg)))) = false → insAt (List.getD l k d_msg) (srtL l k) (List.length (srtL l k) - (0 : Nat)) = insAt (List.getD l k d_msg) (srtL l k) (List.length (srtL l k)) ∧ Value.int IntKind.i64 (↑(List.length (srtL l k)) : Int) = Value.int IntKind.i64 ((↑(List.length (srtL l k)) : Int) - (0 : Int)) ∧ ∀ (k_1 : Nat), k_1 ≤ List.length (srtL l k) → insAt (List.getD l k d_msg) (srtL l k) (List.length (srtL l k) - k_1) = insAt (List.getD l k d_msg) (srtL l k) (List.length (srtL l k)) → (decide ((0 : Int) < (↑(List.length (srtL l k)) : Int) - (↑k_1 : Int)) = true → (0 : Int) ≤ (↑k : Int) ∧ (↑k : Int) < (↑(List.length l) : Int)) ∧ (decide ((0 : Int) < (↑(List.length (srtL l k)) : Int) - (↑k_1 : Int)) = true → (0 : Int) ≤ wrap64 ((↑(List.length (srtL l k)) : Int) - (↑k_1 : Int) - (1 : Int)) ∧ wrap64 ((↑(List.length (srtL l k)) : Int) - (↑k_1 : Int) - (1 : Int)) < (↑(List.length (srtL l k)) : Int)) ∧ ((decide ((0 : Int) < (↑(List.length (srtL l k)) : Int) - (↑k_1 : Int)) && msgL (List.getD l (Int.toNat (↑k : Int)) (d_msg)) (List.getD (srtL l k) (Int.toNat (wrap64 ((↑(List.length (srtL l k)) : Int) - (↑k_1 : Int) - (1 : Int)))) (d_msg))) = true → k_1 < List.length (srtL l k) ∧ insAt (List.getD l k d_msg) (srtL l k) (List.length (srtL l k) - (k_1 + (1 : Nat))) = insAt (List.getD l k d_msg) (srtL l k) (List.length (srtL l k)) ∧ Value.int IntKind.i64 (wrap64 ((↑(List.length (srtL l k)) : Int) - (↑k_1 : Int) - (1 : Int))) = Value.int IntKind.i64 ((↑(List.length (srtL l k)) : Int) - (↑(k_1 + (1 : Nat)) : Int))) ∧ ((decide ((0 : Int) < (↑(List.length (srtL l k)) : Int) - (↑k_1 : Int)) && msgL (List.getD l (Int.toNat (↑k : Int)) (d_msg)) (List.getD (srtL l k) (Int.toNat (wrap64 ((↑(List.length (srtL l k)) : Int) - (↑k_1 : Int) - (1 : Int)))) (d_msg))) = false → ((0 : Int) ≤ (↑(List.length (srtL l k)) : Int) - (↑k_1 : Int) ∧ (↑(List.length (srtL l k)) : Int) - (↑k_1 : Int) ≤ (↑(List.length (srtL l k)) : Int)) ∧ (0 : Nat) + List.length (List.take (Int.toNat ((↑(List.length (srtL l k)) : Int) - (↑k_1 : Int))) (srtL l k)) ≤ (1000000 : Nat) ∧ ((0 : Int) ≤ (↑k : Int) ∧ (↑k : Int) < (↑(List.length l) : Int)) ∧ List.length ([] ++ List.take (Int.toNat ((↑(List.length (srtL l k)) : Int) - (↑k_1 : Int))) (srtL l k)) + List.length [List.getD l (Int.toNat (↑k : Int)) (d_msg)] ≤ (1000000 : Nat) ∧ ((0 : Int) ≤ (↑(List.length (srtL l k)) : Int) - (↑k_1 : Int) ∧ (↑(List.length (srtL l k)) : Int) - (↑k_1 : Int) ≤ (↑(List.length (srtL l k)) : Int)) ∧ List.length ([] ++ List.take (Int.toNat ((↑(List.length (srtL l k)) : Int) - (↑k_1 : Int))) (srtL l k) ++ [List.getD l (Int.toNat (↑k : Int)) (d_msg)]) + List.length (List.drop (Int.toNat ((↑(List.length (srtL l k)) : Int) - (↑k_1 : Int))) (srtL l k)) ≤ (1000000 : Nat) ∧ k < List.length l ∧ True ∧ Value.int IntKind.i64 (wrap64 ((↑k : Int) + (1 : Int))) = Value.int IntKind.i64 (↑(k + (1 : Nat)) : Int) ∧ True ∧ [] ++ List.take (Int.toNat ((↑(List.length (srtL l k)) : Int) - (↑k_1 : Int))) (srtL l k) ++ [List.getD l (Int.toNat (↑k : Int)) (d_msg)] ++ List.drop (Int.toNat ((↑(List.length (srtL l k)) : Int) - (↑k_1 : Int))) (srtL l k) = srtL l (k + (1 : Nat))))) ∧ (decide ((↑k : Int) < (↑(List.length l) : Int)) = false → Out.one (U := U) (D.mk false [CV.sl Kind.msg (srtL l k)]) = Out.one (U := U) (D.mk false [CV.sl Kind.msg (srtL l (List.length l))])), by kernel_rfl, ?_⟩
      refine ⟨trivial, ⟨rfl, rfl⟩, fun k hk _ => ⟨fun hlt => ?_, fun hge => ?_⟩⟩
      · have hlt : k < l.length := by have := of_decide_eq_true hlt; omega
        have eX : List.getD l (Int.toNat (k : Int)) d_msg = List.getD l k d_msg := rfl
        have eS : srtL l (k + 1) = if right (l.getD k d_msg).ext (l.getD k d_msg).id = true then insM (l.getD k d_msg) (srtL l k) else srtL l k := rfl
        have hl := srtL_length l k
        rw [eX, eS]
        clear eX eS
        revert hl
        generalize List.getD l k d_msg = x
        generalize srtL l k = o
        intro hl
        have wk : wrap64 ((k : Int) + 1) = ((k + 1 : Nat) : Int) := by rw [w64 (by omega)]; rfl
        rw [wk]
        refine ⟨by omega, fun h => ⟨hlt, trivial, rfl, trivial, ?_⟩, fun h => ⟨rfl, by rw [Int.sub_zero], fun j hj hA => ?_⟩⟩
        · rw [if_neg (by simpa using h)]
        · have h : right x.ext x.id = true := by simpa using h
          have en : Int.toNat ((o.length : Int) - (j : Int)) = o.length - j := by omega
          have ew : wrap64 ((o.length : Int) - (j : Int) - (1 : Int)) = (o.length : Int) - (j : Int) - 1 := w64 (by omega)
          have en1 : Int.toNat ((o.length : Int) - (j : Int) - 1) = o.length - (j + 1) := by omega
          rw [ew, en, en1, if_pos h]
          refine ⟨fun c => ⟨by omega, by omega⟩, fun c => ?_, fun c => ?_, fun c => ?_⟩
          · have c := of_decide_eq_true c
            exact ⟨by omega, by omega⟩
          · obtain ⟨c1, c2⟩ := Bool.and_eq_true_iff.mp c
            have c1 := of_decide_eq_true c1
            have e : o.length - j = (o.length - (j + 1)) + 1 := by omega
            rw [e, insAt, if_pos c2] at hA
            refine ⟨by omega, hA, ?_⟩
            rw [show (o.length : Int) - (j : Int) - 1 = (o.length : Int) - ((j + 1 : Nat) : Int) by omega]
          · have hat : insAt x o (o.length - j) = o.length - j := by
              rcases Nat.eq_zero_or_pos (o.length - j) with z | z
              · rw [z]; rfl
              · have e : o.length - j = (o.length - (j + 1)) + 1 := by omega
                have hm : ¬ msgL x (o.getD (o.length - (j + 1)) d_msg) = true := fun m => by
                  rw [m, decide_eq_true (show (0 : Int) < (o.length : Int) - (j : Int) by omega)] at c
                  cases c
                rw [e, insAt, if_neg hm]
            have h1 : (List.take (o.length - j) o).length ≤ o.length := by rw [List.length_take]; omega
            have h2 : (List.drop (o.length - j) o).length ≤ o.length := by rw [List.length_drop]; omega
            refine ⟨by omega, by omega, by omega, ?_, by omega, ?_, hlt, trivial, rfl, trivial, ?_⟩
            · rw [List.nil_append]; show _ + 1 ≤ 1000000; omega
            · rw [List.nil_append, List.length_append]; show _ + 1 + _ ≤ 1000000; omega
            · unfold insM
              rw [← hA, hat]; rfl
      · have hge := of_decide_eq_false hge
        have : k = l.length := by omega
        rw [this]
    · cases hg

end Go.Proofs.YtdpoimomipdgjaaDoor.X
