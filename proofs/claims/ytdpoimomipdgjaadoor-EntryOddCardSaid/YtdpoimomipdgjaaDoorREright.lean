/- Which entries may be, as the document says. -/
import Derived.Test.YtdpoimomipdgjaaDoorRInc
namespace Go.Proofs.YtdpoimomipdgjaaDoor.X
open Go Go.RX Go.RowKit Go.Proofs
set_option linter.unusedVariables false
set_option linter.unusedSimpArgs false
/-- Of an entry's numbers. -/
def entS (t ep mb : Int) (incs : List Int) : Bool := sm t && sm ep && decide (0 ≤ mb ∧ mb ≤ 65535) && decide (incs.length = (vl mb 16).length) && incs.all sm
/-- Of its message k. -/
def entM (mb : Int) (incs : List Int) (ms : List Msg) (k : Nat) : Bool := msgR (ms.getD k d_msg) && incIs mb incs (ms.getD k d_msg).sender && decide (incOf mb incs (ms.getD k d_msg).sender = (ms.getD k d_msg).inc) && (decide (k = 0) || msgL (ms.getD (k - 1) d_msg) (ms.getD k d_msg)) && (ms.take k).all fun x => !decide (x.sender = (ms.getD k d_msg).sender)
def entR (t ep mb : Int) (incs : List Int) (ms : List Msg) : Bool := entS t ep mb incs && (List.range ms.length).all (entM mb incs ms)
def esmall_S : RX.Spec U := fun
  | [⟨false, [.v (.int .i64 n)]⟩] => some ⟨none, (.one ⟨false, [.v (.bool (sm n))]⟩)⟩
  | _ => none

theorem esmall_ok : ConOk Tryd.prog U GV 40 esmall_S :=
  fn_go gs ty glok conNil Tryd.func40 (by kernel_rfl) fun ds r hg hp => by
    unfold esmall_S at hg
    split at hg
    · rename_i n
      cases hg
      refine ⟨fun _ _ => none, Out.one (U := U) (D.mk false [CV.v (Value.bool (decide ((1 : Int) ≤ n) && decide (n ≤ (65535 : Int))))]) = Out.one (U := U) (D.mk false [CV.v (Value.bool (sm n))]), by kernel_rfl, ?_⟩
      simp only [Out.one.injEq, Out.tup.injEq, D.mk.injEq, List.cons.injEq, CV.v.injEq, CV.sl.injEq, Value.bool.injEq, Value.int.injEq, Value.string.injEq, and_true, true_and, heq_eq_eq]
      simp [sm, Bool.decide_and]
    · cases hg

def reRight_S : RX.Spec U := fun
  | [⟨true, [.v (.int .i64 t), .v (.int .i64 ep), .v (.int .i64 mb), .sl .int incs, .sl .msg ms]⟩] => some ⟨some ((incs.length ≤ 1000000 ∧ ms.length ≤ 1000000)), (.one ⟨false, [.v (.bool (entR t ep mb incs ms))]⟩)⟩
  | _ => none

theorem reRight_ok : ConOk Tryd.prog U GV 18 reRight_S :=
  fn_go gs ty glok (conCons esmall_ok (conCons rCount_ok (conCons rInc_ok (conCons rmsgRight_ok (conCons rmsgLess_ok conNil))))) Tryd.func18 (by kernel_rfl) fun ds r hg hp => by
    unfold reRight_S at hg
    split at hg
    · rename_i t ep mb incs ms
      obtain ⟨incs, rfl⟩ : ∃ q_ : List Int, q_ = incs := ⟨incs, rfl⟩
      obtain ⟨ms, rfl⟩ : ∃ q_ : List Msg, q_ = ms := ⟨ms, rfl⟩
      cases hg
      replace hp : ((incs.length ≤ 1000000 ∧ ms.length ≤ 1000000)) := hp
      refine ⟨fun st key => if key = 4 then some { N := incs.length, mods := fun k => [.tv 3 (.int .i64 (k : Int))], inv := fun k => (incs.take k).all sm = true } else if key = 9 then some { N := ms.length, mods := fun k => [.tv 4 (.int .i64 (k : Int))], inv := fun k => (List.range k).all (entM mb incs ms) = true } else if key = 16 then match st with | k :: _ => some { N := k, mods := fun j => [.tv 8 (.int .i64 (j : Int))], inv := fun j => ((ms.take k).take j).all (fun x => !decide (x.sender = (ms.getD k d_msg).sender)) = true } | [] => none else none, ((!sm t || !sm ep || decide (mb < (0 : Int)) || decide ((65535 : Int) < mb) || (↑(List.length incs) : Int) != (↑(List.length (vl mb (16 : Nat))) : Int)) = true → Out.one (U := U) (D.mk false [CV.v (Value.bool false)]) = Out.one (U := U) (D.mk false [CV.v (Value.bool (entR t ep mb incs ms))])) ∧ ((!sm t || !sm ep || decide (mb < (0 : Int)) || decide ((65535 : Int) < mb) || (↑(List.length incs) : Int) != (↑(List.length (vl mb (16 : Nat))) : Int)) = false → true = true ∧ Value.int IntKind.i64 (0 : Int) = Value.int IntKind.i64 (0 : Int) ∧ ∀ (k : Nat), k ≤ List.length incs → List.all (List.take k incs) sm = true → (decide ((↑k : Int) < (↑(List.length incs) : Int)) = true → ((0 : Int) ≤ (↑k : Int) ∧ (↑k : Int) < (↑(List.length incs) : Int)) ∧ ((!sm (List.getD incs (Int.toNat (↑k : Int)) (d_int))) = true → Out.one (U := U) (D.mk false [CV.v (Value.bool false)]) = Out.one (U := U) (D.mk false [CV.v (Value.bool (entR t ep mb incs ms))])) ∧ ((!sm (List.getD incs (Int.toNat (↑k : Int)) (d_int))) = false → k < List.length incs ∧ List.all (List.take (k + (1 : Nat)) incs) sm = true ∧ Value.int IntKind.i64 (wrap64 ((↑k : Int) + (1 : Int))) = Value.int IntKind.i64 (↑(k + (1 : Nat)) : Int))) ∧ (decide ((↑k : Int) < (↑(List.length incs) : Int)) = false → true = true ∧ Value.int IntKind.i64 (0 : Int) = Value.int IntKind.i64 (0 : Int) ∧ ∀ (k : Nat), k ≤ List.length ms → List.all (List.range k) (entM mb incs ms) = true → (decide ((↑k : Int) < (↑(List.length ms) : Int)) = true → ((0 : Int) ≤ (↑k : Int) ∧ (↑k : Int) < (↑(List.length ms) : Int)) ∧ ((!(!msgR (List.getD ms (Int.toNat (↑k : Int)) (d_msg)) || !incIs mb incs (Msg.sender (List.getD ms (Int.toNat (↑k : Int)) (d_msg))) || incOf mb incs (Msg.sender (List.getD ms (Int.toNat (↑k : Int)) (d_msg))) != Msg.inc (List.getD ms (Int.toNat (↑k : Int)) (d_msg))) && decide ((0 : Int) < (↑k : Int))) = true → (0 : Int) ≤ wrap64 ((↑k : Int) - (1 : Int)) ∧ wrap64 ((↑k : Int) - (1 : Int)) < (↑(List.length ms) : Int)) ∧ ((!msgR (List.getD ms (Int.toNat (↑k : Int)) (d_msg)) || !incIs mb incs (Msg.sender (List.getD ms (Int.toNat (↑k : Int)) (d_msg))) || incOf mb incs (Msg.sender (List.getD ms (Int.toNat (↑k : Int)) (d_msg))) != Msg.inc (List.getD ms (Int.toNat (↑k : Int)) (d_msg)) || decide ((0 : Int) < (↑k : Int)) && !msgL (List.getD ms (Int.toNat (wrap64 ((↑k : Int) - (1 : Int)))) (d_msg)) (List.getD ms (Int.toNat (↑k : Int)) (d_msg))) = true → Out.one (U := U) (D.mk false [CV.v (Value.bool false)]) = Out.one (U := U) (D.mk false [CV.v (Value.bool (entR t ep mb incs ms))])) ∧ ((!msgR (List.getD ms (Int.toNat (↑k : Int)) (d_msg)) || !incIs mb incs (Msg.sender (List.getD ms (Int.toNat (↑k : Int)) (d_msg))) || incOf mb incs (Msg.sender (List.getD ms (Int.toNat (↑k : Int)) (d_msg))) != Msg.inc (List.getD ms (Int.toNat (↑k : Int)) (d_msg)) || decide ((0 : Int) < (↑k : Int)) && !msgL (List.getD ms (Int.toNat (wrap64 ((↑k : Int) - (1 : Int)))) (d_msg)) (List.getD ms (Int.toNat (↑k : Int)) (d_msg))) = false → true = true ∧ Value.int IntKind.i64 (0 : Int) = Value.int IntKind.i64 (0 : Int) ∧ ∀ (k_1 : Nat), k_1 ≤ k → (List.all (List.take k_1 (List.take k ms)) fun x => !decide (Msg.sender x = Msg.sender (List.getD ms k d_msg))) = true → (decide ((↑k_1 : Int) < (↑k : Int)) = true → ((0 : Int) ≤ (↑k_1 : Int) ∧ (↑k_1 : Int) < (↑(List.length ms) : Int)) ∧ ((Msg.sender (List.getD ms (Int.toNat (↑k_1 : Int)) (d_msg)) == Msg.sender (List.getD ms (Int.toNat (↑k : Int)) (d_msg))) = true → Out.one (U := U) (D.mk false [CV.v (Value.bool false)]) = Out.one (U := U) (D.mk false [CV.v (Value.bool (entR t ep mb incs ms))])) ∧ ((Msg.sender (List.getD ms (Int.toNat (↑k_1 : Int)) (d_msg)) == Msg.sender (List.getD ms (Int.toNat (↑k : Int)) (d_msg))) = false → k_1 < k ∧ (List.all (List.take (k_1 + (1 : Nat)) (List.take k ms)) fun x => !decide (Msg.sender x = Msg.sender (List.getD ms k d_msg))) = true ∧ Value.int IntKind.i64 (wrap64 ((↑k_1 : Int) + (1 : Int))) = Value.int IntKind.i64 (↑(k_1 + (1 : Nat)) : Int))) ∧ (decide ((↑k_1 : Int) < (↑k : Int)) = false → k < List.length ms ∧ List.all (List.range (k + (1 : Nat))) (entM mb incs ms) = true ∧ Value.int IntKind.i64 (wrap64 ((↑k : Int) + (1 : Int))) = Value.int IntKind.i64 (↑(k + (1 : Nat)) : Int)))) ∧ (decide ((↑k : Int) < (↑(List.length ms) : Int)) = false → Out.one (U := U) (D.mk false [CV.v (Value.bool true)]) = Out.one (U := U) (D.mk false [CV.v (Value.bool (entR t ep mb incs ms))])))), by kernel_rfl, ?_⟩
      obtain ⟨p1, p2⟩ := hp
      have noS : entS t ep mb incs = false → entR t ep mb incs ms = false := fun h => by unfold entR; rw [h]; rfl
      have noM : ∀ k, k < ms.length → entM mb incs ms k = false → entR t ep mb incs ms = false := fun k hk h => by
        unfold entR
        rw [List.all_eq_false.mpr ⟨k, List.mem_range.mpr hk, by rw [h]; decide⟩, Bool.and_false]
      have hS : entS t ep mb incs = (!(!sm t || !sm ep || decide (mb < (0 : Int)) || decide ((65535 : Int) < mb) || (incs.length : Int) != ((vl mb 16).length : Int)) && incs.all sm) := by
        unfold entS
        have e1 : decide (0 ≤ mb ∧ mb ≤ 65535) = (!decide (mb < (0 : Int)) && !decide ((65535 : Int) < mb)) := by
          rw [Bool.eq_iff_iff]; simp
        have e2 : decide (incs.length = (vl mb 16).length) = !((incs.length : Int) != ((vl mb 16).length : Int)) := by
          rw [Bool.eq_iff_iff]; simp; omega
        rw [e1, e2]
        simp only [Bool.not_or, Bool.not_not, Bool.and_assoc]
      refine ⟨fun h => ?_, fun h => ⟨rfl, rfl, fun k hk hik => ⟨fun hlt => ?_, fun hge => ?_⟩⟩⟩
      · rw [noS (by rw [hS, h]; rfl)]
      · have hlt : k < incs.length := by have := of_decide_eq_true hlt; omega
        rw [getD_at incs k _ hlt]
        refine ⟨by omega, fun ho => ?_, fun ho => ⟨hlt, ?_, ?_⟩⟩
        · have hall : incs.all sm = false := List.all_eq_false.mpr ⟨incs[k], List.getElem_mem hlt, by simpa using ho⟩
          rw [noS (by rw [hS, hall, Bool.and_false])]
        · rw [List.take_succ_eq_append_getElem hlt, List.all_append, hik]
          simpa using ho
        · rw [w64 (by omega)]; rfl
      · have hge := of_decide_eq_false hge
        have e1 : incs.take k = incs := List.take_of_length_le (by omega)
        rw [e1] at hik
        have hSt : entS t ep mb incs = true := by rw [hS, h, hik]; rfl
        clear hge e1 hk noS hS h hik
        refine ⟨rfl, rfl, fun i hi hM => ⟨fun hlt => ?_, fun hge => ?_⟩⟩
        · have hlt : i < ms.length := by have := of_decide_eq_true hlt; omega
          have ew : wrap64 ((i : Int) - (1 : Int)) = (i : Int) - 1 := w64 (by omega)
          have en : Int.toNat ((i : Int) - 1) = i - 1 := by omega
          have hpre : entM mb incs ms i = (!(!msgR (ms.getD i d_msg) || !incIs mb incs (ms.getD i d_msg).sender || incOf mb incs (ms.getD i d_msg).sender != (ms.getD i d_msg).inc || decide ((0 : Int) < (i : Int)) && !msgL (ms.getD (i - 1) d_msg) (ms.getD i d_msg)) && (ms.take i).all fun x => !decide (x.sender = (ms.getD i d_msg).sender)) := by
            unfold entM
            have e3 : (decide (i = 0) || msgL (ms.getD (i - 1) d_msg) (ms.getD i d_msg)) = !(decide ((0 : Int) < (i : Int)) && !msgL (ms.getD (i - 1) d_msg) (ms.getD i d_msg)) := by
              by_cases c : i = 0
              · rw [decide_eq_true c, decide_eq_false (by omega)]; rfl
              · rw [decide_eq_false c, decide_eq_true (by omega)]; simp
            have e4 : decide (incOf mb incs (ms.getD i d_msg).sender = (ms.getD i d_msg).inc) = !(incOf mb incs (ms.getD i d_msg).sender != (ms.getD i d_msg).inc) := by
              rw [Bool.eq_iff_iff]; simp
            rw [e3, e4]
            simp only [Bool.not_or, Bool.not_not, Bool.and_assoc]
          simp only [ew, en, Int.toNat_natCast]
          refine ⟨by omega, fun c => ?_, fun bad => ?_, fun good => ⟨(by trivial), (by trivial), fun j hj hA => ⟨fun hlt2 => ?_, fun hge2 => ?_⟩⟩⟩
          · have c := (Bool.and_eq_true_iff.mp c).2
            have c := of_decide_eq_true c
            exact ⟨by omega, by omega⟩
          · rw [noM i hlt (by rw [hpre, bad]; rfl)]
          · have hlt2 : j < i := by have := of_decide_eq_true hlt2; omega
            have hj2 : j < (ms.take i).length := by rw [List.length_take]; omega
            have ej : ms.getD j d_msg = (ms.take i)[j] := by
              rw [List.getElem_take, List.getD_eq_getElem?_getD, List.getElem?_eq_getElem (by omega)]; rfl
            rw [ej]
            refine ⟨by omega, fun e => ?_, fun ne => ⟨hlt2, ?_, ?_⟩⟩
            · have hB : ((ms.take i).all fun x => !decide (x.sender = (ms.getD i d_msg).sender)) = false := List.all_eq_false.mpr ⟨(ms.take i)[j], List.getElem_mem hj2, by simpa using e⟩
              rw [noM i hlt (by rw [hpre, hB, Bool.and_false])]
            · rw [List.take_succ_eq_append_getElem hj2, List.all_append, hA]
              simpa using ne
            · rw [w64 (by omega)]; rfl
          · have hge2 := of_decide_eq_false hge2
            have e5 : (ms.take i).take j = ms.take i := List.take_of_length_le (by rw [List.length_take]; omega)
            rw [e5] at hA
            refine ⟨hlt, ?_, ?_⟩
            · have hMi : entM mb incs ms i = true := by rw [hpre, good, hA]; rfl
              rw [List.range_succ, List.all_append, hM]
              simp [hMi]
            · rw [w64 (by omega)]; rfl
        · have hge := of_decide_eq_false hge
          have e6 : i = ms.length := by omega
          subst e6
          have : entR t ep mb incs ms = true := by unfold entR; rw [hSt, hM]; rfl
          rw [this]
    · cases hg

end Go.Proofs.YtdpoimomipdgjaaDoor.X
