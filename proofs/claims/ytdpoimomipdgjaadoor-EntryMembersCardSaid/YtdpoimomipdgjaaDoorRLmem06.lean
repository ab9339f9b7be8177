/- Each member's Inc is told, and nobody else's. -/
import Derived.Test.YtdpoimomipdgjaaDoorRFacts06
import Derived.Test.YtdpoimomipdgjaaDoorRAwake06
namespace Go.Proofs.YtdpoimomipdgjaaDoor.X
open Go Go.RX Go.RowKit Go.Proofs
set_option linter.unusedVariables false
set_option linter.unusedSimpArgs false
theorem vl_pre (v : Int) (k : Nat) : ∀ m, ∃ r, vl v (k + m) = vl v k ++ r
  | 0 => ⟨[], by simp⟩
  | m + 1 => by
    obtain ⟨r, h⟩ := vl_pre v k m
    rw [show k + (m + 1) = (k + m) + 1 by omega, vl]
    split
    · exact ⟨r ++ [((k + m : Nat) : Int)], by rw [h, List.append_assoc]⟩
    · exact ⟨r, h⟩
theorem idx_has {v : Int} {n : Nat} (hn : n < 16) (h : hasB v n = true) : idxN (vl v 16) (n : Int) = (vl v n).length ∧ (vl v n).length < (vl v 16).length := by
  obtain ⟨r, e⟩ := vl_pre v (n + 1) (15 - n)
  rw [show n + 1 + (15 - n) = 16 by omega, vl_yes h, List.append_assoc] at e
  have hl : (vl v n).length < (vl v 16).length := by rw [e, List.length_append, List.length_append, List.length_singleton]; omega
  refine ⟨idxN_at hl (fun y hy => ?_) ?_, hl⟩
  · have : (vl v 16).take (vl v n).length = vl v n := by rw [e, List.take_left']; rfl
    rw [this] at hy
    have := (vl_lt v n).1 y hy
    omega
  · simp only [e]
    rw [List.getElem_append_right (Nat.le_refl _)]
    simp
theorem inc_has (mb : Int) (incs : List Int) (hl : incs.length = (vl mb 16).length) (x : Int) : incIs mb incs x = hasB mb x ∧ (hasB mb x = true → incOf mb incs x = incs.getD (vl mb x.toNat).length 0 ∧ (vl mb x.toNat).length < incs.length) ∧ (hasB mb x = false → incOf mb incs x = 0) := by
  by_cases c : hasB mb x = true
  · have hx : 0 ≤ x ∧ x ≤ 15 := Classical.byContradiction fun q => by rw [hasB_out q] at c; cases c
    obtain ⟨n, rfl⟩ := Int.eq_ofNat_of_zero_le hx.1
    obtain ⟨h1, h2⟩ := idx_has (v := mb) (n := n) (by omega) c
    have h3 : incIs mb incs (n : Int) = true := by
      unfold incIs
      rw [h1, decide_eq_true hl.symm, decide_eq_true h2]; rfl
    refine ⟨h3.trans c.symm, fun _ => ⟨?_, by rw [hl]; exact h2⟩, fun q => by rw [c] at q; cases q⟩
    unfold incOf
    rw [if_pos h3, h1]; rfl
  · have c' : hasB mb x = false := by simpa using c
    have h3 : incIs mb incs x = false := by
      unfold incIs
      have : idxN (vl mb 16) x = (vl mb 16).length := idxN_none fun y hy e => by
        subst e
        have := (vl_mem.mp hy).2.2
        rw [this] at c'; cases c'
      rw [this, decide_eq_false (Nat.lt_irrefl _), Bool.and_false]
    refine ⟨h3.trans c'.symm, fun q => absurd q c, fun _ => ?_⟩
    unfold incOf
    rw [if_neg (by rw [h3]; decide)]
def Members_S : RX.Spec U := fun
  | [⟨true, [.v (.int .i64 a), .v (.int .i64 b), .v (.int .i64 c)]⟩, ⟨false, [.sl .int incs]⟩, ⟨false, [.sl .a6 raw]⟩] => some ⟨some ((in64 a ∧ in64 b ∧ in64 c ∧ (∀ r ∈ incs, in64 r) ∧ (∀ r ∈ raw, okA6 r))), (.one ⟨false, [.v (.bool true)]⟩)⟩
  | _ => none

theorem Members_ok : ConOk Tryd.prog U GV 5 Members_S :=
  fn_go gs ty glok (conCons awake06_ok (conCons mkEntry_ok (conCons entInc_ok (conCons rHas_ok (conCons eRight_ok conNil))))) Tryd.func5 (by kernel_rfl) fun ds r hg hp => by
    unfold Members_S at hg
    split at hg
    · rename_i a b c incs raw
      obtain ⟨incs, rfl⟩ : ∃ q_ : List Int, q_ = incs := ⟨incs, rfl⟩
      obtain ⟨raw, rfl⟩ : ∃ q_ : List A6, q_ = raw := ⟨raw, rfl⟩
      cases hg
      replace hp : ((in64 a ∧ in64 b ∧ in64 c ∧ (∀ r ∈ incs, in64 r) ∧ (∀ r ∈ raw, okA6 r))) := hp
      refine ⟨fun st key => if key = 5 then some { N := 18, mods := fun k => [.tv 10 (.int .i64 ((k : Int) - 1)), .tv 9 (.int .i64 ((vl (pickI c 65536) (k - 1)).length : Int))] } else if key = 13 then some { N := (eL c incs raw).length, mods := fun k => [.tv 13 (.int .i64 (k : Int))] } else none, (((-9223372036854775808 : Int) ≤ a ∧ a ≤ (9223372036854775807 : Int)) ∧ ((-9223372036854775808 : Int) ≤ b ∧ b ≤ (9223372036854775807 : Int)) ∧ ((-9223372036854775808 : Int) ≤ c ∧ c ≤ (9223372036854775807 : Int)) ∧ (∀ (r : Int), List.Mem r incs → (-9223372036854775808 : Int) ≤ r ∧ r ≤ (9223372036854775807 : Int)) ∧ ∀ (r : Uni.T U Kind.a6), List.Mem r raw → ((-9223372036854775808 : Int) ≤ A6.a r ∧ A6.a r ≤ (9223372036854775807 : Int)) ∧ ((-9223372036854775808 : Int) ≤ A6.b r ∧ A6.b r ≤ (9223372036854775807 : Int)) ∧ ((-9223372036854775808 : Int) ≤ A6.c r ∧ A6.c r ≤ (9223372036854775807 : Int)) ∧ ((-9223372036854775808 : Int) ≤ A6.d r ∧ A6.d r ≤ (9223372036854775807 : Int)) ∧ ((-9223372036854775808 : Int) ≤ A6.e r ∧ A6.e r ≤ (9223372036854775807 : Int)) ∧ (-9223372036854775808 : Int) ≤ A6.f r ∧ A6.f r ≤ (9223372036854775807 : Int)) ∧ True ∧ (Value.int IntKind.i64 (-1 : Int) = Value.int IntKind.i64 (-1 : Int) ∧ Value.int IntKind.i64 (0 : Int) = Value.int IntKind.i64 (↑(List.length (vl (pickI c (65536 : Int)) (0 : Nat))) : Int)) ∧ ∀ (k : Nat), k ≤ (18 : Nat) → True → (decide ((↑k : Int) - (1 : Int) < (17 : Int)) = true → ((!!incIs (pickI c (65536 : Int)) (mIncs incs (List.length (vl (pickI c (65536 : Int)) (16 : Nat)))) ((↑k : Int) - (1 : Int)) == hasB (pickI c (65536 : Int)) ((↑k : Int) - (1 : Int)) && incIs (pickI c (65536 : Int)) (mIncs incs (List.length (vl (pickI c (65536 : Int)) (16 : Nat)))) ((↑k : Int) - (1 : Int))) = true → (0 : Int) ≤ (↑(List.length (vl (pickI c (65536 : Int)) (k - (1 : Nat)))) : Int) ∧ (↑(List.length (vl (pickI c (65536 : Int)) (k - (1 : Nat)))) : Int) < (↑(List.length (mIncs incs (List.length (vl (pickI c (65536 : Int)) (16 : Nat))))) : Int)) ∧ ((!incIs (pickI c (65536 : Int)) (mIncs incs (List.length (vl (pickI c (65536 : Int)) (16 : Nat)))) ((↑k : Int) - (1 : Int)) == hasB (pickI c (65536 : Int)) ((↑k : Int) - (1 : Int)) || incIs (pickI c (65536 : Int)) (mIncs incs (List.length (vl (pickI c (65536 : Int)) (16 : Nat)))) ((↑k : Int) - (1 : Int)) && incOf (pickI c (65536 : Int)) (mIncs incs (List.length (vl (pickI c (65536 : Int)) (16 : Nat)))) ((↑k : Int) - (1 : Int)) != List.getD (mIncs incs (List.length (vl (pickI c (65536 : Int)) (16 : Nat)))) (Int.toNat (↑(List.length (vl (pickI c (65536 : Int)) (k - (1 : Nat)))) : Int)) (d_int) || !incIs (pickI c (65536 : Int)) (mIncs incs (List.length (vl (pickI c (65536 : Int)) (16 : Nat)))) ((↑k : Int) - (1 : Int)) && incOf (pickI c (65536 : Int)) (mIncs incs (List.length (vl (pickI c (65536 : Int)) (16 : Nat)))) ((↑k : Int) - (1 : Int)) != (0 : Int)) = true → Out.one (U := U) (D.mk false [CV.v (Value.bool false)]) = Out.one (U := U) (D.mk false [CV.v (Value.bool true)])) ∧ ((!incIs (pickI c (65536 : Int)) (mIncs incs (List.length (vl (pickI c (65536 : Int)) (16 : Nat)))) ((↑k : Int) - (1 : Int)) == hasB (pickI c (65536 : Int)) ((↑k : Int) - (1 : Int)) || incIs (pickI c (65536 : Int)) (mIncs incs (List.length (vl (pickI c (65536 : Int)) (16 : Nat)))) ((↑k : Int) - (1 : Int)) && incOf (pickI c (65536 : Int)) (mIncs incs (List.length (vl (pickI c (65536 : Int)) (16 : Nat)))) ((↑k : Int) - (1 : Int)) != List.getD (mIncs incs (List.length (vl (pickI c (65536 : Int)) (16 : Nat)))) (Int.toNat (↑(List.length (vl (pickI c (65536 : Int)) (k - (1 : Nat)))) : Int)) (d_int) || !incIs (pickI c (65536 : Int)) (mIncs incs (List.length (vl (pickI c (65536 : Int)) (16 : Nat)))) ((↑k : Int) - (1 : Int)) && incOf (pickI c (65536 : Int)) (mIncs incs (List.length (vl (pickI c (65536 : Int)) (16 : Nat)))) ((↑k : Int) - (1 : Int)) != (0 : Int)) = false → (incIs (pickI c (65536 : Int)) (mIncs incs (List.length (vl (pickI c (65536 : Int)) (16 : Nat)))) ((↑k : Int) - (1 : Int)) = true → k < (18 : Nat) ∧ True ∧ Value.int IntKind.i64 (wrap64 ((↑k : Int) - (1 : Int) + (1 : Int))) = Value.int IntKind.i64 ((↑(k + (1 : Nat)) : Int) - (1 : Int)) ∧ Value.int IntKind.i64 (wrap64 ((↑(List.length (vl (pickI c (65536 : Int)) (k - (1 : Nat)))) : Int) + (1 : Int))) = Value.int IntKind.i64 (↑(List.length (vl (pickI c (65536 : Int)) (k + (1 : Nat) - (1 : Nat)))) : Int)) ∧ (incIs (pickI c (65536 : Int)) (mIncs incs (List.length (vl (pickI c (65536 : Int)) (16 : Nat)))) ((↑k : Int) - (1 : Int)) = false → k < (18 : Nat) ∧ True ∧ Value.int IntKind.i64 (wrap64 ((↑k : Int) - (1 : Int) + (1 : Int))) = Value.int IntKind.i64 ((↑(k + (1 : Nat)) : Int) - (1 : Int)) ∧ Value.int IntKind.i64 (↑(List.length (vl (pickI c (65536 : Int)) (k - (1 : Nat)))) : Int) = Value.int IntKind.i64 (↑(List.length (vl (pickI c (65536 : Int)) (k + (1 : Nat) - (1 : Nat)))) : Int)))) ∧ (decide ((↑k : Int) - (1 : Int) < (17 : Int)) = false → True ∧ Value.int IntKind.i64 (0 : Int) = Value.int IntKind.i64 (0 : Int) ∧ ∀ (k_1 : Nat), k_1 ≤ List.length (eL c incs raw) → True → (decide ((↑k_1 : Int) < (↑(List.length (srtL (mMsgs (pickI c (65536 : Int)) incs raw (mN (pickI c (65536 : Int)) raw)) (List.length (mMsgs (pickI c (65536 : Int)) incs raw (mN (pickI c (65536 : Int)) raw))))) : Int)) = true → ((0 : Int) ≤ (↑k_1 : Int) ∧ (↑k_1 : Int) < (↑(List.length (srtL (mMsgs (pickI c (65536 : Int)) incs raw (mN (pickI c (65536 : Int)) raw)) (List.length (mMsgs (pickI c (65536 : Int)) incs raw (mN (pickI c (65536 : Int)) raw))))) : Int)) ∧ ((!!incIs (pickI c (65536 : Int)) (mIncs incs (List.length (vl (pickI c (65536 : Int)) (16 : Nat)))) (Msg.sender (List.getD (srtL (mMsgs (pickI c (65536 : Int)) incs raw (mN (pickI c (65536 : Int)) raw)) (List.length (mMsgs (pickI c (65536 : Int)) incs raw (mN (pickI c (65536 : Int)) raw)))) (Int.toNat (↑k_1 : Int)) (d_msg)))) = true → (0 : Int) ≤ (↑k_1 : Int) ∧ (↑k_1 : Int) < (↑(List.length (srtL (mMsgs (pickI c (65536 : Int)) incs raw (mN (pickI c (65536 : Int)) raw)) (List.length (mMsgs (pickI c (65536 : Int)) incs raw (mN (pickI c (65536 : Int)) raw))))) : Int)) ∧ ((!incIs (pickI c (65536 : Int)) (mIncs incs (List.length (vl (pickI c (65536 : Int)) (16 : Nat)))) (Msg.sender (List.getD (srtL (mMsgs (pickI c (65536 : Int)) incs raw (mN (pickI c (65536 : Int)) raw)) (List.length (mMsgs (pickI c (65536 : Int)) incs raw (mN (pickI c (65536 : Int)) raw)))) (Int.toNat (↑k_1 : Int)) (d_msg))) || incOf (pickI c (65536 : Int)) (mIncs incs (List.length (vl (pickI c (65536 : Int)) (16 : Nat)))) (Msg.sender (List.getD (srtL (mMsgs (pickI c (65536 : Int)) incs raw (mN (pickI c (65536 : Int)) raw)) (List.length (mMsgs (pickI c (65536 : Int)) incs raw (mN (pickI c (65536 : Int)) raw)))) (Int.toNat (↑k_1 : Int)) (d_msg))) != Msg.inc (List.getD (srtL (mMsgs (pickI c (65536 : Int)) incs raw (mN (pickI c (65536 : Int)) raw)) (List.length (mMsgs (pickI c (65536 : Int)) incs raw (mN (pickI c (65536 : Int)) raw)))) (Int.toNat (↑k_1 : Int)) (d_msg))) = true → Out.one (U := U) (D.mk false [CV.v (Value.bool false)]) = Out.one (U := U) (D.mk false [CV.v (Value.bool true)])) ∧ ((!incIs (pickI c (65536 : Int)) (mIncs incs (List.length (vl (pickI c (65536 : Int)) (16 : Nat)))) (Msg.sender (List.getD (srtL (mMsgs (pickI c (65536 : Int)) incs raw (mN (pickI c (65536 : Int)) raw)) (List.length (mMsgs (pickI c (65536 : Int)) incs raw (mN (pickI c (65536 : Int)) raw)))) (Int.toNat (↑k_1 : Int)) (d_msg))) || incOf (pickI c (65536 : Int)) (mIncs incs (List.length (vl (pickI c (65536 : Int)) (16 : Nat)))) (Msg.sender (List.getD (srtL (mMsgs (pickI c (65536 : Int)) incs raw (mN (pickI c (65536 : Int)) raw)) (List.length (mMsgs (pickI c (65536 : Int)) incs raw (mN (pickI c (65536 : Int)) raw)))) (Int.toNat (↑k_1 : Int)) (d_msg))) != Msg.inc (List.getD (srtL (mMsgs (pickI c (65536 : Int)) incs raw (mN (pickI c (65536 : Int)) raw)) (List.length (mMsgs (pickI c (65536 : Int)) incs raw (mN (pickI c (65536 : Int)) raw)))) (Int.toNat (↑k_1 : Int)) (d_msg))) = false → k_1 < List.length (eL c incs raw) ∧ True ∧ Value.int IntKind.i64 (wrap64 ((↑k_1 : Int) + (1 : Int))) = Value.int IntKind.i64 (↑(k_1 + (1 : Nat)) : Int))) ∧ (decide ((↑k_1 : Int) < (↑(List.length (srtL (mMsgs (pickI c (65536 : Int)) incs raw (mN (pickI c (65536 : Int)) raw)) (List.length (mMsgs (pickI c (65536 : Int)) incs raw (mN (pickI c (65536 : Int)) raw))))) : Int)) = false → ((true && (↑(List.length (vl (pickI c (65536 : Int)) (k - (1 : Nat)))) : Int) == (↑(List.length (mIncs incs (List.length (vl (pickI c (65536 : Int)) (16 : Nat))))) : Int)) = true → List.length (mIncs incs (List.length (vl (pickI c (65536 : Int)) (16 : Nat)))) ≤ (1000000 : Nat) ∧ List.length (srtL (mMsgs (pickI c (65536 : Int)) incs raw (mN (pickI c (65536 : Int)) raw)) (List.length (mMsgs (pickI c (65536 : Int)) incs raw (mN (pickI c (65536 : Int)) raw)))) ≤ (1000000 : Nat)) ∧ Out.one (U := U) (D.mk false [CV.v (Value.bool (true && (↑(List.length (vl (pickI c (65536 : Int)) (k - (1 : Nat)))) : Int) == (↑(List.length (mIncs incs (List.length (vl (pickI c (65536 : Int)) (16 : Nat))))) : Int) && entR ((1 : Int) + pickI a (65535 : Int)) ((1 : Int) + pickI b (65535 : Int)) (pickI c (65536 : Int)) (mIncs incs (List.length (vl (pickI c (65536 : Int)) (16 : Nat)))) (srtL (mMsgs (pickI c (65536 : Int)) incs raw (mN (pickI c (65536 : Int)) raw)) (List.length (mMsgs (pickI c (65536 : Int)) incs raw (mN (pickI c (65536 : Int)) raw))))))]) = Out.one (U := U) (D.mk false [CV.v (Value.bool true)]))), by kernel_rfl, ?_⟩
      obtain ⟨p1, p2, p3, p4, p5⟩ := hp
      have hR := mk_entR a b c incs raw
      have hRl : entR (1 + pickI a 65535) (1 + pickI b 65535) (pickI c 65536) (mIncs incs (vl (pickI c 65536) 16).length) (srtL (mMsgs (pickI c 65536) incs raw (mN (pickI c 65536) raw)) (mMsgs (pickI c 65536) incs raw (mN (pickI c 65536) raw)).length) = true := hR
      have hEL : srtL (mMsgs (pickI c (65536 : Int)) incs raw (mN (pickI c (65536 : Int)) raw)) (mMsgs (pickI c (65536 : Int)) incs raw (mN (pickI c (65536 : Int)) raw)).length = eL c incs raw := rfl
      have hEI : mIncs incs (vl (pickI c (65536 : Int)) (16 : Nat)).length = eI c incs := rfl
      rw [hEL, hEI] at hRl ⊢
      rw [hRl]
      have hIl : (eI c incs).length = (vl (pickI c 65536) 16).length := mIncs_length _ _
      have hv := vl_length (pickI c 65536) 16
      have hLl := entR_few hR
      have hM : ∀ k, k < (eL c incs raw).length → entM (pickI c 65536) (eI c incs) (eL c incs raw) k = true := fun k hk => by
        unfold entR at hR
        exact List.all_eq_true.mp (Bool.and_eq_true_iff.mp hR).2 k (List.mem_range.mpr hk)
      clear hR hEL hEI hRl
      have hin := inc_has (pickI c 65536) (eI c incs) hIl
      revert hIl hv hLl hM hin
      generalize eL c incs raw = L
      generalize eI c incs = I
      generalize pickI c (65536 : Int) = mb
      intro hIl hv hLl hM hin
      refine ⟨⟨p1, p2, p3, p4, p5⟩, trivial, ⟨rfl, rfl⟩, fun k hk _ => ⟨fun hlt => ?_, fun hge => ?_⟩⟩
      · have hlt := of_decide_eq_true hlt
        obtain ⟨q1, q2, q3⟩ := hin ((k : Int) - 1)
        have hn : ((k : Int) - 1).toNat = k - 1 := by omega
        rw [hn] at q2
        have w1 : wrap64 ((k : Int) - 1 + 1) = ((k + 1 : Nat) : Int) - 1 := by rw [w64 (by omega)]; omega
        have hvl := vl_length mb (k - 1)
        rw [q1]
        cases c : hasB mb ((k : Int) - 1) with
        | true =>
          obtain ⟨q4, q5⟩ := q2 c
          have hk1 : 1 ≤ k := Classical.byContradiction fun q => by
            rw [hasB_out (by omega)] at c; cases c
          have hstep : vl mb (k + 1 - 1) = vl mb (k - 1) ++ [((k - 1 : Nat) : Int)] := by
            rw [show k + 1 - 1 = (k - 1) + 1 by omega]
            refine vl_yes ?_
            rw [show ((k - 1 : Nat) : Int) = (k : Int) - 1 by omega]; exact c
          refine ⟨fun _ => ⟨by omega, by omega⟩, fun h => ?_, fun h => ⟨fun _ => ⟨by omega, trivial, by rw [w1], ?_⟩, fun h => (by cases h)⟩⟩
          · exfalso
            rw [q4, Int.toNat_natCast] at h
            revert h
            simp [d_int]
          · rw [hstep, List.length_append, List.length_singleton, w64 (by omega)]; rfl
        | false =>
          have q4 := q3 c
          have hstep : vl mb (k + 1 - 1) = vl mb (k - 1) := by
            by_cases hk1 : 1 ≤ k
            · rw [show k + 1 - 1 = (k - 1) + 1 by omega]
              refine vl_no ?_
              rw [show ((k - 1 : Nat) : Int) = (k : Int) - 1 by omega]; exact c
            · rw [show k + 1 - 1 = k - 1 by omega]
          refine ⟨fun h => (by simp at h), fun h => ?_, fun h => ⟨fun h => (by cases h), fun _ => ⟨by omega, trivial, by rw [w1], by rw [hstep]⟩⟩⟩
          exfalso
          rw [q4] at h
          revert h
          simp
      · have hge := of_decide_eq_false hge
        have hk18 : k = 18 := by omega
        subst hk18
        have h17 : vl mb (18 - 1) = vl mb 16 := vl_no (hasB_out (by decide))
        rw [h17]
        refine ⟨trivial, rfl, fun j hj _ => ⟨fun hlt => ?_, fun hge => ?_⟩⟩
        · have hlt : j < L.length := by have := of_decide_eq_true hlt; omega
          have hj' := hM j hlt
          simp only [entM, Bool.and_eq_true, decide_eq_true_eq] at hj'
          have e1 : incIs mb I (L.getD j d_msg).sender = true := hj'.1.1.1.2
          have e2 : incOf mb I (L.getD j d_msg).sender = (L.getD j d_msg).inc := hj'.1.1.2
          rw [show L.getD (Int.toNat (j : Int)) d_msg = L.getD j d_msg from rfl, e1, e2]
          refine ⟨⟨by omega, by omega⟩, fun _ => ⟨by omega, by omega⟩, fun h => ?_, fun h => ⟨hlt, trivial, ?_⟩⟩
          · exfalso; revert h; simp
          · rw [w64 (by omega)]; rfl
        · refine ⟨fun _ => ⟨by omega, by omega⟩, ?_⟩
          rw [hIl]
          simp only [Out.one.injEq, Out.tup.injEq, D.mk.injEq, List.cons.injEq, CV.v.injEq, CV.sl.injEq, Value.bool.injEq, Value.int.injEq, Value.string.injEq, and_true, true_and, heq_eq_eq]
          simp
    · cases hg

end Go.Proofs.YtdpoimomipdgjaaDoor.X
