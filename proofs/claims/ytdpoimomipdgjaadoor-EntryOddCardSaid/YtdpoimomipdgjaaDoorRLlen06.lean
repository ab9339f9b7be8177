/- An entry's bytes are as many as its members and messages ask for; of unlike entries they are unlike. -/
import Derived.Test.YtdpoimomipdgjaaDoorRRound06
import Derived.Test.YtdpoimomipdgjaaDoorRFacts06
import Derived.Test.YtdpoimomipdgjaaDoorRAwake06
namespace Go.Proofs.YtdpoimomipdgjaaDoor.X
open Go Go.RX Go.RowKit Go.Proofs
set_option linter.unusedVariables false
set_option linter.unusedSimpArgs false
/-- The bytes of the first k messages. -/
def lenM (l : List Msg) : Nat → Nat
  | 0 => 0
  | k + 1 => lenM l k + (12 + (l.getD k d_msg).data.size)
theorem catB_size (l : List Msg) (hl : ∀ x ∈ l, msgR x = true) : ∀ k, k ≤ l.length → (catB (l.take k)).size = lenM l k
  | 0, _ => rfl
  | k + 1, hk => by
    have hlt : k < l.length := by omega
    have hg : l.getD k d_msg = l[k] := by rw [List.getD_eq_getElem?_getD, List.getElem?_eq_getElem hlt]; rfl
    rw [List.take_succ_eq_append_getElem hlt, catB_app, ByteArray.size_append, catB_size l hl k (by omega), lenM, hg]
    congr 1
    show (encB l[k] ++ ByteArray.empty).size = _
    rw [app_emp, encB_size_is (hl _ (List.getElem_mem hlt))]
theorem entR_msgs {t ep mb : Int} {incs : List Int} {ms : List Msg} (h : entR t ep mb incs ms = true) : ∀ x ∈ ms, msgR x = true := fun x hx => by
  obtain ⟨i, hi, rfl⟩ := List.getElem_of_mem hx
  have hR := h
  unfold entR at hR
  have := entM_is (List.all_eq_true.mp (Bool.and_eq_true_iff.mp hR).2 i (List.mem_range.mpr hi))
  rwa [List.getD_eq_getElem?_getD, List.getElem?_eq_getElem hi] at this
theorem entB_size {t ep mb : Int} {incs : List Int} {ms : List Msg} (h : entR t ep mb incs ms = true) : (entB t ep mb incs ms).size = 7 + 2 * incs.length + lenM ms ms.length := by
  have o1 : ∀ y : Int, (strOfNums [y]).size = 1 := fun y => by rw [strOfNums_size]; rfl
  have hc := catB_size ms (entR_msgs h) ms.length (Nat.le_refl _)
  rw [List.take_length] at hc
  rw [entB_parts h]
  simp only [ByteArray.size_append, twoB_size, o1, catI_size, hc]
  omega
theorem lenM_le (l : List Msg) (hl : ∀ x ∈ l, msgR x = true) : ∀ k, k ≤ l.length → lenM l k ≤ 20 * k
  | 0, _ => Nat.le_refl _
  | k + 1, hk => by
    have hlt : k < l.length := by omega
    have hg : l.getD k d_msg = l[k] := by rw [List.getD_eq_getElem?_getD, List.getElem?_eq_getElem hlt]; rfl
    have h1 := lenM_le l hl k (by omega)
    have h2 := (msgR_is (hl _ (List.getElem_mem hlt))).2.2.2.2.2
    rw [lenM, hg]; omega
theorem entB_same {t ep mb t' ep' mb' : Int} {incs incs' : List Int} {ms ms' : List Msg} (h : entR t ep mb incs ms = true) (h' : entR t' ep' mb' incs' ms' = true) :
    (entB t ep mb incs ms == entB t' ep' mb' incs' ms') = (decide (t = t') && decide (ep = ep') && decide (mb = mb') && intsEq incs incs' && msgsEq ms ms') := by
  rw [ba_beq]
  by_cases c : t = t' ∧ ep = ep' ∧ mb = mb' ∧ incs = incs' ∧ ms = ms'
  · obtain ⟨rfl, rfl, rfl, rfl, rfl⟩ := c
    simp [intsEq, msgsEq]
  · rw [decide_eq_false (fun e => c ?_)]
    · symm
      rw [Bool.eq_false_iff]
      intro q
      simp only [intsEq, msgsEq, Bool.and_eq_true, decide_eq_true_eq] at q
      exact c ⟨q.1.1.1.1, q.1.1.1.2, q.1.1.2, q.1.2, q.2⟩
    · obtain ⟨_, a1, a2, a3, a4, a5, _⟩ := dec_ent h .empty _ (app_emp _).symm
      obtain ⟨_, b1, b2, b3, b4, b5, _⟩ := dec_ent h' .empty _ (app_emp _).symm
      rw [e] at a1 a2 a3 a4 a5
      exact ⟨a1.symm.trans b1, a2.symm.trans b2, a3.symm.trans b3, a4.symm.trans b4, a5.symm.trans b5⟩
theorem edI_length (s : ByteArray) : (edI s).length ≤ 16 := by
  unfold edI
  split
  · unfold edI0; rw [List.length_map, List.length_range]; exact vl_length _ 16
  · exact Nat.zero_le _
theorem edL_length (s : ByteArray) : (edL s).length ≤ 256 := by
  have rM := bt_range s (6 + 2 * (edN s : Int))
  have rM : 0 ≤ edM s ∧ edM s < 256 := rM
  unfold edL
  split
  · rw [edSm_length]; omega
  · exact Nat.zero_le _
def Lengths_S : RX.Spec U := fun
  | [⟨true, [.v (.int .i64 a), .v (.int .i64 b), .v (.int .i64 c)]⟩, ⟨true, [.v (.int .i64 (a')), .v (.int .i64 (b')), .v (.int .i64 (c'))]⟩, ⟨false, [.sl .int incs]⟩, ⟨false, [.sl .a6 raw]⟩, ⟨false, [.sl .a6 other]⟩] => some ⟨some ((in64 a ∧ in64 b ∧ in64 c ∧ in64 a' ∧ in64 b' ∧ in64 c' ∧ (∀ r ∈ incs, in64 r) ∧ (∀ r ∈ raw, okA6 r) ∧ (∀ r ∈ other, okA6 r))), (.one ⟨false, [.v (.bool true)]⟩)⟩
  | _ => none

theorem Lengths_ok : ConOk Tryd.prog U GV 6 Lengths_S :=
  fn_go gs ty glok (conCons awake06_ok (conCons mkEntry_ok (conCons eEncode_ok (conCons rSame_ok conNil)))) Tryd.func6 (by kernel_rfl) fun ds r hg hp => by
    unfold Lengths_S at hg
    split at hg
    · rename_i a b c a' b' c' incs raw other
      obtain ⟨incs, rfl⟩ : ∃ q_ : List Int, q_ = incs := ⟨incs, rfl⟩
      obtain ⟨raw, rfl⟩ : ∃ q_ : List A6, q_ = raw := ⟨raw, rfl⟩
      obtain ⟨other, rfl⟩ : ∃ q_ : List A6, q_ = other := ⟨other, rfl⟩
      cases hg
      replace hp : ((in64 a ∧ in64 b ∧ in64 c ∧ in64 a' ∧ in64 b' ∧ in64 c' ∧ (∀ r ∈ incs, in64 r) ∧ (∀ r ∈ raw, okA6 r) ∧ (∀ r ∈ other, okA6 r))) := hp
      refine ⟨fun st key => if key = 8 then some { N := (eL c incs raw).length, mods := fun k => [.tv 19 (.int .i64 (k : Int)), .tv 18 (.int .i64 (7 + 2 * (eI c incs).length + lenM (eL c incs raw) k : Int))] } else none, (((-9223372036854775808 : Int) ≤ a ∧ a ≤ (9223372036854775807 : Int)) ∧ ((-9223372036854775808 : Int) ≤ b ∧ b ≤ (9223372036854775807 : Int)) ∧ ((-9223372036854775808 : Int) ≤ c ∧ c ≤ (9223372036854775807 : Int)) ∧ (∀ (r : Int), List.Mem r incs → (-9223372036854775808 : Int) ≤ r ∧ r ≤ (9223372036854775807 : Int)) ∧ ∀ (r : Uni.T U Kind.a6), List.Mem r raw → ((-9223372036854775808 : Int) ≤ A6.a r ∧ A6.a r ≤ (9223372036854775807 : Int)) ∧ ((-9223372036854775808 : Int) ≤ A6.b r ∧ A6.b r ≤ (9223372036854775807 : Int)) ∧ ((-9223372036854775808 : Int) ≤ A6.c r ∧ A6.c r ≤ (9223372036854775807 : Int)) ∧ ((-9223372036854775808 : Int) ≤ A6.d r ∧ A6.d r ≤ (9223372036854775807 : Int)) ∧ ((-9223372036854775808 : Int) ≤ A6.e r ∧ A6.e r ≤ (9223372036854775807 : Int)) ∧ (-9223372036854775808 : Int) ≤ A6.f r ∧ A6.f r ≤ (9223372036854775807 : Int)) ∧ (((-9223372036854775808 : Int) ≤ a' ∧ a' ≤ (9223372036854775807 : Int)) ∧ ((-9223372036854775808 : Int) ≤ b' ∧ b' ≤ (9223372036854775807 : Int)) ∧ ((-9223372036854775808 : Int) ≤ c' ∧ c' ≤ (9223372036854775807 : Int)) ∧ (∀ (r : Int), List.Mem r incs → (-9223372036854775808 : Int) ≤ r ∧ r ≤ (9223372036854775807 : Int)) ∧ ∀ (r : Uni.T U Kind.a6), List.Mem r other → ((-9223372036854775808 : Int) ≤ A6.a r ∧ A6.a r ≤ (9223372036854775807 : Int)) ∧ ((-9223372036854775808 : Int) ≤ A6.b r ∧ A6.b r ≤ (9223372036854775807 : Int)) ∧ ((-9223372036854775808 : Int) ≤ A6.c r ∧ A6.c r ≤ (9223372036854775807 : Int)) ∧ ((-9223372036854775808 : Int) ≤ A6.d r ∧ A6.d r ≤ (9223372036854775807 : Int)) ∧ ((-9223372036854775808 : Int) ≤ A6.e r ∧ A6.e r ≤ (9223372036854775807 : Int)) ∧ (-9223372036854775808 : Int) ≤ A6.f r ∧ A6.f r ≤ (9223372036854775807 : Int)) ∧ (List.length (eI c incs) ≤ (1000000 : Nat) ∧ List.length (eL c incs raw) ≤ (1000000 : Nat)) ∧ (List.length (eI c' incs) ≤ (1000000 : Nat) ∧ List.length (eL c' incs other) ≤ (1000000 : Nat)) ∧ True ∧ (Value.int IntKind.i64 (0 : Int) = Value.int IntKind.i64 (0 : Int) ∧ Value.int IntKind.i64 (wrap64 ((7 : Int) + wrap64 ((2 : Int) * (↑(List.length (eI c incs)) : Int)))) = Value.int IntKind.i64 ((7 : Int) + (2 : Int) * (↑(List.length (eI c incs)) : Int) + (↑(lenM (eL c incs raw) (0 : Nat)) : Int))) ∧ ∀ (k : Nat), k ≤ List.length (eL c incs raw) → True → (decide ((↑k : Int) < (↑(List.length (eL c incs raw)) : Int)) = true → ((0 : Int) ≤ (↑k : Int) ∧ (↑k : Int) < (↑(List.length (eL c incs raw)) : Int)) ∧ k < List.length (eL c incs raw) ∧ True ∧ Value.int IntKind.i64 (wrap64 ((↑k : Int) + (1 : Int))) = Value.int IntKind.i64 (↑(k + (1 : Nat)) : Int) ∧ Value.int IntKind.i64 (wrap64 (wrap64 ((7 : Int) + (2 : Int) * (↑(List.length (eI c incs)) : Int) + (↑(lenM (eL c incs raw) k) : Int) + (12 : Int)) + (↑(ByteArray.size (Msg.data (List.getD (eL c incs raw) (Int.toNat (↑k : Int)) (d_msg)))) : Int))) = Value.int IntKind.i64 ((7 : Int) + (2 : Int) * (↑(List.length (eI c incs)) : Int) + (↑(lenM (eL c incs raw) (k + (1 : Nat))) : Int))) ∧ (decide ((↑k : Int) < (↑(List.length (eL c incs raw)) : Int)) = false → ((true && errI (entR (eT a) (eT b) (pickI c (65536 : Int)) (eI c incs) (eL c incs raw)) (1 : Int) == (0 : Int) && errI (entR (eT a') (eT b') (pickI c' (65536 : Int)) (eI c' incs) (eL c' incs other)) (1 : Int) == (0 : Int) && (↑(ByteArray.size (entB (eT a) (eT b) (pickI c (65536 : Int)) (eI c incs) (eL c incs raw))) : Int) == (7 : Int) + (2 : Int) * (↑(List.length (eI c incs)) : Int) + (↑(lenM (eL c incs raw) k) : Int)) = true → List.length (eI c incs) ≤ (1000000 : Nat) ∧ List.length (eL c incs raw) ≤ (1000000 : Nat)) ∧ Out.one (U := U) (D.mk false [CV.v (Value.bool (true && errI (entR (eT a) (eT b) (pickI c (65536 : Int)) (eI c incs) (eL c incs raw)) (1 : Int) == (0 : Int) && errI (entR (eT a') (eT b') (pickI c' (65536 : Int)) (eI c' incs) (eL c' incs other)) (1 : Int) == (0 : Int) && (↑(ByteArray.size (entB (eT a) (eT b) (pickI c (65536 : Int)) (eI c incs) (eL c incs raw))) : Int) == (7 : Int) + (2 : Int) * (↑(List.length (eI c incs)) : Int) + (↑(lenM (eL c incs raw) k) : Int) && (entB (eT a) (eT b) (pickI c (65536 : Int)) (eI c incs) (eL c incs raw) == entB (eT a') (eT b') (pickI c' (65536 : Int)) (eI c' incs) (eL c' incs other)) == (decide (eT a = eT a') && decide (eT b = eT b') && decide (pickI c (65536 : Int) = pickI c' (65536 : Int)) && intsEq (eI c incs) (eI c' incs) && msgsEq (eL c incs raw) (eL c' incs other))))]) = Out.one (U := U) (D.mk false [CV.v (Value.bool true)])), by kernel_rfl, ?_⟩
      obtain ⟨p1, p2, p3, p4, p5, p6, p7, p8, p9⟩ := hp
      have hA := mk_entR a b c incs raw
      have hB := mk_entR a' b' c' incs other
      rw [hA, hB]
      have hIA := (entR_is hA).2.2.2.1
      have hIB := (entR_is hB).2.2.2.1
      have hvA := vl_length (pickI c 65536) 16
      have hvB := vl_length (pickI c' 65536) 16
      have hLA := entR_few hA
      have hLB := entR_few hB
      have hsz := entB_size hA
      have hsame := entB_same hA hB
      have hms := entR_msgs hA
      rw [hsame, hsz]
      clear hsame hsz hA hB
      revert hIA hIB hvA hvB hLA hLB hms
      generalize eL c incs raw = L
      generalize eL c' incs other = L'
      generalize eI c incs = I
      generalize eI c' incs = I'
      generalize (decide (eT a = eT a') && decide (eT b = eT b') && decide (pickI c 65536 = pickI c' 65536) && intsEq I I' && msgsEq L L') = eq
      intro hIA hIB hvA hvB hLA hLB hms
      have hle := lenM_le L hms
      refine ⟨⟨p1, p2, p3, p7, p8⟩, ⟨p4, p5, p6, p7, p9⟩, ⟨by omega, by omega⟩, ⟨by omega, by omega⟩, trivial, ⟨rfl, ?_⟩, fun k hk _ => ⟨fun hlt => ?_, fun hge => ?_⟩⟩
      · rw [w64 (x := (2 : Int) * (I.length : Int)) (by omega), w64 (by omega)]
        show _ = Value.int IntKind.i64 (7 + 2 * (I.length : Int) + ((0 : Nat) : Int))
        rw [show (7 : Int) + 2 * (I.length : Int) + ((0 : Nat) : Int) = 7 + 2 * (I.length : Int) by omega]
      · have hlt : k < L.length := by have := of_decide_eq_true hlt; omega
        have h1 := hle k (by omega)
        have h2 := hle (k + 1) (by omega)
        have h3 : lenM L (k + 1) = lenM L k + (12 + (L.getD k d_msg).data.size) := rfl
        rw [show L.getD (Int.toNat (k : Int)) d_msg = L.getD k d_msg from rfl]
        refine ⟨⟨by omega, by omega⟩, hlt, trivial, by rw [w64 (by omega)]; rfl, ?_⟩
        rw [w64 (x := 7 + 2 * (I.length : Int) + (lenM L k : Int) + 12) (by omega), w64 (by omega)]
        congr 1
        omega
      · have hge := of_decide_eq_false hge
        have hkl : k = L.length := by omega
        subst hkl
        refine ⟨fun _ => ⟨by omega, by omega⟩, ?_⟩
        have e1 : (((7 + 2 * I.length + lenM L L.length : Nat) : Int) == (7 : Int) + 2 * (I.length : Int) + (lenM L L.length : Int)) = true := by
          rw [beq_iff_eq]; omega
        rw [e1]
        simp only [Out.one.injEq, Out.tup.injEq, D.mk.injEq, List.cons.injEq, CV.v.injEq, CV.sl.injEq, Value.bool.injEq, Value.int.injEq, Value.string.injEq, and_true, true_and, heq_eq_eq]
        cases eq <;> rfl
    · cases hg

end Go.Proofs.YtdpoimomipdgjaaDoor.X
