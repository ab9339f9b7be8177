/- Entries, one behind the other, are decoded one by one; cut in the last one they are too short. -/
import Derived.Test.YtdpoimomipdgjaaDoorRBack06
import Derived.Test.YtdpoimomipdgjaaDoorRLlen06
namespace Go.Proofs.YtdpoimomipdgjaaDoor.X
open Go Go.RX Go.RowKit Go.Proofs
set_option linter.unusedVariables false
set_option linter.unusedSimpArgs false
set_option maxHeartbeats 8000000
/-- The bytes of an entry out of raw numbers; of some, one behind the other. -/
def enB (incs : List Int) (raw : List A6) (x : A3) : ByteArray := entB (eT x.a) (eT x.b) (pickI x.c 65536) (eI x.c incs) (eL x.c incs raw)
def catE (incs : List Int) (raw : List A6) : List A3 → ByteArray
  | [] => .empty
  | x :: l => enB incs raw x ++ catE incs raw l
def rowN (n : List A3) : Nat := if n.length < 5 then n.length else 5
def okA3 (x : A3) : Prop := in64 x.a ∧ in64 x.b ∧ in64 x.c
theorem toNat_lt_of {x : Int} {m : Nat} (h : 0 ≤ x ∧ x < (m : Int)) : x.toNat < m := by omega
theorem last_is {k n : Nat} (h : ((k : Int) == (n : Int) - 1) = true) : k + 1 = n := by have := eq_of_beq h; omega
theorem catE_app (incs : List Int) (raw : List A6) (l m : List A3) : catE incs raw (l ++ m) = catE incs raw l ++ catE incs raw m := by
  induction l with
  | nil => exact (emp_app _).symm
  | cons x l ih => rw [List.cons_append, catE, ih, catE, ByteArray.append_assoc]
theorem enB_size (incs : List Int) (raw : List A6) (x : A3) : 7 ≤ (enB incs raw x).size ∧ (enB incs raw x).size ≤ 400 := by
  have hA := mk_entR x.a x.b x.c incs raw
  have hI := (entR_is hA).2.2.2.1
  have hv := vl_length (pickI x.c 65536) 16
  have hL := entR_few hA
  have hsz := entB_size hA
  have hle := lenM_le _ (entR_msgs hA) _ (Nat.le_refl _)
  unfold enB
  omega
theorem catE_size (incs : List Int) (raw : List A6) : ∀ l : List A3, (catE incs raw l).size ≤ 400 * l.length
  | [] => Nat.zero_le _
  | x :: l => by
    have h1 := enB_size incs raw x
    have h2 := catE_size incs raw l
    rw [catE, ByteArray.size_append, List.length_cons]; omega
def Rows6_S : RX.Spec U := fun
  | [⟨false, [.sl .a3 n]⟩, ⟨false, [.sl .int incs]⟩, ⟨false, [.sl .a6 raw]⟩, ⟨false, [.v (.int .i64 k0)]⟩] => some ⟨some (((∀ x ∈ n, okA3 x) ∧ (∀ r ∈ incs, in64 r) ∧ (∀ r ∈ raw, okA6 r) ∧ in64 k0)), (.one ⟨false, [.v (.bool true)]⟩)⟩
  | _ => none

theorem Rows6_ok : ConOk Tryd.prog U GV 8 Rows6_S :=
  fn_go gs ty glok (conCons awake06_ok (conCons mkEntry_ok (conCons eEncode_ok (conCons eDecode_ok (conCons rSame_ok (conCons pick06_ok conNil)))))) Tryd.func8 (by kernel_rfl) fun ds r hg hp => by
    unfold Rows6_S at hg
    split at hg
    · rename_i n incs raw k0
      obtain ⟨n, rfl⟩ : ∃ q_ : List A3, q_ = n := ⟨n, rfl⟩
      obtain ⟨incs, rfl⟩ : ∃ q_ : List Int, q_ = incs := ⟨incs, rfl⟩
      obtain ⟨raw, rfl⟩ : ∃ q_ : List A6, q_ = raw := ⟨raw, rfl⟩
      cases hg
      replace hp : (((∀ x ∈ n, okA3 x) ∧ (∀ r ∈ incs, in64 r) ∧ (∀ r ∈ raw, okA6 r) ∧ in64 k0)) := hp
      refine ⟨fun st key => if key = 5 then some { N := rowN n, mods := fun k => [.tv 12 (.int .i64 (k : Int)), .tv 11 (.string (catE incs raw (n.take k)))] } else if key = 12 then some { N := rowN n, mods := fun k => [.tv 15 (.int .i64 (k : Int)), .tv 11 (.string (catE incs raw ((n.take (rowN n)).drop k)))] } else none, True ∧ (Value.int IntKind.i64 (0 : Int) = Value.int IntKind.i64 (0 : Int) ∧ Value.string (ByteArray.mk (Array.mk [])) = Value.string (catE incs raw (List.take (0 : Nat) n))) ∧ ∀ (k : Nat), k ≤ rowN n → True → (decide ((↑k : Int) < if (5 : Int) < (↑(List.length n) : Int) then (5 : Int) else (↑(List.length n) : Int)) = true → ((0 : Int) ≤ (↑k : Int) ∧ (↑k : Int) < (↑(List.length n) : Int)) ∧ (((-9223372036854775808 : Int) ≤ A3.a (List.getD n (Int.toNat (↑k : Int)) (d_a3)) ∧ A3.a (List.getD n (Int.toNat (↑k : Int)) (d_a3)) ≤ (9223372036854775807 : Int)) ∧ ((-9223372036854775808 : Int) ≤ A3.b (List.getD n (Int.toNat (↑k : Int)) (d_a3)) ∧ A3.b (List.getD n (Int.toNat (↑k : Int)) (d_a3)) ≤ (9223372036854775807 : Int)) ∧ ((-9223372036854775808 : Int) ≤ A3.c (List.getD n (Int.toNat (↑k : Int)) (d_a3)) ∧ A3.c (List.getD n (Int.toNat (↑k : Int)) (d_a3)) ≤ (9223372036854775807 : Int)) ∧ (∀ (r : Int), List.Mem r incs → (-9223372036854775808 : Int) ≤ r ∧ r ≤ (9223372036854775807 : Int)) ∧ ∀ (r : Uni.T U Kind.a6), List.Mem r raw → ((-9223372036854775808 : Int) ≤ A6.a r ∧ A6.a r ≤ (9223372036854775807 : Int)) ∧ ((-9223372036854775808 : Int) ≤ A6.b r ∧ A6.b r ≤ (9223372036854775807 : Int)) ∧ ((-9223372036854775808 : Int) ≤ A6.c r ∧ A6.c r ≤ (9223372036854775807 : Int)) ∧ ((-9223372036854775808 : Int) ≤ A6.d r ∧ A6.d r ≤ (9223372036854775807 : Int)) ∧ ((-9223372036854775808 : Int) ≤ A6.e r ∧ A6.e r ≤ (9223372036854775807 : Int)) ∧ (-9223372036854775808 : Int) ≤ A6.f r ∧ A6.f r ≤ (9223372036854775807 : Int)) ∧ (List.length (eI (A3.c (List.getD n (Int.toNat (↑k : Int)) (d_a3))) incs) ≤ (1000000 : Nat) ∧ List.length (eL (A3.c (List.getD n (Int.toNat (↑k : Int)) (d_a3))) incs raw) ≤ (1000000 : Nat)) ∧ ((errI (entR (eT (A3.a (List.getD n (Int.toNat (↑k : Int)) (d_a3)))) (eT (A3.b (List.getD n (Int.toNat (↑k : Int)) (d_a3)))) (pickI (A3.c (List.getD n (Int.toNat (↑k : Int)) (d_a3))) (65536 : Int)) (eI (A3.c (List.getD n (Int.toNat (↑k : Int)) (d_a3))) incs) (eL (A3.c (List.getD n (Int.toNat (↑k : Int)) (d_a3))) incs raw)) (1 : Int) != (0 : Int)) = true → Out.one (U := U) (D.mk false [CV.v (Value.bool false)]) = Out.one (U := U) (D.mk false [CV.v (Value.bool true)])) ∧ ((errI (entR (eT (A3.a (List.getD n (Int.toNat (↑k : Int)) (d_a3)))) (eT (A3.b (List.getD n (Int.toNat (↑k : Int)) (d_a3)))) (pickI (A3.c (List.getD n (Int.toNat (↑k : Int)) (d_a3))) (65536 : Int)) (eI (A3.c (List.getD n (Int.toNat (↑k : Int)) (d_a3))) incs) (eL (A3.c (List.getD n (Int.toNat (↑k : Int)) (d_a3))) incs raw)) (1 : Int) != (0 : Int)) = false → ByteArray.size (catE incs raw (List.take k n)) + ByteArray.size (entB (eT (A3.a (List.getD n (Int.toNat (↑k : Int)) (d_a3)))) (eT (A3.b (List.getD n (Int.toNat (↑k : Int)) (d_a3)))) (pickI (A3.c (List.getD n (Int.toNat (↑k : Int)) (d_a3))) (65536 : Int)) (eI (A3.c (List.getD n (Int.toNat (↑k : Int)) (d_a3))) incs) (eL (A3.c (List.getD n (Int.toNat (↑k : Int)) (d_a3))) incs raw)) ≤ (9223372036854775807 : Nat) ∧ k < rowN n ∧ True ∧ Value.int IntKind.i64 (wrap64 ((↑k : Int) + (1 : Int))) = Value.int IntKind.i64 (↑(k + (1 : Nat)) : Int) ∧ Value.string (catE incs raw (List.take k n) ++ entB (eT (A3.a (List.getD n (Int.toNat (↑k : Int)) (d_a3)))) (eT (A3.b (List.getD n (Int.toNat (↑k : Int)) (d_a3)))) (pickI (A3.c (List.getD n (Int.toNat (↑k : Int)) (d_a3))) (65536 : Int)) (eI (A3.c (List.getD n (Int.toNat (↑k : Int)) (d_a3))) incs) (eL (A3.c (List.getD n (Int.toNat (↑k : Int)) (d_a3))) incs raw)) = Value.string (catE incs raw (List.take (k + (1 : Nat)) n)))) ∧ (decide ((↑k : Int) < if (5 : Int) < (↑(List.length n) : Int) then (5 : Int) else (↑(List.length n) : Int)) = false → True ∧ (Value.int IntKind.i64 (0 : Int) = Value.int IntKind.i64 (0 : Int) ∧ Value.string (catE incs raw (List.take k n)) = Value.string (catE incs raw (List.drop (0 : Nat) (List.take (rowN n) n)))) ∧ ∀ (k : Nat), k ≤ rowN n → True → (decide ((↑k : Int) < if (5 : Int) < (↑(List.length n) : Int) then (5 : Int) else (↑(List.length n) : Int)) = true → ((!edE (catE incs raw (List.drop k (List.take (rowN n) n))) != (0 : Int)) = true → (0 : Int) ≤ (↑k : Int) ∧ (↑k : Int) < (↑(List.length n) : Int)) ∧ ((!edE (catE incs raw (List.drop k (List.take (rowN n) n))) != (0 : Int)) = true → ((-9223372036854775808 : Int) ≤ A3.a (List.getD n (Int.toNat (↑k : Int)) (d_a3)) ∧ A3.a (List.getD n (Int.toNat (↑k : Int)) (d_a3)) ≤ (9223372036854775807 : Int)) ∧ ((-9223372036854775808 : Int) ≤ A3.b (List.getD n (Int.toNat (↑k : Int)) (d_a3)) ∧ A3.b (List.getD n (Int.toNat (↑k : Int)) (d_a3)) ≤ (9223372036854775807 : Int)) ∧ ((-9223372036854775808 : Int) ≤ A3.c (List.getD n (Int.toNat (↑k : Int)) (d_a3)) ∧ A3.c (List.getD n (Int.toNat (↑k : Int)) (d_a3)) ≤ (9223372036854775807 : Int)) ∧ (∀ (r : Int), List.Mem r incs → (-9223372036854775808 : Int) ≤ r ∧ r ≤ (9223372036854775807 : Int)) ∧ ∀ (r : Uni.T U Kind.a6), List.Mem r raw → ((-9223372036854775808 : Int) ≤ A6.a r ∧ A6.a r ≤ (9223372036854775807 : Int)) ∧ ((-9223372036854775808 : Int) ≤ A6.b r ∧ A6.b r ≤ (9223372036854775807 : Int)) ∧ ((-9223372036854775808 : Int) ≤ A6.c r ∧ A6.c r ≤ (9223372036854775807 : Int)) ∧ ((-9223372036854775808 : Int) ≤ A6.d r ∧ A6.d r ≤ (9223372036854775807 : Int)) ∧ ((-9223372036854775808 : Int) ≤ A6.e r ∧ A6.e r ≤ (9223372036854775807 : Int)) ∧ (-9223372036854775808 : Int) ≤ A6.f r ∧ A6.f r ≤ (9223372036854775807 : Int)) ∧ ((!edE (catE incs raw (List.drop k (List.take (rowN n) n))) != (0 : Int)) = true → List.length (edI (catE incs raw (List.drop k (List.take (rowN n) n)))) ≤ (1000000 : Nat) ∧ List.length (edL (catE incs raw (List.drop k (List.take (rowN n) n)))) ≤ (1000000 : Nat)) ∧ ((edE (catE incs raw (List.drop k (List.take (rowN n) n))) != (0 : Int) || !(decide (edT (catE incs raw (List.drop k (List.take (rowN n) n))) (0 : Int) = eT (A3.a (List.getD n (Int.toNat (↑k : Int)) (d_a3)))) && decide (edT (catE incs raw (List.drop k (List.take (rowN n) n))) (2 : Int) = eT (A3.b (List.getD n (Int.toNat (↑k : Int)) (d_a3)))) && decide (edT (catE incs raw (List.drop k (List.take (rowN n) n))) (4 : Int) = pickI (A3.c (List.getD n (Int.toNat (↑k : Int)) (d_a3))) (65536 : Int)) && intsEq (edI (catE incs raw (List.drop k (List.take (rowN n) n)))) (if (!edE (catE incs raw (List.drop k (List.take (rowN n) n))) != (0 : Int)) = true then eI (A3.c (List.getD n (Int.toNat (↑k : Int)) (d_a3))) incs else []) && msgsEq (edL (catE incs raw (List.drop k (List.take (rowN n) n)))) (if (!edE (catE incs raw (List.drop k (List.take (rowN n) n))) != (0 : Int)) = true then eL (A3.c (List.getD n (Int.toNat (↑k : Int)) (d_a3))) incs raw else []))) = true → Out.one (U := U) (D.mk false [CV.v (Value.bool false)]) = Out.one (U := U) (D.mk false [CV.v (Value.bool true)])) ∧ ((edE (catE incs raw (List.drop k (List.take (rowN n) n))) != (0 : Int) || !(decide (edT (catE incs raw (List.drop k (List.take (rowN n) n))) (0 : Int) = eT (A3.a (List.getD n (Int.toNat (↑k : Int)) (d_a3)))) && decide (edT (catE incs raw (List.drop k (List.take (rowN n) n))) (2 : Int) = eT (A3.b (List.getD n (Int.toNat (↑k : Int)) (d_a3)))) && decide (edT (catE incs raw (List.drop k (List.take (rowN n) n))) (4 : Int) = pickI (A3.c (List.getD n (Int.toNat (↑k : Int)) (d_a3))) (65536 : Int)) && intsEq (edI (catE incs raw (List.drop k (List.take (rowN n) n)))) (if (!edE (catE incs raw (List.drop k (List.take (rowN n) n))) != (0 : Int)) = true then eI (A3.c (List.getD n (Int.toNat (↑k : Int)) (d_a3))) incs else []) && msgsEq (edL (catE incs raw (List.drop k (List.take (rowN n) n)))) (if (!edE (catE incs raw (List.drop k (List.take (rowN n) n))) != (0 : Int)) = true then eL (A3.c (List.getD n (Int.toNat (↑k : Int)) (d_a3))) incs raw else []))) = false → (((↑k : Int) == wrap64 ((if (5 : Int) < (↑(List.length n) : Int) then (5 : Int) else (↑(List.length n) : Int)) - (1 : Int))) = true → (((-9223372036854775808 : Int) ≤ k0 ∧ k0 ≤ (9223372036854775807 : Int)) ∧ ((0 : Int) < if (1 : Int) > (↑(ByteArray.size (catE incs raw (List.drop k (List.take (rowN n) n)))) : Int) then (1 : Int) else (↑(ByteArray.size (catE incs raw (List.drop k (List.take (rowN n) n)))) : Int)) ∧ (if (1 : Int) > (↑(ByteArray.size (catE incs raw (List.drop k (List.take (rowN n) n)))) : Int) then (1 : Int) else (↑(ByteArray.size (catE incs raw (List.drop k (List.take (rowN n) n)))) : Int)) ≤ (1000000000 : Int)) ∧ ((0 : Int) ≤ pickI k0 (if (1 : Int) > (↑(ByteArray.size (catE incs raw (List.drop k (List.take (rowN n) n)))) : Int) then (1 : Int) else (↑(ByteArray.size (catE incs raw (List.drop k (List.take (rowN n) n)))) : Int)) ∧ pickI k0 (if (1 : Int) > (↑(ByteArray.size (catE incs raw (List.drop k (List.take (rowN n) n)))) : Int) then (1 : Int) else (↑(ByteArray.size (catE incs raw (List.drop k (List.take (rowN n) n)))) : Int)) ≤ (↑(ByteArray.size (catE incs raw (List.drop k (List.take (rowN n) n)))) : Int)) ∧ ((edE (ByteArray.extract (catE incs raw (List.drop k (List.take (rowN n) n))) (0 : Nat) (Int.toNat (pickI k0 (if (1 : Int) > (↑(ByteArray.size (catE incs raw (List.drop k (List.take (rowN n) n)))) : Int) then (1 : Int) else (↑(ByteArray.size (catE incs raw (List.drop k (List.take (rowN n) n)))) : Int))))) != (3 : Int)) = true → Out.one (U := U) (D.mk false [CV.v (Value.bool false)]) = Out.one (U := U) (D.mk false [CV.v (Value.bool true)])) ∧ ((edE (ByteArray.extract (catE incs raw (List.drop k (List.take (rowN n) n))) (0 : Nat) (Int.toNat (pickI k0 (if (1 : Int) > (↑(ByteArray.size (catE incs raw (List.drop k (List.take (rowN n) n)))) : Int) then (1 : Int) else (↑(ByteArray.size (catE incs raw (List.drop k (List.take (rowN n) n)))) : Int))))) != (3 : Int)) = false → k < rowN n ∧ True ∧ Value.int IntKind.i64 (wrap64 ((↑k : Int) + (1 : Int))) = Value.int IntKind.i64 (↑(k + (1 : Nat)) : Int) ∧ Value.string (edR (catE incs raw (List.drop k (List.take (rowN n) n)))) = Value.string (catE incs raw (List.drop (k + (1 : Nat)) (List.take (rowN n) n))))) ∧ (((↑k : Int) == wrap64 ((if (5 : Int) < (↑(List.length n) : Int) then (5 : Int) else (↑(List.length n) : Int)) - (1 : Int))) = false → k < rowN n ∧ True ∧ Value.int IntKind.i64 (wrap64 ((↑k : Int) + (1 : Int))) = Value.int IntKind.i64 (↑(k + (1 : Nat)) : Int) ∧ Value.string (edR (catE incs raw (List.drop k (List.take (rowN n) n)))) = Value.string (catE incs raw (List.drop (k + (1 : Nat)) (List.take (rowN n) n)))))) ∧ (decide ((↑k : Int) < if (5 : Int) < (↑(List.length n) : Int) then (5 : Int) else (↑(List.length n) : Int)) = false → Out.one (U := U) (D.mk false [CV.v (Value.bool (true && catE incs raw (List.drop k (List.take (rowN n) n)) == ByteArray.mk (Array.mk [])))]) = Out.one (U := U) (D.mk false [CV.v (Value.bool true)]))), by kernel_rfl, ?_⟩
      obtain ⟨p1, p2, p3, p4⟩ := hp
      have hN : rowN n ≤ 5 ∧ rowN n ≤ n.length := by unfold rowN; split <;> omega
      have hmin : (if (5 : Int) < (n.length : Int) then (5 : Int) else (n.length : Int)) = (rowN n : Int) := by unfold rowN; split <;> split <;> omega
      rw [hmin]
      have en : ∀ x : A3, entB (eT x.a) (eT x.b) (pickI x.c 65536) (eI x.c incs) (eL x.c incs raw) = enB incs raw x := fun _ => rfl
      simp only [en, mk_entR]
      have few : ∀ x : A3, (eI x.c incs).length ≤ 1000000 ∧ (eL x.c incs raw).length ≤ 1000000 := fun x => by
        have hA := mk_entR x.a x.b x.c incs raw
        have hI := (entR_is hA).2.2.2.1
        have hv := vl_length (pickI x.c 65536) 16
        have hL := entR_few hA
        omega
      refine ⟨trivial, ⟨(by trivial), rfl⟩, fun k hk _ => ⟨fun hlt => ?_, fun hge => ?_⟩⟩
      · have hlt : k < rowN n := by have := of_decide_eq_true hlt; omega
        have hln : k < n.length := by omega
        rw [getD_at n k _ hln]
        have ok := p1 n[k] (List.getElem_mem hln)
        have hf := few n[k]
        have h1 := catE_size incs raw (n.take k)
        have h2 := enB_size incs raw n[k]
        rw [List.length_take] at h1
        refine ⟨⟨by omega, by omega⟩, ⟨ok.1, ok.2.1, ok.2.2, p2, p3⟩, hf, fun h => ?_, fun _ => ⟨?_, hlt, trivial, ?_, ?_⟩⟩
        · exfalso; revert h; simp [errI]
        · omega
        · rw [w64 (by omega)]; rfl
        · have : n.take (k + 1) = n.take k ++ [n[k]] := by rw [List.take_succ_eq_append_getElem hln]
          rw [this, catE_app]
          show _ = Value.string (catE incs raw (n.take k) ++ (enB incs raw n[k] ++ ByteArray.empty))
          rw [app_emp]
      · have hge := of_decide_eq_false hge
        have hkN : k = rowN n := by omega
        subst hkN
        refine ⟨trivial, ⟨(by trivial), rfl⟩, fun k hk _ => ⟨fun hlt => ?_, fun hge2 => ?_⟩⟩
        · have hlt : k < rowN n := by have := of_decide_eq_true hlt; omega
          have hln : k < n.length := by omega
          rw [getD_at n k _ hln]
          have ok := p1 n[k] (List.getElem_mem hln)
          have hf := few n[k]
          have hA := mk_entR n[k].a n[k].b n[k].c incs raw
          have hlt' : k < (n.take (rowN n)).length := by rw [List.length_take]; omega
          have ed : (n.take (rowN n)).drop k = n[k] :: (n.take (rowN n)).drop (k + 1) := by
            rw [List.drop_eq_getElem_cons hlt', List.getElem_take]
          have hcat : catE incs raw ((n.take (rowN n)).drop k) = enB incs raw n[k] ++ catE incs raw ((n.take (rowN n)).drop (k + 1)) := by rw [ed]; rfl
          obtain ⟨d0, d1, d2, d3, d4, d5, d6⟩ := dec_ent hA (catE incs raw ((n.take (rowN n)).drop (k + 1))) _ hcat
          rw [d0, d1, d2, d3, d4, d5, d6]
          clear d0 d1 d2 d3 d4 d5 d6
          have hes := enB_size incs raw n[k]
          have hrest : (k + 1 : Nat) = rowN n → catE incs raw ((n.take (rowN n)).drop k) = enB incs raw n[k] := fun e => by
            rw [hcat, e, List.drop_of_length_le (by rw [List.length_take]; omega)]
            exact app_emp _
          have hcs := catE_size incs raw ((n.take (rowN n)).drop k)
          rw [List.length_drop, List.length_take] at hcs
          have hge7 : 7 ≤ (catE incs raw ((n.take (rowN n)).drop k)).size := by rw [hcat, ByteArray.size_append]; omega
          have hcut : k + 1 = rowN n → ∀ q : Nat, q < (catE incs raw ((n.take (rowN n)).drop k)).size → edE ((catE incs raw ((n.take (rowN n)).drop k)).extract 0 q) = 3 := fun e q hq => by
            rw [hrest e] at hq ⊢
            exact ent_short hA q hq
          have hsz : (catE incs raw ((n.take (rowN n)).drop k)).size ≤ 2000 := by omega
          clear hcat hrest hA ed
          revert hge7 hcut hsz
          generalize catE incs raw ((n.take (rowN n)).drop k) = W
          intro hge7 hcut hsz
          have hmx : (if (1 : Int) > (W.size : Int) then (1 : Int) else (W.size : Int)) = (W.size : Int) := if_neg (by omega)
          rw [hmx]
          have hp := pickI_range k0 (W.size : Int) (by omega)
          have wN : wrap64 ((rowN n : Int) - 1) = (rowN n : Int) - 1 := w64 (by omega)
          rw [wN]
          have wk : wrap64 ((k : Int) + 1) = ((k + 1 : Nat) : Int) := by rw [w64 (by omega)]; rfl
          rw [wk]
          refine ⟨fun _ => ⟨Int.natCast_nonneg _, Int.ofNat_lt.mpr hln⟩, fun _ => ⟨ok.1, ok.2.1, ok.2.2, p2, p3⟩, fun _ => hf, fun h => ?_, fun _ => ⟨fun hl => ?_, fun _ => ⟨hlt, trivial, rfl, rfl⟩⟩⟩
          · exfalso
            revert h
            simp [intsEq, msgsEq]
          · have hl : k + 1 = rowN n := last_is hl
            rw [hcut hl (Int.toNat (pickI k0 (W.size : Int))) (toNat_lt_of hp)]
            exact ⟨⟨p4, by omega, by omega⟩, ⟨hp.1, Int.le_of_lt hp.2⟩, fun h => (by simp at h), fun _ => ⟨hlt, trivial, rfl, rfl⟩⟩
        · have hge2 := of_decide_eq_false hge2
          have hkN : k = rowN n := by omega
          rw [hkN, List.drop_of_length_le (by rw [List.length_take]; omega)]
          rfl
    · cases hg

end Go.Proofs.YtdpoimomipdgjaaDoor.X
