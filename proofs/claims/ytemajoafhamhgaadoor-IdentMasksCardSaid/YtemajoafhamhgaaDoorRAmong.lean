/- Who goes ahead of who goes ahead goes ahead. -/
import Derived.Test.YtemajoafhamhgaaDoorRPrint
namespace Go.Proofs.YtemajoafhamhgaaDoor.X
open Go Go.RX Go.RowKit Go.Proofs
set_option linter.unusedVariables false
set_option linter.unusedSimpArgs false
def awake_S : RX.Spec U := fun
  | [] => some ⟨none, (.one ⟨false, [.v (.bool true)]⟩)⟩
  | _ => none

theorem awake_ok : ConOk Tryd.prog U GV 9 awake_S := con_vals (by kernel_rfl) fun ds r hg hp => by
  unfold awake_S at hg
  split at hg
  · cases hg
    exact ⟨[], .nil, .bool true, fun F w => ⟨_, rfl, rfl, rfl⟩, fun w hw => Q.omnibuslaw02_awake.calls0 true w hw Id.awake_true⟩
  · cases hg
theorem right_pick (p : Bool) (a : Int) : right p (pickI a (lim p + 1)) = true := by
  unfold right
  refine decide_eq_true ?_
  unfold pickI
  have h : lim p = 536870911 ∨ lim p = 2047 := by cases p <;> simp [lim]
  rcases h with h | h <;> rw [h] <;> omega
theorem right_is {p : Bool} {n : Int} (h : right p n = true) : 0 ≤ n ∧ n ≤ lim p := of_decide_eq_true h
theorem key_range {e : Bool} {n : Int} (h : right e n = true) : 0 ≤ keyI e n ∧ keyI e n < 1073741824 := by
  have hb := right_is h
  unfold keyI
  rw [if_pos h]
  cases e
  · rw [if_neg (by decide)]; have : n ≤ 2047 := hb.2; omega
  · rw [if_pos rfl]; have : n ≤ 536870911 := hb.2; omega
theorem at_keyE {e : Bool} {n : Int} (h : right e n = true) : atE (keyI e n) = e := by
  have hb := right_is h
  unfold keyI atE
  rw [if_pos h]
  cases e
  · rw [if_neg (by decide)]; exact decide_eq_false (by omega)
  · rw [if_pos rfl]; exact decide_eq_true (by omega)
theorem at_keyN {e : Bool} {n : Int} (h : right e n = true) : atN (keyI e n) = n := by
  have hb := right_is h
  unfold atN
  rw [at_keyE h]
  unfold keyI
  rw [if_pos h]
  cases e
  · rw [if_neg (by decide), if_neg (by decide)]; omega
  · rw [if_pos rfl, if_pos rfl]; omega
theorem at_keyR {e : Bool} {n : Int} (h : right e n = true) : atR (keyI e n) = true := by
  unfold atR
  rw [at_keyE h, at_keyN h, h]; simp
theorem bt_nums (l : List Int) (i : Nat) (h : i < l.length) (hr : 0 ≤ l.getD i 0 ∧ l.getD i 0 < 256) : bt (strOfNums l) (i : Int) = l.getD i 0 := by
  unfold bt
  rw [Int.toNat_natCast, dif_pos (by rw [strOfNums_size]; exact h)]
  have hg : l.getD i 0 = l[i] := by rw [List.getD_eq_getElem?_getD, List.getElem?_eq_getElem h]; rfl
  rw [hg] at hr ⊢
  have e : (strOfNums l)[i]'(by rw [strOfNums_size]; exact h) = UInt8.ofNat (l[i]).toNat := by
    show (strOfNums l).data[i]'_ = _
    simp [strOfNums]
  rw [e, UInt8.toNat_ofNat', Nat.mod_eq_of_lt (by omega)]
  omega
theorem print_pv {e : Bool} {n : Int} (h : right e n = true) : pv (printB e n) = printV e n ∧ (printB e n).size = 4 := by
  have hb := right_is h
  have hv : 0 ≤ printV e n ∧ printV e n < 4294967296 := by
    unfold printV
    cases e
    · rw [if_neg (by decide)]; have : n ≤ 2047 := hb.2; omega
    · rw [if_pos rfl]; have : n ≤ 536870911 := hb.2; omega
  unfold printB
  rw [if_pos h]
  generalize printV e n = v at hv
  refine ⟨?_, by rw [strOfNums_size]; rfl⟩
  unfold pv
  have b0 := bt_nums [v / 16777216 % 256, v / 65536 % 256, v / 256 % 256, v % 256] 0 (by simp) (by show 0 ≤ v / 16777216 % 256 ∧ v / 16777216 % 256 < 256; omega)
  have b1 := bt_nums [v / 16777216 % 256, v / 65536 % 256, v / 256 % 256, v % 256] 1 (by simp) (by show 0 ≤ v / 65536 % 256 ∧ v / 65536 % 256 < 256; omega)
  have b2 := bt_nums [v / 16777216 % 256, v / 65536 % 256, v / 256 % 256, v % 256] 2 (by simp) (by show 0 ≤ v / 256 % 256 ∧ v / 256 % 256 < 256; omega)
  have b3 := bt_nums [v / 16777216 % 256, v / 65536 % 256, v / 256 % 256, v % 256] 3 (by simp) (by show 0 ≤ v % 256 ∧ v % 256 < 256; omega)
  rw [show ((0 : Nat) : Int) = 0 from rfl, show [v / 16777216 % 256, v / 65536 % 256, v / 256 % 256, v % 256].getD 0 0 = v / 16777216 % 256 from rfl] at b0
  rw [show ((1 : Nat) : Int) = 1 from rfl, show [v / 16777216 % 256, v / 65536 % 256, v / 256 % 256, v % 256].getD 1 0 = v / 65536 % 256 from rfl] at b1
  rw [show ((2 : Nat) : Int) = 2 from rfl, show [v / 16777216 % 256, v / 65536 % 256, v / 256 % 256, v % 256].getD 2 0 = v / 256 % 256 from rfl] at b2
  rw [show ((3 : Nat) : Int) = 3 from rfl, show [v / 16777216 % 256, v / 65536 % 256, v / 256 % 256, v % 256].getD 3 0 = v % 256 from rfl] at b3
  rw [b0, b1, b2, b3]
  omega
theorem parse_printE {e : Bool} {n : Int} (h : right e n = true) : parseE (printB e n) = e := by
  have hb := right_is h
  unfold parseE
  rw [(print_pv h).1]
  unfold printV
  cases e
  · rw [if_neg (by decide)]; have : n ≤ 2047 := hb.2; exact decide_eq_false (by omega)
  · rw [if_pos rfl]; exact decide_eq_true (by omega)
theorem parse_printN {e : Bool} {n : Int} (h : right e n = true) : parseN (printB e n) = n := by
  have hb := right_is h
  unfold parseN
  rw [(print_pv h).1]
  unfold printV
  cases e
  · rw [if_neg (by decide)]; have : n ≤ 2047 := hb.2; omega
  · rw [if_pos rfl]; have : n ≤ 536870911 := hb.2; omega
theorem parse_printX {e : Bool} {n : Int} (h : right e n = true) : parseX (printB e n) = 0 := by
  unfold parseX
  rw [(print_pv h).2, if_neg (by decide), if_neg (by decide), parse_printE h, parse_printN h, if_pos h]
theorem parse_printB {e : Bool} {n : Int} (h : right e n = true) : parseB (printB e n) = true := by
  unfold parseB; rw [parse_printX h]; rfl
def Among_S : RX.Spec U := fun
  | [⟨true, [.v (.int .i64 a), .v (.int .i64 b), .v (.int .i64 c)]⟩, ⟨true, [.v (.bool p), .v (.bool q), .v (.bool r)]⟩, ⟨true, [.v (.bool e), .v (.int .i64 n)]⟩] => some ⟨some (in64 a ∧ in64 b ∧ in64 c), (.one ⟨false, [.v (.bool true)]⟩)⟩
  | _ => none

theorem Among_ok : ConOk Tryd.prog U GV 8 Among_S :=
  fn_go gs (fun _ _ => none) ty (conCons awake_ok (conCons Ident_ok (conCons Less_ok (conCons Right_ok conNil)))) Tryd.func8 (by kernel_rfl) fun ds r hg hp => by
    unfold Among_S at hg
    split at hg
    · rename_i a b c p q r e n
      cases hg
      replace hp : (in64 a ∧ in64 b ∧ in64 c) := hp
      refine ⟨((0 : Int) ≤ (0 : Int) ∧ (0 : Int) < (↑(3 : Nat) : Int)) ∧ ((0 : Int) ≤ (0 : Int) ∧ (0 : Int) < (↑(3 : Nat) : Int)) ∧ ((-9223372036854775808 : Int) ≤ a ∧ a ≤ (9223372036854775807 : Int)) ∧ ((0 : Int) ≤ (1 : Int) ∧ (1 : Int) < (↑(3 : Nat) : Int)) ∧ ((0 : Int) ≤ (1 : Int) ∧ (1 : Int) < (↑(3 : Nat) : Int)) ∧ ((-9223372036854775808 : Int) ≤ b ∧ b ≤ (9223372036854775807 : Int)) ∧ ((0 : Int) ≤ (2 : Int) ∧ (2 : Int) < (↑(3 : Nat) : Int)) ∧ ((0 : Int) ≤ (2 : Int) ∧ (2 : Int) < (↑(3 : Nat) : Int)) ∧ ((-9223372036854775808 : Int) ≤ c ∧ c ≤ (9223372036854775807 : Int)) ∧ ((right p (pickI a (lim p + (1 : Int))) && right q (pickI b (lim q + (1 : Int))) && decide (keyI p (pickI a (lim p + (1 : Int))) < keyI q (pickI b (lim q + (1 : Int)))) && (right q (pickI b (lim q + (1 : Int))) && right r (pickI c (lim r + (1 : Int))) && decide (keyI q (pickI b (lim q + (1 : Int))) < keyI r (pickI c (lim r + (1 : Int))))) && !(right p (pickI a (lim p + (1 : Int))) && right r (pickI c (lim r + (1 : Int))) && decide (keyI p (pickI a (lim p + (1 : Int))) < keyI r (pickI c (lim r + (1 : Int))))) || right p (pickI a (lim p + (1 : Int))) && right p (pickI a (lim p + (1 : Int))) && decide (keyI p (pickI a (lim p + (1 : Int))) < keyI p (pickI a (lim p + (1 : Int))))) = true → Out.one (U := U) { agg := false, cs := [CV.v (Value.bool false)] } = Out.one (U := U) { agg := false, cs := [CV.v (Value.bool true)] }) ∧ ((right p (pickI a (lim p + (1 : Int))) && right q (pickI b (lim q + (1 : Int))) && decide (keyI p (pickI a (lim p + (1 : Int))) < keyI q (pickI b (lim q + (1 : Int)))) && (right q (pickI b (lim q + (1 : Int))) && right r (pickI c (lim r + (1 : Int))) && decide (keyI q (pickI b (lim q + (1 : Int))) < keyI r (pickI c (lim r + (1 : Int))))) && !(right p (pickI a (lim p + (1 : Int))) && right r (pickI c (lim r + (1 : Int))) && decide (keyI p (pickI a (lim p + (1 : Int))) < keyI r (pickI c (lim r + (1 : Int))))) || right p (pickI a (lim p + (1 : Int))) && right p (pickI a (lim p + (1 : Int))) && decide (keyI p (pickI a (lim p + (1 : Int))) < keyI p (pickI a (lim p + (1 : Int))))) = false → Out.one (U := U) { agg := false, cs := [CV.v (Value.bool (true && (right e n || !(right e n && right p (pickI a (lim p + (1 : Int))) && decide (keyI e n < keyI p (pickI a (lim p + (1 : Int))))) && !(right p (pickI a (lim p + (1 : Int))) && right e n && decide (keyI p (pickI a (lim p + (1 : Int))) < keyI e n)))))] } = Out.one (U := U) { agg := false, cs := [CV.v (Value.bool true)] }), by kernel_rfl, ?_⟩
      obtain ⟨x, hx, ex⟩ : ∃ x, right p x = true ∧ pickI a (lim p + 1) = x := ⟨_, right_pick p a, rfl⟩
      obtain ⟨y, hy, ey⟩ : ∃ y, right q y = true ∧ pickI b (lim q + 1) = y := ⟨_, right_pick q b, rfl⟩
      obtain ⟨z, hz, ez⟩ : ∃ z, right r z = true ∧ pickI c (lim r + 1) = z := ⟨_, right_pick r c, rfl⟩
      rw [ex, ey, ez, hx, hy, hz]
      generalize keyI p x = kx
      generalize keyI q y = ky
      generalize keyI r z = kz
      refine ⟨by omega, by omega, hp.1, by omega, by omega, hp.2.1, by omega, by omega, hp.2.2, fun h => ?_, fun h => ?_⟩
      · exfalso
        simp at h
        omega
      · simp only [Out.one.injEq, Out.tup.injEq, D.mk.injEq, List.cons.injEq, CV.v.injEq, CV.sl.injEq, Value.bool.injEq, Value.int.injEq, Value.string.injEq, and_true, true_and, heq_eq_eq]
        cases right e n <;> simp
    · cases hg

theorem order_end (s : Bool) (k l : Int) (e : Bool) (h : (s && e) = decide (k = l)) : (true && ((true && true && decide (k < l) || true && true && decide (l < k)) == !(s && e)) && !(true && true && decide (k < l) && (true && true && decide (l < k)))) = true := by
  rw [h]
  by_cases h1 : k < l
  · simp [h1, show ¬ k = l by omega, show ¬ l < k by omega]
  · by_cases h2 : l < k
    · simp [h1, h2, show ¬ k = l by omega]
    · simp [h1, h2, show k = l by omega]
def Order_S : RX.Spec U := fun
  | [⟨false, [.v (.int .i64 a)]⟩, ⟨false, [.v (.int .i64 b)]⟩, ⟨false, [.v (.bool p)]⟩, ⟨false, [.v (.bool q)]⟩] => some ⟨some (in64 a ∧ in64 b), (.one ⟨false, [.v (.bool true)]⟩)⟩
  | _ => none

theorem Order_ok : ConOk Tryd.prog U GV 5 Order_S :=
  fn_go gs (fun _ _ => none) ty (conCons awake_ok (conCons Ident_ok (conCons Less_ok (conCons Right_ok (conCons Key_ok (conCons At_ok (conCons Print_ok (conCons Parse_ok conNil)))))))) Tryd.func5 (by kernel_rfl) fun ds r hg hp => by
    unfold Order_S at hg
    split at hg
    · rename_i a b p q
      cases hg
      replace hp : (in64 a ∧ in64 b) := hp
      refine ⟨((-9223372036854775808 : Int) ≤ a ∧ a ≤ (9223372036854775807 : Int)) ∧ ((-9223372036854775808 : Int) ≤ b ∧ b ≤ (9223372036854775807 : Int)) ∧ ((-9223372036854775808 : Int) ≤ keyI p (pickI a (lim p + (1 : Int))) ∧ keyI p (pickI a (lim p + (1 : Int))) ≤ (9223372036854775807 : Int)) ∧ ((errI (right p (pickI a (lim p + (1 : Int)))) (1 : Int) != (0 : Int) || errI (atR (keyI p (pickI a (lim p + (1 : Int))))) (1 : Int) != (0 : Int) || errI (right p (pickI a (lim p + (1 : Int)))) (1 : Int) != (0 : Int) || parseX (printB p (pickI a (lim p + (1 : Int)))) != (0 : Int) || !((atR (keyI p (pickI a (lim p + (1 : Int)))) && atE (keyI p (pickI a (lim p + (1 : Int))))) == p && (if atR (keyI p (pickI a (lim p + (1 : Int)))) = true then atN (keyI p (pickI a (lim p + (1 : Int)))) else (0 : Int)) == pickI a (lim p + (1 : Int))) || !((parseB (printB p (pickI a (lim p + (1 : Int)))) && parseE (printB p (pickI a (lim p + (1 : Int))))) == p && (if parseB (printB p (pickI a (lim p + (1 : Int)))) = true then parseN (printB p (pickI a (lim p + (1 : Int)))) else (0 : Int)) == pickI a (lim p + (1 : Int)))) = true → Out.one (U := U) { agg := false, cs := [CV.v (Value.bool false)] } = Out.one (U := U) { agg := false, cs := [CV.v (Value.bool true)] }) ∧ ((errI (right p (pickI a (lim p + (1 : Int)))) (1 : Int) != (0 : Int) || errI (atR (keyI p (pickI a (lim p + (1 : Int))))) (1 : Int) != (0 : Int) || errI (right p (pickI a (lim p + (1 : Int)))) (1 : Int) != (0 : Int) || parseX (printB p (pickI a (lim p + (1 : Int)))) != (0 : Int) || !((atR (keyI p (pickI a (lim p + (1 : Int)))) && atE (keyI p (pickI a (lim p + (1 : Int))))) == p && (if atR (keyI p (pickI a (lim p + (1 : Int)))) = true then atN (keyI p (pickI a (lim p + (1 : Int)))) else (0 : Int)) == pickI a (lim p + (1 : Int))) || !((parseB (printB p (pickI a (lim p + (1 : Int)))) && parseE (printB p (pickI a (lim p + (1 : Int))))) == p && (if parseB (printB p (pickI a (lim p + (1 : Int)))) = true then parseN (printB p (pickI a (lim p + (1 : Int)))) else (0 : Int)) == pickI a (lim p + (1 : Int)))) = false → (p = true → (262144 : Int) ≠ (0 : Int) ∧ (q = true → (262144 : Int) ≠ (0 : Int) ∧ ((decide (wrap64 (Int.tdiv (pickI a (lim p + (1 : Int))) (262144 : Int)) < wrap64 (Int.tdiv (pickI b (lim q + (1 : Int))) (262144 : Int))) && !(right p (pickI a (lim p + (1 : Int))) && right q (pickI b (lim q + (1 : Int))) && decide (keyI p (pickI a (lim p + (1 : Int))) < keyI q (pickI b (lim q + (1 : Int))))) || wrap64 (Int.tdiv (pickI a (lim p + (1 : Int))) (262144 : Int)) == wrap64 (Int.tdiv (pickI b (lim q + (1 : Int))) (262144 : Int)) && !p && q && !(right p (pickI a (lim p + (1 : Int))) && right q (pickI b (lim q + (1 : Int))) && decide (keyI p (pickI a (lim p + (1 : Int))) < keyI q (pickI b (lim q + (1 : Int)))))) = true → Out.one (U := U) { agg := false, cs := [CV.v (Value.bool false)] } = Out.one (U := U) { agg := false, cs := [CV.v (Value.bool true)] }) ∧ ((decide (wrap64 (Int.tdiv (pickI a (lim p + (1 : Int))) (262144 : Int)) < wrap64 (Int.tdiv (pickI b (lim q + (1 : Int))) (262144 : Int))) && !(right p (pickI a (lim p + (1 : Int))) && right q (pickI b (lim q + (1 : Int))) && decide (keyI p (pickI a (lim p + (1 : Int))) < keyI q (pickI b (lim q + (1 : Int))))) || wrap64 (Int.tdiv (pickI a (lim p + (1 : Int))) (262144 : Int)) == wrap64 (Int.tdiv (pickI b (lim q + (1 : Int))) (262144 : Int)) && !p && q && !(right p (pickI a (lim p + (1 : Int))) && right q (pickI b (lim q + (1 : Int))) && decide (keyI p (pickI a (lim p + (1 : Int))) < keyI q (pickI b (lim q + (1 : Int)))))) = false → Out.one (U := U) { agg := false, cs := [CV.v (Value.bool (true && (right p (pickI a (lim p + (1 : Int))) && right q (pickI b (lim q + (1 : Int))) && decide (keyI p (pickI a (lim p + (1 : Int))) < keyI q (pickI b (lim q + (1 : Int)))) || right q (pickI b (lim q + (1 : Int))) && right p (pickI a (lim p + (1 : Int))) && decide (keyI q (pickI b (lim q + (1 : Int))) < keyI p (pickI a (lim p + (1 : Int))))) == !(p == q && pickI a (lim p + (1 : Int)) == pickI b (lim q + (1 : Int))) && !(right p (pickI a (lim p + (1 : Int))) && right q (pickI b (lim q + (1 : Int))) && decide (keyI p (pickI a (lim p + (1 : Int))) < keyI q (pickI b (lim q + (1 : Int)))) && (right q (pickI b (lim q + (1 : Int))) && right p (pickI a (lim p + (1 : Int))) && decide (keyI q (pickI b (lim q + (1 : Int))) < keyI p (pickI a (lim p + (1 : Int))))))))] } = Out.one (U := U) { agg := false, cs := [CV.v (Value.bool true)] })) ∧ (q = false → ((decide (wrap64 (Int.tdiv (pickI a (lim p + (1 : Int))) (262144 : Int)) < pickI b (lim q + (1 : Int))) && !(right p (pickI a (lim p + (1 : Int))) && right q (pickI b (lim q + (1 : Int))) && decide (keyI p (pickI a (lim p + (1 : Int))) < keyI q (pickI b (lim q + (1 : Int))))) || wrap64 (Int.tdiv (pickI a (lim p + (1 : Int))) (262144 : Int)) == pickI b (lim q + (1 : Int)) && !p && q && !(right p (pickI a (lim p + (1 : Int))) && right q (pickI b (lim q + (1 : Int))) && decide (keyI p (pickI a (lim p + (1 : Int))) < keyI q (pickI b (lim q + (1 : Int)))))) = true → Out.one (U := U) { agg := false, cs := [CV.v (Value.bool false)] } = Out.one (U := U) { agg := false, cs := [CV.v (Value.bool true)] }) ∧ ((decide (wrap64 (Int.tdiv (pickI a (lim p + (1 : Int))) (262144 : Int)) < pickI b (lim q + (1 : Int))) && !(right p (pickI a (lim p + (1 : Int))) && right q (pickI b (lim q + (1 : Int))) && decide (keyI p (pickI a (lim p + (1 : Int))) < keyI q (pickI b (lim q + (1 : Int))))) || wrap64 (Int.tdiv (pickI a (lim p + (1 : Int))) (262144 : Int)) == pickI b (lim q + (1 : Int)) && !p && q && !(right p (pickI a (lim p + (1 : Int))) && right q (pickI b (lim q + (1 : Int))) && decide (keyI p (pickI a (lim p + (1 : Int))) < keyI q (pickI b (lim q + (1 : Int)))))) = false → Out.one (U := U) { agg := false, cs := [CV.v (Value.bool (true && (right p (pickI a (lim p + (1 : Int))) && right q (pickI b (lim q + (1 : Int))) && decide (keyI p (pickI a (lim p + (1 : Int))) < keyI q (pickI b (lim q + (1 : Int)))) || right q (pickI b (lim q + (1 : Int))) && right p (pickI a (lim p + (1 : Int))) && decide (keyI q (pickI b (lim q + (1 : Int))) < keyI p (pickI a (lim p + (1 : Int))))) == !(p == q && pickI a (lim p + (1 : Int)) == pickI b (lim q + (1 : Int))) && !(right p (pickI a (lim p + (1 : Int))) && right q (pickI b (lim q + (1 : Int))) && decide (keyI p (pickI a (lim p + (1 : Int))) < keyI q (pickI b (lim q + (1 : Int)))) && (right q (pickI b (lim q + (1 : Int))) && right p (pickI a (lim p + (1 : Int))) && decide (keyI q (pickI b (lim q + (1 : Int))) < keyI p (pickI a (lim p + (1 : Int))))))))] } = Out.one (U := U) { agg := false, cs := [CV.v (Value.bool true)] }))) ∧ (p = false → (q = true → (262144 : Int) ≠ (0 : Int) ∧ ((decide (pickI a (lim p + (1 : Int)) < wrap64 (Int.tdiv (pickI b (lim q + (1 : Int))) (262144 : Int))) && !(right p (pickI a (lim p + (1 : Int))) && right q (pickI b (lim q + (1 : Int))) && decide (keyI p (pickI a (lim p + (1 : Int))) < keyI q (pickI b (lim q + (1 : Int))))) || pickI a (lim p + (1 : Int)) == wrap64 (Int.tdiv (pickI b (lim q + (1 : Int))) (262144 : Int)) && !p && q && !(right p (pickI a (lim p + (1 : Int))) && right q (pickI b (lim q + (1 : Int))) && decide (keyI p (pickI a (lim p + (1 : Int))) < keyI q (pickI b (lim q + (1 : Int)))))) = true → Out.one (U := U) { agg := false, cs := [CV.v (Value.bool false)] } = Out.one (U := U) { agg := false, cs := [CV.v (Value.bool true)] }) ∧ ((decide (pickI a (lim p + (1 : Int)) < wrap64 (Int.tdiv (pickI b (lim q + (1 : Int))) (262144 : Int))) && !(right p (pickI a (lim p + (1 : Int))) && right q (pickI b (lim q + (1 : Int))) && decide (keyI p (pickI a (lim p + (1 : Int))) < keyI q (pickI b (lim q + (1 : Int))))) || pickI a (lim p + (1 : Int)) == wrap64 (Int.tdiv (pickI b (lim q + (1 : Int))) (262144 : Int)) && !p && q && !(right p (pickI a (lim p + (1 : Int))) && right q (pickI b (lim q + (1 : Int))) && decide (keyI p (pickI a (lim p + (1 : Int))) < keyI q (pickI b (lim q + (1 : Int)))))) = false → Out.one (U := U) { agg := false, cs := [CV.v (Value.bool (true && (right p (pickI a (lim p + (1 : Int))) && right q (pickI b (lim q + (1 : Int))) && decide (keyI p (pickI a (lim p + (1 : Int))) < keyI q (pickI b (lim q + (1 : Int)))) || right q (pickI b (lim q + (1 : Int))) && right p (pickI a (lim p + (1 : Int))) && decide (keyI q (pickI b (lim q + (1 : Int))) < keyI p (pickI a (lim p + (1 : Int))))) == !(p == q && pickI a (lim p + (1 : Int)) == pickI b (lim q + (1 : Int))) && !(right p (pickI a (lim p + (1 : Int))) && right q (pickI b (lim q + (1 : Int))) && decide (keyI p (pickI a (lim p + (1 : Int))) < keyI q (pickI b (lim q + (1 : Int)))) && (right q (pickI b (lim q + (1 : Int))) && right p (pickI a (lim p + (1 : Int))) && decide (keyI q (pickI b (lim q + (1 : Int))) < keyI p (pickI a (lim p + (1 : Int))))))))] } = Out.one (U := U) { agg := false, cs := [CV.v (Value.bool true)] })) ∧ (q = false → ((decide (pickI a (lim p + (1 : Int)) < pickI b (lim q + (1 : Int))) && !(right p (pickI a (lim p + (1 : Int))) && right q (pickI b (lim q + (1 : Int))) && decide (keyI p (pickI a (lim p + (1 : Int))) < keyI q (pickI b (lim q + (1 : Int))))) || pickI a (lim p + (1 : Int)) == pickI b (lim q + (1 : Int)) && !p && q && !(right p (pickI a (lim p + (1 : Int))) && right q (pickI b (lim q + (1 : Int))) && decide (keyI p (pickI a (lim p + (1 : Int))) < keyI q (pickI b (lim q + (1 : Int)))))) = true → Out.one (U := U) { agg := false, cs := [CV.v (Value.bool false)] } = Out.one (U := U) { agg := false, cs := [CV.v (Value.bool true)] }) ∧ ((decide (pickI a (lim p + (1 : Int)) < pickI b (lim q + (1 : Int))) && !(right p (pickI a (lim p + (1 : Int))) && right q (pickI b (lim q + (1 : Int))) && decide (keyI p (pickI a (lim p + (1 : Int))) < keyI q (pickI b (lim q + (1 : Int))))) || pickI a (lim p + (1 : Int)) == pickI b (lim q + (1 : Int)) && !p && q && !(right p (pickI a (lim p + (1 : Int))) && right q (pickI b (lim q + (1 : Int))) && decide (keyI p (pickI a (lim p + (1 : Int))) < keyI q (pickI b (lim q + (1 : Int)))))) = false → Out.one (U := U) { agg := false, cs := [CV.v (Value.bool (true && (right p (pickI a (lim p + (1 : Int))) && right q (pickI b (lim q + (1 : Int))) && decide (keyI p (pickI a (lim p + (1 : Int))) < keyI q (pickI b (lim q + (1 : Int)))) || right q (pickI b (lim q + (1 : Int))) && right p (pickI a (lim p + (1 : Int))) && decide (keyI q (pickI b (lim q + (1 : Int))) < keyI p (pickI a (lim p + (1 : Int))))) == !(p == q && pickI a (lim p + (1 : Int)) == pickI b (lim q + (1 : Int))) && !(right p (pickI a (lim p + (1 : Int))) && right q (pickI b (lim q + (1 : Int))) && decide (keyI p (pickI a (lim p + (1 : Int))) < keyI q (pickI b (lim q + (1 : Int)))) && (right q (pickI b (lim q + (1 : Int))) && right p (pickI a (lim p + (1 : Int))) && decide (keyI q (pickI b (lim q + (1 : Int))) < keyI p (pickI a (lim p + (1 : Int))))))))] } = Out.one (U := U) { agg := false, cs := [CV.v (Value.bool true)] })))), by kernel_rfl, ?_⟩
      obtain ⟨x, hx, ex⟩ : ∃ x, right p x = true ∧ pickI a (lim p + 1) = x := ⟨_, right_pick p a, rfl⟩
      obtain ⟨y, hy, ey⟩ : ∃ y, right q y = true ∧ pickI b (lim q + 1) = y := ⟨_, right_pick q b, rfl⟩
      have kr := key_range hx
      have bx := right_is hx
      have bY := right_is hy
      rw [ex, ey]
      simp only [hx, hy, at_keyE hx, at_keyN hx, at_keyR hx, parse_printE hx, parse_printN hx, parse_printX hx, parse_printB hx]
      refine ⟨hp.1, hp.2, ⟨by omega, by omega⟩, fun h => ?_, fun _ => ?_⟩
      · exfalso
        cases p <;> simp [errI] at h
      · have lt : lim true = 536870911 := rfl
        have lf : lim false = 2047 := rfl
        have tx : 0 ≤ x → wrap64 (Int.tdiv x 262144) = x / 262144 := fun h => by rw [Int.tdiv_eq_ediv_of_nonneg h, w64 (by cases p <;> omega)]
        have ty : 0 ≤ y → wrap64 (Int.tdiv y 262144) = y / 262144 := fun h => by rw [Int.tdiv_eq_ediv_of_nonneg h, w64 (by cases q <;> omega)]
        rw [tx bx.1, ty bY.1]
        simp only [keyI, hx, hy, if_true]
        refine ⟨fun hp => ⟨by omega, fun hq => ⟨by omega, fun h => ?_, fun h => ?_⟩, fun hq => ⟨fun h => ?_, fun h => ?_⟩⟩, fun hp => ⟨fun hq => ⟨by omega, fun h => ?_, fun h => ?_⟩, fun hq => ⟨fun h => ?_, fun h => ?_⟩⟩⟩ <;> subst hp <;> subst hq <;> simp only [lt, lf] at bx bY <;> first
          | (exfalso; simp at h; done)
          | (exfalso; simp at h; omega)
          | (simp only [Out.one.injEq, Out.tup.injEq, D.mk.injEq, List.cons.injEq, CV.v.injEq, CV.sl.injEq, Value.bool.injEq, Value.int.injEq, Value.string.injEq, and_true, true_and, heq_eq_eq]; refine order_end _ _ _ _ ?_; rw [Bool.eq_iff_iff]; simp only [Bool.and_eq_true, beq_iff_eq, decide_eq_true_eq, if_true, true_and, Bool.false_eq_true, if_false, reduceCtorEq, false_and]; omega)
          | (simp only [Out.one.injEq, Out.tup.injEq, D.mk.injEq, List.cons.injEq, CV.v.injEq, CV.sl.injEq, Value.bool.injEq, Value.int.injEq, Value.string.injEq, and_true, true_and, heq_eq_eq]; refine order_end _ _ _ _ ?_; simp; omega)
          | (simp only [Out.one.injEq, Out.tup.injEq, D.mk.injEq, List.cons.injEq, CV.v.injEq, CV.sl.injEq, Value.bool.injEq, Value.int.injEq, Value.string.injEq, and_true, true_and, heq_eq_eq]; refine order_end _ _ _ _ ?_; simp)
    · cases hg

end Go.Proofs.YtemajoafhamhgaaDoor.X
