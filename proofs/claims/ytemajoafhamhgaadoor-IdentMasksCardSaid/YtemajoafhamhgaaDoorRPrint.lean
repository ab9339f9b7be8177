/- Identifiers as bytes, and back. -/
import Derived.Test.YtemajoafhamhgaaDoorRIdent
namespace Go.Proofs.YtemajoafhamhgaaDoor.X
open Go Go.RX Go.RowKit Go.Proofs
set_option linter.unusedVariables false
set_option linter.unusedSimpArgs false
theorem bt_range (s : ByteArray) (i : Int) : 0 ≤ bt s i ∧ bt s i < 256 := by
  unfold bt
  split
  · rename_i h
    have := (s[i.toNat]'h).toNat_lt
    omega
  · omega
theorem bytes_bt (s : ByteArray) (i : Nat) : (YtemajoafhamhgaaDoorW.PrintWords.bytesOf s).getD i 0 = bt s i := by
  unfold YtemajoafhamhgaaDoorW.PrintWords.bytesOf bt
  rw [Int.toNat_natCast, List.getD_eq_getElem?_getD, List.getElem?_map]
  have hl : s.data.toList.length = s.size := by rw [Array.length_toList]; rfl
  by_cases h : i < s.size
  · rw [dif_pos h, List.getElem?_eq_getElem (by rw [hl]; exact h)]
    rfl
  · rw [dif_neg h, List.getElem?_eq_none (by rw [hl]; omega)]
    rfl
def pv (s : ByteArray) : Int := 16777216 * bt s 0 + 65536 * bt s 1 + 256 * bt s 2 + bt s 3
theorem pv_range (s : ByteArray) : 0 ≤ pv s ∧ pv s < 4294967296 := by
  have h0 := bt_range s 0; have h1 := bt_range s 1; have h2 := bt_range s 2; have h3 := bt_range s 3
  unfold pv; omega
theorem nacc_step (x y : Int) (h0 : 0 ≤ x) (h1 : x < 16777216) (h2 : 0 ≤ y) (h3 : y < 256) : bits .or .i64 (wrap64 (x * 256)) (wrap64 y) = x * 256 + y := by
  obtain ⟨a, rfl⟩ := Int.eq_ofNat_of_zero_le h0
  obtain ⟨b, rfl⟩ := Int.eq_ofNat_of_zero_le h2
  rw [w64 (x := (a : Int) * 256) (by omega), w64 (x := (b : Int)) (by omega)]
  have := or_addN a b 8 (by omega) (by omega) (by omega)
  rw [show ((2 ^ 8 * a : Nat) : Int) = (a : Int) * 256 by omega] at this
  rw [this]; omega
theorem nacc_pv (s : ByteArray) : Q.nacc (YtemajoafhamhgaaDoorW.PrintWords.bytesOf s) 4 = pv s := by
  have h0 := bt_range s 0; have h1 := bt_range s 1; have h2 := bt_range s 2; have h3 := bt_range s 3
  have e0 : Q.nacc (YtemajoafhamhgaaDoorW.PrintWords.bytesOf s) 1 = bt s 0 := by
    rw [Q.nacc, Q.nacc, bytes_bt s 0, show ((0 : Nat) : Int) = 0 from rfl, nacc_step 0 (bt s 0) (by omega) (by omega) h0.1 h0.2]; omega
  have e1 : Q.nacc (YtemajoafhamhgaaDoorW.PrintWords.bytesOf s) 2 = bt s 0 * 256 + bt s 1 := by
    rw [Q.nacc, e0, bytes_bt s 1]; exact nacc_step _ _ (by omega) (by omega) h1.1 h1.2
  have e2 : Q.nacc (YtemajoafhamhgaaDoorW.PrintWords.bytesOf s) 3 = (bt s 0 * 256 + bt s 1) * 256 + bt s 2 := by
    rw [Q.nacc, e1, bytes_bt s 2]; exact nacc_step _ _ (by omega) (by omega) h2.1 h2.2
  rw [Q.nacc, e2, bytes_bt s 3]
  rw [show ((3 : Nat) : Int) = 3 from rfl, nacc_step _ _ (by omega) (by omega) h3.1 h3.2]
  unfold pv; omega
theorem bit31 (v : Int) (h0 : 0 ≤ v) (h1 : v < 4294967296) : (bits .and .i64 v 2147483648 != (0 : Int)) = decide (2147483648 ≤ v) := by
  obtain ⟨m, rfl⟩ := Int.eq_ofNat_of_zero_le h0
  have := and_nat m 2147483648 (by omega) (by omega)
  rw [show ((2147483648 : Nat) : Int) = 2147483648 from rfl] at this
  rw [this, show 2147483648 = 2 ^ 31 from rfl, and_pow]
  by_cases c : m / 2 ^ 31 % 2 = 1
  · rw [if_pos c, decide_eq_true (show (2147483648 : Int) ≤ (m : Int) by omega)]; rfl
  · rw [if_neg c, decide_eq_false (show ¬ (2147483648 : Int) ≤ (m : Int) by omega)]; rfl
theorem rest31 (v : Int) (h0 : 0 ≤ v) (h1 : v < 4294967296) : bits .andNot .i64 v 2147483648 = v % 2147483648 := by
  obtain ⟨m, rfl⟩ := Int.eq_ofNat_of_zero_le h0
  have := andNot_nat m 2147483648 (by omega) (by omega)
  rw [show ((2147483648 : Nat) : Int) = 2147483648 from rfl] at this
  rw [this]
  have e : m &&& (2 ^ 64 - (2147483648 + 1)) = m % 2 ^ 31 := by
    apply Nat.eq_of_testBit_eq
    intro j
    rw [Nat.testBit_and, Nat.testBit_two_pow_sub_succ (by omega), Nat.testBit_mod_two_pow, show 2147483648 = 2 ^ 31 from rfl, Nat.testBit_two_pow]
    by_cases c : j < 31
    · simp [c, show j < 64 by omega, show ¬ 31 = j by omega]
    · by_cases d : j = 31
      · subst d; simp
      · have : m.testBit j = false := Nat.testBit_lt_two_pow (Nat.lt_of_lt_of_le (show m < 2 ^ 32 by omega) (Nat.pow_le_pow_right (by omega) (by omega)))
        simp [this]
  rw [e]; omega
def parseE (s : ByteArray) : Bool := decide (2147483648 ≤ pv s)
def parseN (s : ByteArray) : Int := pv s % 2147483648
def parseX (s : ByteArray) : Int := if (s.size : Int) < 4 then 3 else if (s.size : Int) > 4 then 4 else if right (parseE s) (parseN s) = true then 0 else 2
def parseB (s : ByteArray) : Bool := decide (parseX s = 0)
theorem right_Q (e : Bool) (n : Int) : Q.ident_Right.f e n = some (right e n) := Id.right_eq e n
theorem parse_Q (s : ByteArray) : Q.ident_Parse.f s = some (parseB s && parseE s, if parseB s = true then parseN s else 0, parseX s) := by
  unfold Q.ident_Parse.f parseB parseX
  by_cases h1 : (s.size : Int) < 4
  · simp [if_pos h1]
  · by_cases h2 : (s.size : Int) > 4
    · simp [if_neg h1, if_pos h2, show 4 < (s.size : Int) from h2]
    · rw [if_neg h1, if_neg h1, if_neg h2, if_neg (show ¬ 4 < (s.size : Int) from h2), right_Q, Option.bind_some]
      have e1 : Q.pE s = parseE s := by unfold Q.pE parseE; rw [nacc_pv]; exact bit31 _ (pv_range s).1 (pv_range s).2
      have e2 : Q.pN s = parseN s := by unfold Q.pN parseN; rw [nacc_pv]; exact rest31 _ (pv_range s).1 (pv_range s).2
      rw [e1, e2]
      cases right (parseE s) (parseN s) <;> simp
def printV (e : Bool) (n : Int) : Int := if e = true then n + 2147483648 else n
def printB (e : Bool) (n : Int) : ByteArray := if right e n = true then strOfNums [printV e n / 16777216 % 256, printV e n / 65536 % 256, printV e n / 256 % 256, printV e n % 256] else .empty
theorem print_Q (e : Bool) (n : Int) : Q.ident_Print.f e n = some (printB e n, errI (right e n) 1) := by
  unfold Q.ident_Print.f printB errI
  rw [right_Q, Option.bind_some]
  by_cases h : right e n = true
  · rw [if_pos h, if_pos h, if_pos h]
    have hb := of_decide_eq_true h
    have hu : Q.u32of e n = printV e n := by
      unfold Q.u32of printV
      cases e with
      | false =>
        rw [if_neg (by decide), if_neg (by decide)]
        have : n ≤ 2047 := hb.2
        have := hb.1
        omega
      | true =>
        rw [if_pos rfl, if_pos rfl]
        have h2 : n ≤ 536870911 := hb.2
        have h1 := hb.1
        obtain ⟨m, rfl⟩ := Int.eq_ofNat_of_zero_le h1
        have := (bits_nat .u32 32 (by decide) (fun n a b => by rw [IntKind.wrap_u32]; omega) m 2147483648 (by omega) (by omega)).2
        rw [show ((2147483648 : Nat) : Int) = 2147483648 from rfl] at this
        rw [show (m : Int) % 4294967296 = (m : Int) by omega, this, Nat.or_comm, show 2147483648 = 2 ^ 31 * 1 from rfl, ← Nat.two_pow_add_eq_or_of_lt (show m < 2 ^ 31 by omega)]
        omega
    rw [hu]
    have : Q.pl (printV e n) 4 = [printV e n / 16777216 % 256, printV e n / 65536 % 256, printV e n / 256 % 256, printV e n % 256] := by
      simp [Q.pl, List.range, List.range.loop]
    rw [this]
  · rw [if_neg h, if_neg h, if_neg h]
def Print_S : RX.Spec U := fun
  | [⟨true, [.v (.bool e), .v (.int .i64 n)]⟩] => some ⟨none, (.tup [⟨false, [.v (.string (printB e n))]⟩, ⟨false, [.v (.int .i64 (errI (right e n) 1))]⟩])⟩
  | _ => none

theorem Print_ok : ConOk Tryd.prog U GV 14 Print_S := con_vals (by kernel_rfl) fun ds r hg hp => by
  unfold Print_S at hg
  split at hg
  · rename_i e n
    cases hg
    refine ⟨[.agg #[.bool e, .int .i64 n]], .agg (cs := [.v (.bool e), .v (.int .i64 n)]) (xs := [.bool e, .int .i64 n]) rfl ?_ .nil, .tuple #[.string (printB e n), .int .i64 (errI (right e n) 1)], fun F w => ⟨_, rfl, rfl, ?_⟩, fun w hw => Q.ident_Print.calls e n _ _ w hw (print_Q e n)⟩
    · intro j c x h1 h2
      match j with
      | 0 => cases h1; cases h2; exact ⟨rfl, rfl⟩
      | 1 => cases h1; cases h2; exact ⟨rfl, rfl⟩
      | j + 2 => cases h1
    · intro j d v h1 h2
      match j with
      | 0 => cases h1; cases h2; exact ⟨_, rfl, rfl, rfl⟩
      | 1 => cases h1; cases h2; exact ⟨_, rfl, rfl, rfl⟩
      | j + 2 => cases h1
  · cases hg
def Parse_S : RX.Spec U := fun
  | [⟨false, [.v (.string s)]⟩] => some ⟨none, (.tup [⟨true, [.v (.bool (parseB s && parseE s)), .v (.int .i64 (if parseB s = true then parseN s else 0))]⟩, ⟨false, [.v (.int .i64 (parseX s))]⟩])⟩
  | _ => none

theorem Parse_ok : ConOk Tryd.prog U GV 20 Parse_S := con_vals (by kernel_rfl) fun ds r hg hp => by
  unfold Parse_S at hg
  split at hg
  · rename_i s
    cases hg
    refine ⟨[.string s], .one rfl .nil, .tuple #[.agg #[.bool (parseB s && parseE s), .int .i64 (if parseB s = true then parseN s else 0)], .int .i64 (parseX s)], fun F w => ⟨_, rfl, rfl, ?_⟩, fun w hw => Q.ident_Parse.calls s _ _ _ w hw (parse_Q s)⟩
    · intro j d v h1 h2
      match j with
      | 0 =>
        cases h1; cases h2
        refine ⟨_, rfl, rfl, fun j c y f1 f2 => ?_⟩
        match j with
        | 0 => cases f1; cases f2; exact ⟨rfl, rfl⟩
        | 1 => cases f1; cases f2; exact ⟨rfl, rfl⟩
        | j + 2 => cases f1
      | 1 => cases h1; cases h2; exact ⟨_, rfl, rfl, rfl⟩
      | j + 2 => cases h1
  · cases hg
end Go.Proofs.YtemajoafhamhgaaDoor.X
