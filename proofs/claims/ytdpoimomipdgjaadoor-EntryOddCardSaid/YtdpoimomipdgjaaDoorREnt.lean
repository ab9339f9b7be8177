/- Which entries may be, as the program has them; a message's bytes. -/
import Derived.Test.YtdpoimomipdgjaaDoorREright
import Derived.Test.YtdpoimomipdgjaaDoorREnc04
import Derived.Test.YtdpoimomipdgjaaDoorRLess
namespace Go.Proofs.YtdpoimomipdgjaaDoor.X
open Go Go.RX Go.RowKit Go.Proofs
set_option linter.unusedVariables false
set_option linter.unusedSimpArgs false
theorem nums_bytes (s : ByteArray) : strOfNums (bytesI s) = s := by
  obtain ⟨⟨l⟩⟩ := s
  unfold strOfNums bytesI
  simp only [List.map_map]
  rw [List.map_congr_left (g := id) (fun x _ => by simp), List.map_id]
theorem nums_append (a b : List Int) : strOfNums (a ++ b) = strOfNums a ++ strOfNums b := by
  apply ByteArray.ext
  simp [strOfNums]
def mEncode_S : RX.Spec U := fun
  | [⟨true, [.v (.bool e), .v (.int .i64 n), .v (.int .i64 sd), .v (.int .i64 ic), .v (.int .i64 sq), .v (.int .i64 nm), .v (.string dt)]⟩] => some ⟨none, (.tup [⟨false, [.v (.string (encB ⟨e, n, sd, ic, sq, nm, dt⟩))]⟩, ⟨false, [.v (.int .i64 (errI (msgR ⟨e, n, sd, ic, sq, nm, dt⟩) 1))]⟩])⟩
  | _ => none

theorem mEncode_ok : ConOk Tryd.prog U GV 28 mEncode_S :=
  fn_go gs ty glok (conCons msgRight_ok (conCons Print_ok conNil)) Tryd.func28 (by kernel_rfl) fun ds r hg hp => by
    unfold mEncode_S at hg
    split at hg
    · rename_i e n sd ic sq nm dt
      cases hg
      refine ⟨fun st key => some { N := 4, mods := fun _ => [], un := some 4 }, ((!msgR (Msg.mk e n sd ic sq nm dt)) = true → Out.tup (U := U) [D.mk false [CV.v (Value.string (ByteArray.mk (Array.mk [])))], D.mk false [CV.v (Value.int IntKind.i64 (1 : Int))]] = Out.tup (U := U) [D.mk false [CV.v (Value.string (encB (Msg.mk e n sd ic sq nm dt)))], D.mk false [CV.v (Value.int IntKind.i64 (errI (msgR (Msg.mk e n sd ic sq nm dt)) (1 : Int)))]]) ∧ ((!msgR (Msg.mk e n sd ic sq nm dt)) = false → ByteArray.size (printB e n) ≤ (1000000 : Nat) ∧ List.length (bytesI (printB e n)) + List.length [IntKind.wrap IntKind.u8 sd] ≤ (1000000 : Nat) ∧ (true = true → ((0 : Int) ≤ (0 : Int) ∧ (0 : Int) < (3 : Int)) ∧ (0 : Int) ≤ (8 : Int) ∧ List.length (bytesI (printB e n) ++ [IntKind.wrap IntKind.u8 sd]) + List.length [IntKind.wrap IntKind.u8 (Int.fdiv ic (256 : Int)), IntKind.wrap IntKind.u8 ic] ≤ (1000000 : Nat) ∧ (false = true → List.length (bytesI (printB e n) ++ [IntKind.wrap IntKind.u8 sd] ++ [IntKind.wrap IntKind.u8 (Int.fdiv ic (256 : Int)), IntKind.wrap IntKind.u8 ic]) + List.length [IntKind.wrap IntKind.u8 (↑(ByteArray.size dt) : Int)] ≤ (1000000 : Nat) ∧ ByteArray.size (strOfNums (List.map (fun x => x) (bytesI (printB e n) ++ [IntKind.wrap IntKind.u8 sd] ++ [IntKind.wrap IntKind.u8 (Int.fdiv ic (256 : Int)), IntKind.wrap IntKind.u8 ic] ++ [IntKind.wrap IntKind.u8 (↑(ByteArray.size dt) : Int)]))) + ByteArray.size dt ≤ (9223372036854775807 : Nat) ∧ Out.tup (U := U) [D.mk false [CV.v (Value.string (strOfNums (List.map (fun x => x) (bytesI (printB e n) ++ [IntKind.wrap IntKind.u8 sd] ++ [IntKind.wrap IntKind.u8 (Int.fdiv ic (256 : Int)), IntKind.wrap IntKind.u8 ic] ++ [IntKind.wrap IntKind.u8 (↑(ByteArray.size dt) : Int)])) ++ dt))], D.mk false [CV.v (Value.int IntKind.i64 (0 : Int))]] = Out.tup (U := U) [D.mk false [CV.v (Value.string (encB (Msg.mk e n sd ic sq nm dt)))], D.mk false [CV.v (Value.int IntKind.i64 (errI (msgR (Msg.mk e n sd ic sq nm dt)) (1 : Int)))]]) ∧ (false = false → (true = true → ((0 : Int) ≤ (1 : Int) ∧ (1 : Int) < (3 : Int)) ∧ (0 : Int) ≤ (8 : Int) ∧ List.length (bytesI (printB e n) ++ [IntKind.wrap IntKind.u8 sd] ++ [IntKind.wrap IntKind.u8 (Int.fdiv ic (256 : Int)), IntKind.wrap IntKind.u8 ic]) + List.length [IntKind.wrap IntKind.u8 (Int.fdiv sq (256 : Int)), IntKind.wrap IntKind.u8 sq] ≤ (1000000 : Nat) ∧ (false = true → List.length (bytesI (printB e n) ++ [IntKind.wrap IntKind.u8 sd] ++ [IntKind.wrap IntKind.u8 (Int.fdiv ic (256 : Int)), IntKind.wrap IntKind.u8 ic] ++ [IntKind.wrap IntKind.u8 (Int.fdiv sq (256 : Int)), IntKind.wrap IntKind.u8 sq]) + List.length [IntKind.wrap IntKind.u8 (↑(ByteArray.size dt) : Int)] ≤ (1000000 : Nat) ∧ ByteArray.size (strOfNums (List.map (fun x => x) (bytesI (printB e n) ++ [IntKind.wrap IntKind.u8 sd] ++ [IntKind.wrap IntKind.u8 (Int.fdiv ic (256 : Int)), IntKind.wrap IntKind.u8 ic] ++ [IntKind.wrap IntKind.u8 (Int.fdiv sq (256 : Int)), IntKind.wrap IntKind.u8 sq] ++ [IntKind.wrap IntKind.u8 (↑(ByteArray.size dt) : Int)]))) + ByteArray.size dt ≤ (9223372036854775807 : Nat) ∧ Out.tup (U := U) [D.mk false [CV.v (Value.string (strOfNums (List.map (fun x => x) (bytesI (printB e n) ++ [IntKind.wrap IntKind.u8 sd] ++ [IntKind.wrap IntKind.u8 (Int.fdiv ic (256 : Int)), IntKind.wrap IntKind.u8 ic] ++ [IntKind.wrap IntKind.u8 (Int.fdiv sq (256 : Int)), IntKind.wrap IntKind.u8 sq] ++ [IntKind.wrap IntKind.u8 (↑(ByteArray.size dt) : Int)])) ++ dt))], D.mk false [CV.v (Value.int IntKind.i64 (0 : Int))]] = Out.tup (U := U) [D.mk false [CV.v (Value.string (encB (Msg.mk e n sd ic sq nm dt)))], D.mk false [CV.v (Value.int IntKind.i64 (errI (msgR (Msg.mk e n sd ic sq nm dt)) (1 : Int)))]]) ∧ (false = false → (true = true → ((0 : Int) ≤ (2 : Int) ∧ (2 : Int) < (3 : Int)) ∧ (0 : Int) ≤ (8 : Int) ∧ List.length (bytesI (printB e n) ++ [IntKind.wrap IntKind.u8 sd] ++ [IntKind.wrap IntKind.u8 (Int.fdiv ic (256 : Int)), IntKind.wrap IntKind.u8 ic] ++ [IntKind.wrap IntKind.u8 (Int.fdiv sq (256 : Int)), IntKind.wrap IntKind.u8 sq]) + List.length [IntKind.wrap IntKind.u8 (Int.fdiv nm (256 : Int)), IntKind.wrap IntKind.u8 nm] ≤ (1000000 : Nat) ∧ (false = true → List.length (bytesI (printB e n) ++ [IntKind.wrap IntKind.u8 sd] ++ [IntKind.wrap IntKind.u8 (Int.fdiv ic (256 : Int)), IntKind.wrap IntKind.u8 ic] ++ [IntKind.wrap IntKind.u8 (Int.fdiv sq (256 : Int)), IntKind.wrap IntKind.u8 sq] ++ [IntKind.wrap IntKind.u8 (Int.fdiv nm (256 : Int)), IntKind.wrap IntKind.u8 nm]) + List.length [IntKind.wrap IntKind.u8 (↑(ByteArray.size dt) : Int)] ≤ (1000000 : Nat) ∧ ByteArray.size (strOfNums (List.map (fun x => x) (bytesI (printB e n) ++ [IntKind.wrap IntKind.u8 sd] ++ [IntKind.wrap IntKind.u8 (Int.fdiv ic (256 : Int)), IntKind.wrap IntKind.u8 ic] ++ [IntKind.wrap IntKind.u8 (Int.fdiv sq (256 : Int)), IntKind.wrap IntKind.u8 sq] ++ [IntKind.wrap IntKind.u8 (Int.fdiv nm (256 : Int)), IntKind.wrap IntKind.u8 nm] ++ [IntKind.wrap IntKind.u8 (↑(ByteArray.size dt) : Int)]))) + ByteArray.size dt ≤ (9223372036854775807 : Nat) ∧ Out.tup (U := U) [D.mk false [CV.v (Value.string (strOfNums (List.map (fun x => x) (bytesI (printB e n) ++ [IntKind.wrap IntKind.u8 sd] ++ [IntKind.wrap IntKind.u8 (Int.fdiv ic (256 : Int)), IntKind.wrap IntKind.u8 ic] ++ [IntKind.wrap IntKind.u8 (Int.fdiv sq (256 : Int)), IntKind.wrap IntKind.u8 sq] ++ [IntKind.wrap IntKind.u8 (Int.fdiv nm (256 : Int)), IntKind.wrap IntKind.u8 nm] ++ [IntKind.wrap IntKind.u8 (↑(ByteArray.size dt) : Int)])) ++ dt))], D.mk false [CV.v (Value.int IntKind.i64 (0 : Int))]] = Out.tup (U := U) [D.mk false [CV.v (Value.string (encB (Msg.mk e n sd ic sq nm dt)))], D.mk false [CV.v (Value.int IntKind.i64 (errI (msgR (Msg.mk e n sd ic sq nm dt)) (1 : Int)))]]) ∧ (false = false → (false = true → ((0 : Int) ≤ (3 : Int) ∧ (3 : Int) < (3 : Int)) ∧ False) ∧ (false = false → List.length (bytesI (printB e n) ++ [IntKind.wrap IntKind.u8 sd] ++ [IntKind.wrap IntKind.u8 (Int.fdiv ic (256 : Int)), IntKind.wrap IntKind.u8 ic] ++ [IntKind.wrap IntKind.u8 (Int.fdiv sq (256 : Int)), IntKind.wrap IntKind.u8 sq] ++ [IntKind.wrap IntKind.u8 (Int.fdiv nm (256 : Int)), IntKind.wrap IntKind.u8 nm]) + List.length [IntKind.wrap IntKind.u8 (↑(ByteArray.size dt) : Int)] ≤ (1000000 : Nat) ∧ ByteArray.size (strOfNums (List.map (fun x => x) (bytesI (printB e n) ++ [IntKind.wrap IntKind.u8 sd] ++ [IntKind.wrap IntKind.u8 (Int.fdiv ic (256 : Int)), IntKind.wrap IntKind.u8 ic] ++ [IntKind.wrap IntKind.u8 (Int.fdiv sq (256 : Int)), IntKind.wrap IntKind.u8 sq] ++ [IntKind.wrap IntKind.u8 (Int.fdiv nm (256 : Int)), IntKind.wrap IntKind.u8 nm] ++ [IntKind.wrap IntKind.u8 (↑(ByteArray.size dt) : Int)]))) + ByteArray.size dt ≤ (9223372036854775807 : Nat) ∧ Out.tup (U := U) [D.mk false [CV.v (Value.string (strOfNums (List.map (fun x => x) (bytesI (printB e n) ++ [IntKind.wrap IntKind.u8 sd] ++ [IntKind.wrap IntKind.u8 (Int.fdiv ic (256 : Int)), IntKind.wrap IntKind.u8 ic] ++ [IntKind.wrap IntKind.u8 (Int.fdiv sq (256 : Int)), IntKind.wrap IntKind.u8 sq] ++ [IntKind.wrap IntKind.u8 (Int.fdiv nm (256 : Int)), IntKind.wrap IntKind.u8 nm] ++ [IntKind.wrap IntKind.u8 (↑(ByteArray.size dt) : Int)])) ++ dt))], D.mk false [CV.v (Value.int IntKind.i64 (0 : Int))]] = Out.tup (U := U) [D.mk false [CV.v (Value.string (encB (Msg.mk e n sd ic sq nm dt)))], D.mk false [CV.v (Value.int IntKind.i64 (errI (msgR (Msg.mk e n sd ic sq nm dt)) (1 : Int)))]]))) ∧ (true = false → List.length (bytesI (printB e n) ++ [IntKind.wrap IntKind.u8 sd] ++ [IntKind.wrap IntKind.u8 (Int.fdiv ic (256 : Int)), IntKind.wrap IntKind.u8 ic] ++ [IntKind.wrap IntKind.u8 (Int.fdiv sq (256 : Int)), IntKind.wrap IntKind.u8 sq]) + List.length [IntKind.wrap IntKind.u8 (↑(ByteArray.size dt) : Int)] ≤ (1000000 : Nat) ∧ ByteArray.size (strOfNums (List.map (fun x => x) (bytesI (printB e n) ++ [IntKind.wrap IntKind.u8 sd] ++ [IntKind.wrap IntKind.u8 (Int.fdiv ic (256 : Int)), IntKind.wrap IntKind.u8 ic] ++ [IntKind.wrap IntKind.u8 (Int.fdiv sq (256 : Int)), IntKind.wrap IntKind.u8 sq] ++ [IntKind.wrap IntKind.u8 (↑(ByteArray.size dt) : Int)]))) + ByteArray.size dt ≤ (9223372036854775807 : Nat) ∧ Out.tup (U := U) [D.mk false [CV.v (Value.string (strOfNums (List.map (fun x => x) (bytesI (printB e n) ++ [IntKind.wrap IntKind.u8 sd] ++ [IntKind.wrap IntKind.u8 (Int.fdiv ic (256 : Int)), IntKind.wrap IntKind.u8 ic] ++ [IntKind.wrap IntKind.u8 (Int.fdiv sq (256 : Int)), IntKind.wrap IntKind.u8 sq] ++ [IntKind.wrap IntKind.u8 (↑(ByteArray.size dt) : Int)])) ++ dt))], D.mk false [CV.v (Value.int IntKind.i64 (0 : Int))]] = Out.tup (U := U) [D.mk false [CV.v (Value.string (encB (Msg.mk e n sd ic sq nm dt)))], D.mk false [CV.v (Value.int IntKind.i64 (errI (msgR (Msg.mk e n sd ic sq nm dt)) (1 : Int)))]]))) ∧ (true = false → List.length (bytesI (printB e n) ++ [IntKind.wrap IntKind.u8 sd] ++ [IntKind.wrap IntKind.u8 (Int.fdiv ic (256 : Int)), IntKind.wrap IntKind.u8 ic]) + List.length [IntKind.wrap IntKind.u8 (↑(ByteArray.size dt) : Int)] ≤ (1000000 : Nat) ∧ ByteArray.size (strOfNums (List.map (fun x => x) (bytesI (printB e n) ++ [IntKind.wrap IntKind.u8 sd] ++ [IntKind.wrap IntKind.u8 (Int.fdiv ic (256 : Int)), IntKind.wrap IntKind.u8 ic] ++ [IntKind.wrap IntKind.u8 (↑(ByteArray.size dt) : Int)]))) + ByteArray.size dt ≤ (9223372036854775807 : Nat) ∧ Out.tup (U := U) [D.mk false [CV.v (Value.string (strOfNums (List.map (fun x => x) (bytesI (printB e n) ++ [IntKind.wrap IntKind.u8 sd] ++ [IntKind.wrap IntKind.u8 (Int.fdiv ic (256 : Int)), IntKind.wrap IntKind.u8 ic] ++ [IntKind.wrap IntKind.u8 (↑(ByteArray.size dt) : Int)])) ++ dt))], D.mk false [CV.v (Value.int IntKind.i64 (0 : Int))]] = Out.tup (U := U) [D.mk false [CV.v (Value.string (encB (Msg.mk e n sd ic sq nm dt)))], D.mk false [CV.v (Value.int IntKind.i64 (errI (msgR (Msg.mk e n sd ic sq nm dt)) (1 : Int)))]]))) ∧ (true = false → List.length (bytesI (printB e n) ++ [IntKind.wrap IntKind.u8 sd]) + List.length [IntKind.wrap IntKind.u8 (↑(ByteArray.size dt) : Int)] ≤ (1000000 : Nat) ∧ ByteArray.size (strOfNums (List.map (fun x => x) (bytesI (printB e n) ++ [IntKind.wrap IntKind.u8 sd] ++ [IntKind.wrap IntKind.u8 (↑(ByteArray.size dt) : Int)]))) + ByteArray.size dt ≤ (9223372036854775807 : Nat) ∧ Out.tup (U := U) [D.mk false [CV.v (Value.string (strOfNums (List.map (fun x => x) (bytesI (printB e n) ++ [IntKind.wrap IntKind.u8 sd] ++ [IntKind.wrap IntKind.u8 (↑(ByteArray.size dt) : Int)])) ++ dt))], D.mk false [CV.v (Value.int IntKind.i64 (0 : Int))]] = Out.tup (U := U) [D.mk false [CV.v (Value.string (encB (Msg.mk e n sd ic sq nm dt)))], D.mk false [CV.v (Value.int IntKind.i64 (errI (msgR (Msg.mk e n sd ic sq nm dt)) (1 : Int)))]])), by kernel_rfl, ?_⟩
      simp only [eq_self, Bool.false_eq_true, Bool.true_eq_false, false_implies, true_implies, forall_const, and_true, true_and]
      refine ⟨fun h => ?_, fun h => ?_⟩
      · have h : msgR ⟨e, n, sd, ic, sq, nm, dt⟩ = false := by simpa using h
        simp only [Out.one.injEq, Out.tup.injEq, D.mk.injEq, List.cons.injEq, CV.v.injEq, CV.sl.injEq, Value.bool.injEq, Value.int.injEq, Value.string.injEq, and_true, true_and, heq_eq_eq]
        simp [h, errI, encB]
        rfl
      · have h : msgR ⟨e, n, sd, ic, sq, nm, dt⟩ = true := by simpa using h
        obtain ⟨h1, h2, h3, h4, h5, h6⟩ := msgR_is h
        have h3 : 1 ≤ ic ∧ ic ≤ 65535 := h3
        have h4 : 1 ≤ sq ∧ sq ≤ 65535 := h4
        have h5 : 1 ≤ nm ∧ nm ≤ 65535 := h5
        have h6 : (dt.size : Int) ≤ 8 := h6
        have hs := printB_size e n
        have hb := bytesI_len (printB e n)
        simp only [List.length_append, List.length_cons, List.length_nil, strOfNums_size, List.length_map]
        have e1 : Int.fdiv ic 256 = ic / 256 := Int.fdiv_eq_ediv_of_nonneg _ (by decide)
        have e2 : Int.fdiv sq 256 = sq / 256 := Int.fdiv_eq_ediv_of_nonneg _ (by decide)
        have e3 : Int.fdiv nm 256 = nm / 256 := Int.fdiv_eq_ediv_of_nonneg _ (by decide)
        rw [e1, e2, e3]
        refine ⟨by omega, by omega, ⟨by omega, by omega⟩, by omega, by omega, ⟨by omega, by omega⟩, by omega, by omega, ⟨by omega, by omega⟩, by omega, by omega, by omega, by omega, ?_⟩
        simp only [Out.one.injEq, Out.tup.injEq, D.mk.injEq, List.cons.injEq, CV.v.injEq, CV.sl.injEq, Value.bool.injEq, Value.int.injEq, Value.string.injEq, and_true, true_and, heq_eq_eq]
        refine ⟨?_, by rw [h]; rfl⟩
        have e4 : (fun x : Int => x) = id := rfl
        simp only [encB, h, if_true, wu8, e4, List.map_id, nums_append, nums_bytes, twoB, ByteArray.append_assoc]
    · cases hg

theorem odd_is (n : Int) : (decide (n < (1 : Int)) || decide ((65535 : Int) < n)) = !sm n := by
  unfold sm
  rw [Bool.eq_iff_iff]
  simp only [Bool.or_eq_true, decide_eq_true_eq, Bool.not_eq_true', decide_eq_false_iff_not]
  omega
def eodd_S : RX.Spec U := fun
  | [⟨false, [.v (.int .i64 n)]⟩] => some ⟨none, (.one ⟨false, [.v (.bool (!sm n))]⟩)⟩
  | _ => none

theorem eodd_ok : ConOk Tryd.prog U GV 33 eodd_S :=
  fn_go gs ty glok conNil Tryd.func33 (by kernel_rfl) fun ds r hg hp => by
    unfold eodd_S at hg
    split at hg
    · rename_i n
      cases hg
      refine ⟨fun _ _ => none, Out.one (U := U) (D.mk false [CV.v (Value.bool (decide (n < (1 : Int)) || decide ((65535 : Int) < n)))]) = Out.one (U := U) (D.mk false [CV.v (Value.bool !sm n)]), by kernel_rfl, ?_⟩
      simp only [Out.one.injEq, Out.tup.injEq, D.mk.injEq, List.cons.injEq, CV.v.injEq, CV.sl.injEq, Value.bool.injEq, Value.int.injEq, Value.string.injEq, and_true, true_and, heq_eq_eq]
      exact odd_is n
    · cases hg

def anyOdd_S : RX.Spec U := fun
  | [⟨false, [.sl .int l]⟩, ⟨false, [.v fv0_]⟩] => RX.onF 33 fv0_ (some ⟨some (l.length ≤ 1000000), (.one ⟨false, [.v (.bool (!l.all sm))]⟩)⟩)
  | _ => none

theorem anyOdd_ok : ConOk Tryd.prog U GV 35 anyOdd_S :=
  fn_go gs ty glok conNil Tryd.func35 (by kernel_rfl) fun ds r hg hp => by
    unfold anyOdd_S at hg
    split at hg
    · replace hg := RX.onF_is hg
      obtain ⟨rfl, hg⟩ := hg
      rename_i l
      obtain ⟨l, rfl⟩ : ∃ q_ : List Int, q_ = l := ⟨l, rfl⟩
      cases hg
      replace hp : (l.length ≤ 1000000) := hp
      refine ⟨fun st key => if key = 2 then some { N := l.length, mods := fun k => [.tv 8 (.int .i64 (k : Int))], inv := fun k => (l.take k).all sm = true } else none, true = true ∧ Value.int IntKind.i64 (0 : Int) = Value.int IntKind.i64 (0 : Int) ∧ ∀ (k : Nat), k ≤ List.length l → List.all (List.take k l) sm = true → (decide ((↑k : Int) < (↑(List.length l) : Int)) = true → ((0 : Int) ≤ (↑k : Int) ∧ (↑k : Int) < (↑(List.length l) : Int)) ∧ ((decide (List.getD l (Int.toNat (↑k : Int)) (d_int) < (1 : Int)) || decide ((65535 : Int) < List.getD l (Int.toNat (↑k : Int)) (d_int))) = true → Out.one (U := U) (D.mk false [CV.v (Value.bool (decide ((0 : Int) ≤ (↑k : Int))))]) = Out.one (U := U) (D.mk false [CV.v (Value.bool !List.all l sm)])) ∧ ((decide (List.getD l (Int.toNat (↑k : Int)) (d_int) < (1 : Int)) || decide ((65535 : Int) < List.getD l (Int.toNat (↑k : Int)) (d_int))) = false → k < List.length l ∧ List.all (List.take (k + (1 : Nat)) l) sm = true ∧ Value.int IntKind.i64 (wrap64 ((↑k : Int) + (1 : Int))) = Value.int IntKind.i64 (↑(k + (1 : Nat)) : Int))) ∧ (decide ((↑k : Int) < (↑(List.length l) : Int)) = false → Out.one (U := U) (D.mk false [CV.v (Value.bool false)]) = Out.one (U := U) (D.mk false [CV.v (Value.bool !List.all l sm)])), by kernel_rfl, ?_⟩
      simp only [odd_is]
      refine ⟨(by trivial), (by trivial), fun k hk hik => ⟨fun hlt => ?_, fun hge => ?_⟩⟩
      · have hlt : k < l.length := by have := of_decide_eq_true hlt; omega
        rw [getD_at l k _ hlt]
        refine ⟨⟨by omega, by omega⟩, fun ho => ?_, fun ho => ⟨hlt, ?_, ?_⟩⟩
        · have hall : l.all sm = false := List.all_eq_false.mpr ⟨l[k], List.getElem_mem hlt, by simpa using ho⟩
          simp only [Out.one.injEq, Out.tup.injEq, D.mk.injEq, List.cons.injEq, CV.v.injEq, CV.sl.injEq, Value.bool.injEq, Value.int.injEq, Value.string.injEq, and_true, true_and, heq_eq_eq]
          rw [hall, decide_eq_true (show (0 : Int) ≤ (k : Int) by omega)]; rfl
        · rw [List.take_succ_eq_append_getElem hlt, List.all_append, hik]
          simpa using ho
        · rw [w64 (by omega)]; rfl
      · have hge := of_decide_eq_false hge
        have e1 : l.take k = l := List.take_of_length_le (by omega)
        rw [e1] at hik
        simp only [Out.one.injEq, Out.tup.injEq, D.mk.injEq, List.cons.injEq, CV.v.injEq, CV.sl.injEq, Value.bool.injEq, Value.int.injEq, Value.string.injEq, and_true, true_and, heq_eq_eq]
        rw [hik]; rfl
    · cases hg

/-- The senders of the first k messages. -/
def sndV (ms : List Msg) : Nat → Int
  | 0 => 0
  | k + 1 => withB (sndV ms k) (ms.getD k d_msg).sender
theorem hasB_with (v a x : Int) : hasB (withB v a) x = (hasB v x || (decide (x = a) && decide (0 ≤ a ∧ a ≤ 15))) := by
  by_cases ha : 0 ≤ a ∧ a ≤ 15
  · rw [decide_eq_true ha, Bool.and_true]
    by_cases hx : 0 ≤ x ∧ x ≤ 15
    · obtain ⟨m, rfl⟩ := Int.eq_ofNat_of_zero_le ha.1
      obtain ⟨j, rfl⟩ := Int.eq_ofNat_of_zero_le hx.1
      have hm : m ≤ 15 := by omega
      have hlt : (v % 65536).toNat < 65536 := by omega
      have e0 := hasB_nat v (v % 65536).toNat m hm (by omega)
      have ej := hasB_nat v (v % 65536).toNat j (by omega) (by omega)
      rw [Nat.mod_eq_of_lt hlt] at e0 ej
      have key : withB v (m : Int) = (((v % 65536).toNat ||| 2 ^ m : Nat) : Int) := by
        unfold withB
        rw [decide_eq_true ha, Bool.true_and, e0, show (Int.toNat ((m : Nat) : Int)) = m from rfl]
        cases c : (v % 65536).toNat.testBit m with
        | true =>
          rw [if_neg (by decide)]
          have : (v % 65536).toNat ||| 2 ^ m = (v % 65536).toNat := by
            apply Nat.eq_of_testBit_eq
            intro i
            rw [Nat.testBit_or, Nat.testBit_two_pow]
            by_cases d : m = i
            · subst d; simp [c]
            · simp [d]
          rw [this]; omega
        | false =>
          rw [if_pos (by decide), or_add_pow _ _ hlt hm c]
          have hpi : ((2 : Int) ^ m) = ((2 ^ m : Nat) : Int) := by simp
          rw [hpi]; omega
      have hor : (v % 65536).toNat ||| 2 ^ m < 65536 := by
        have : (2 : Nat) ^ m < 2 ^ 16 := Nat.pow_lt_pow_right (by omega) (by omega)
        exact Nat.or_lt_two_pow (n := 16) hlt this
      rw [key, hasB_nat _ ((v % 65536).toNat ||| 2 ^ m) j (by omega) rfl, Nat.mod_eq_of_lt hor, Nat.testBit_or, Nat.testBit_two_pow, ej]
      by_cases d : m = j
      · subst d; simp
      · rw [decide_eq_false d, decide_eq_false (show ¬ ((j : Nat) : Int) = (m : Int) by omega)]
    · rw [hasB_out hx, hasB_out hx, decide_eq_false (fun e => hx (by rw [e]; exact ha))]; rfl
  · rw [decide_eq_false ha, Bool.and_false, Bool.or_false]
    have : withB v a = v % 65536 := by unfold withB; rw [decide_eq_false ha]; rfl
    rw [this, hasB_mod]
theorem hasB_zero (x : Int) : hasB 0 x = false := by
  unfold hasB
  rw [show (0 : Int) / 2 ^ x.toNat % 2 = 0 by simp]
  simp
theorem sndV_has (ms : List Msg) (x : Int) : ∀ k, k ≤ ms.length → (∀ m ∈ ms.take k, 0 ≤ m.sender ∧ m.sender < 16) → hasB (sndV ms k) x = (ms.take k).any fun m => decide (m.sender = x)
  | 0, _, _ => hasB_zero x
  | k + 1, hk, h => by
    have hlt : k < ms.length := by omega
    rw [List.take_succ_eq_append_getElem hlt] at h ⊢
    have hm := h ms[k] (List.mem_append.mpr (.inr (List.mem_singleton.mpr rfl)))
    have hg : ms.getD k d_msg = ms[k] := by rw [List.getD_eq_getElem?_getD, List.getElem?_eq_getElem hlt]; rfl
    rw [sndV, hasB_with, sndV_has ms x k (by omega) (fun m hm => h m (List.mem_append.mpr (.inl hm))), hg, decide_eq_true (show 0 ≤ ms[k].sender ∧ ms[k].sender ≤ 15 by omega), List.any_append, Bool.and_true]
    congr 1
    simp only [List.any_cons, List.any_nil, Bool.or_false]
    by_cases c : x = ms[k].sender
    · rw [decide_eq_true c, decide_eq_true c.symm]
    · rw [decide_eq_false c, decide_eq_false (fun e => c e.symm)]
theorem entM_is {mb : Int} {incs : List Int} {ms : List Msg} {k : Nat} (h : entM mb incs ms k = true) : msgR (ms.getD k d_msg) = true := by
  simp only [entM, Bool.and_eq_true] at h
  exact h.1.1.1.1
def eRight_S : RX.Spec U := fun
  | [⟨true, [.v (.int .i64 t), .v (.int .i64 ep), .v (.int .i64 mb), .sl .int incs, .sl .msg ms]⟩] => some ⟨some ((incs.length ≤ 1000000 ∧ ms.length ≤ 1000000)), (.one ⟨false, [.v (.bool (entR t ep mb incs ms))]⟩)⟩
  | _ => none

theorem eRight_ok : ConOk Tryd.prog U GV 17 eRight_S :=
  fn_go gs ty glok (conCons eodd_ok (conCons anyOdd_ok (conCons vCount_ok (conCons entInc_ok (conCons msgRight_ok (conCons vHas_ok (conCons msgLess_ok (conCons vWith_ok conNil)))))))) Tryd.func17 (by kernel_rfl) fun ds r hg hp => by
    unfold eRight_S at hg
    split at hg
    · rename_i t ep mb incs ms
      obtain ⟨incs, rfl⟩ : ∃ q_ : List Int, q_ = incs := ⟨incs, rfl⟩
      obtain ⟨ms, rfl⟩ : ∃ q_ : List Msg, q_ = ms := ⟨ms, rfl⟩
      cases hg
      replace hp : ((incs.length ≤ 1000000 ∧ ms.length ≤ 1000000)) := hp
      refine ⟨fun st key => if key = 5 then some { N := ms.length, mods := fun k => [.tv 43 (.int .i64 (k : Int)), .tv 3 (.int .i64 (sndV ms k))], inv := fun k => (List.range k).all (entM mb incs ms) = true } else none, ((!(!sm t || !sm ep || decide (mb < (0 : Int)) || decide ((65536 : Int) ≤ mb) || (↑(List.length incs) : Int) != (↑(List.length (vl mb (16 : Nat))) : Int))) = true → List.length incs ≤ (1000000 : Nat)) ∧ ((!sm t || !sm ep || decide (mb < (0 : Int)) || decide ((65536 : Int) ≤ mb) || (↑(List.length incs) : Int) != (↑(List.length (vl mb (16 : Nat))) : Int) || !List.all incs sm) = true → Out.one (U := U) (D.mk false [CV.v (Value.bool false)]) = Out.one (U := U) (D.mk false [CV.v (Value.bool (entR t ep mb incs ms))])) ∧ ((!sm t || !sm ep || decide (mb < (0 : Int)) || decide ((65536 : Int) ≤ mb) || (↑(List.length incs) : Int) != (↑(List.length (vl mb (16 : Nat))) : Int) || !List.all incs sm) = false → true = true ∧ (Value.int IntKind.i64 (0 : Int) = Value.int IntKind.i64 (0 : Int) ∧ Value.int IntKind.i64 (0 : Int) = Value.int IntKind.i64 (sndV ms (0 : Nat))) ∧ ∀ (k : Nat), k ≤ List.length ms → List.all (List.range k) (entM mb incs ms) = true → (decide ((↑k : Int) < (↑(List.length ms) : Int)) = true → ((0 : Int) ≤ (↑k : Int) ∧ (↑k : Int) < (↑(List.length ms) : Int)) ∧ ((!(!incIs mb incs (Msg.sender (List.getD ms (Int.toNat (↑k : Int)) (d_msg))) || incOf mb incs (Msg.sender (List.getD ms (Int.toNat (↑k : Int)) (d_msg))) != Msg.inc (List.getD ms (Int.toNat (↑k : Int)) (d_msg)) || !msgR (List.getD ms (Int.toNat (↑k : Int)) (d_msg)) || hasB (sndV ms k) (Msg.sender (List.getD ms (Int.toNat (↑k : Int)) (d_msg)))) && decide ((0 : Int) < (↑k : Int))) = true → (0 : Int) ≤ wrap64 ((↑k : Int) - (1 : Int)) ∧ wrap64 ((↑k : Int) - (1 : Int)) < (↑(List.length ms) : Int)) ∧ ((!incIs mb incs (Msg.sender (List.getD ms (Int.toNat (↑k : Int)) (d_msg))) || incOf mb incs (Msg.sender (List.getD ms (Int.toNat (↑k : Int)) (d_msg))) != Msg.inc (List.getD ms (Int.toNat (↑k : Int)) (d_msg)) || !msgR (List.getD ms (Int.toNat (↑k : Int)) (d_msg)) || hasB (sndV ms k) (Msg.sender (List.getD ms (Int.toNat (↑k : Int)) (d_msg))) || decide ((0 : Int) < (↑k : Int)) && !msgL (List.getD ms (Int.toNat (wrap64 ((↑k : Int) - (1 : Int)))) (d_msg)) (List.getD ms (Int.toNat (↑k : Int)) (d_msg))) = true → Out.one (U := U) (D.mk false [CV.v (Value.bool false)]) = Out.one (U := U) (D.mk false [CV.v (Value.bool (entR t ep mb incs ms))])) ∧ ((!incIs mb incs (Msg.sender (List.getD ms (Int.toNat (↑k : Int)) (d_msg))) || incOf mb incs (Msg.sender (List.getD ms (Int.toNat (↑k : Int)) (d_msg))) != Msg.inc (List.getD ms (Int.toNat (↑k : Int)) (d_msg)) || !msgR (List.getD ms (Int.toNat (↑k : Int)) (d_msg)) || hasB (sndV ms k) (Msg.sender (List.getD ms (Int.toNat (↑k : Int)) (d_msg))) || decide ((0 : Int) < (↑k : Int)) && !msgL (List.getD ms (Int.toNat (wrap64 ((↑k : Int) - (1 : Int)))) (d_msg)) (List.getD ms (Int.toNat (↑k : Int)) (d_msg))) = false → k < List.length ms ∧ List.all (List.range (k + (1 : Nat))) (entM mb incs ms) = true ∧ Value.int IntKind.i64 (wrap64 ((↑k : Int) + (1 : Int))) = Value.int IntKind.i64 (↑(k + (1 : Nat)) : Int) ∧ Value.int IntKind.i64 (withB (sndV ms k) (Msg.sender (List.getD ms (Int.toNat (↑k : Int)) (d_msg)))) = Value.int IntKind.i64 (sndV ms (k + (1 : Nat))))) ∧ (decide ((↑k : Int) < (↑(List.length ms) : Int)) = false → Out.one (U := U) (D.mk false [CV.v (Value.bool true)]) = Out.one (U := U) (D.mk false [CV.v (Value.bool (entR t ep mb incs ms))]))), by kernel_rfl, ?_⟩
      obtain ⟨p1, p2⟩ := hp
      have noS : entS t ep mb incs = false → entR t ep mb incs ms = false := fun h => by unfold entR; rw [h]; rfl
      have noM : ∀ k, k < ms.length → entM mb incs ms k = false → entR t ep mb incs ms = false := fun k hk h => by
        unfold entR
        rw [List.all_eq_false.mpr ⟨k, List.mem_range.mpr hk, by rw [h]; decide⟩, Bool.and_false]
      have hS : entS t ep mb incs = !(!sm t || !sm ep || decide (mb < (0 : Int)) || decide ((65536 : Int) ≤ mb) || (incs.length : Int) != ((vl mb 16).length : Int) || !incs.all sm) := by
        unfold entS
        have e1 : decide (0 ≤ mb ∧ mb ≤ 65535) = (!decide (mb < (0 : Int)) && !decide ((65536 : Int) ≤ mb)) := by
          rw [Bool.eq_iff_iff]; simp only [Bool.and_eq_true, decide_eq_true_eq, Bool.not_eq_true', decide_eq_false_iff_not]; omega
        have e2 : decide (incs.length = (vl mb 16).length) = !((incs.length : Int) != ((vl mb 16).length : Int)) := by
          rw [Bool.eq_iff_iff]; simp; omega
        rw [e1, e2]
        simp only [Bool.not_or, Bool.not_not, Bool.and_assoc]
      refine ⟨fun _ => p1, fun h => ?_, fun h => ⟨rfl, ⟨rfl, rfl⟩, fun k hk hM => ⟨fun hlt => ?_, fun hge => ?_⟩⟩⟩
      · rw [noS (by rw [hS, h]; rfl)]
      · have hSt : entS t ep mb incs = true := by rw [hS, h]; rfl
        have hlt : k < ms.length := by have := of_decide_eq_true hlt; omega
        have ew : decide ((0 : Int) < (k : Int)) = true → wrap64 ((k : Int) - (1 : Int)) = (k : Int) - 1 := fun c => w64 (by omega)
        have ew : wrap64 ((k : Int) - (1 : Int)) = (k : Int) - 1 := w64 (by omega)
        have en : Int.toNat ((k : Int) - 1) = k - 1 := by omega
        have hsnd : ∀ m ∈ ms.take k, 0 ≤ m.sender ∧ m.sender < 16 := fun m hm => by
          obtain ⟨j, hj, rfl⟩ := List.getElem_of_mem hm
          have hjk : j < k := by rw [List.length_take] at hj; omega
          have h1 := List.all_eq_true.mp hM j (List.mem_range.mpr hjk)
          have h2 := (msgR_is (entM_is h1)).2.1
          rw [List.getD_eq_getElem?_getD, List.getElem?_eq_getElem (by omega)] at h2
          rw [List.getElem_take]
          exact h2
        have hpre : entM mb incs ms k = !(!incIs mb incs (ms.getD k d_msg).sender || incOf mb incs (ms.getD k d_msg).sender != (ms.getD k d_msg).inc || !msgR (ms.getD k d_msg) || hasB (sndV ms k) (ms.getD k d_msg).sender || decide ((0 : Int) < (k : Int)) && !msgL (ms.getD (k - 1) d_msg) (ms.getD k d_msg)) := by
          rw [sndV_has ms _ k (by omega) hsnd]
          unfold entM
          have e3 : (decide (k = 0) || msgL (ms.getD (k - 1) d_msg) (ms.getD k d_msg)) = !(decide ((0 : Int) < (k : Int)) && !msgL (ms.getD (k - 1) d_msg) (ms.getD k d_msg)) := by
            by_cases c : k = 0
            · rw [decide_eq_true c, decide_eq_false (by omega)]; rfl
            · rw [decide_eq_false c, decide_eq_true (by omega)]; simp
          have e4 : decide (incOf mb incs (ms.getD k d_msg).sender = (ms.getD k d_msg).inc) = !(incOf mb incs (ms.getD k d_msg).sender != (ms.getD k d_msg).inc) := by
            rw [Bool.eq_iff_iff]; simp
          have e5 : ((ms.take k).all fun x => !decide (x.sender = (ms.getD k d_msg).sender)) = !((ms.take k).any fun x => decide (x.sender = (ms.getD k d_msg).sender)) := by
            rw [List.not_any_eq_all_not]
          rw [e3, e4, e5]
          simp only [Bool.not_or, Bool.not_not]
          generalize msgR (ms.getD k d_msg) = a1
          generalize incIs mb incs (ms.getD k d_msg).sender = a2
          generalize (incOf mb incs (ms.getD k d_msg).sender != (ms.getD k d_msg).inc) = a3
          generalize (ms.take k).any _ = a4
          generalize (decide ((0 : Int) < (k : Int)) && !msgL (ms.getD (k - 1) d_msg) (ms.getD k d_msg)) = a5
          cases a1 <;> cases a2 <;> cases a3 <;> cases a4 <;> cases a5 <;> rfl
        simp only [ew, en, Int.toNat_natCast]
        refine ⟨by omega, fun c => ?_, fun bad => ?_, fun good => ⟨hlt, ?_, ?_, rfl⟩⟩
        · have c := (Bool.and_eq_true_iff.mp c).2
          have c := of_decide_eq_true c
          exact ⟨by omega, by omega⟩
        · rw [noM k hlt (by rw [hpre, bad]; rfl)]
        · have hMk : entM mb incs ms k = true := by rw [hpre, good]; rfl
          rw [List.range_succ, List.all_append, hM]
          simp [hMk]
        · rw [w64 (by omega)]; rfl
      · have hSt : entS t ep mb incs = true := by rw [hS, h]; rfl
        have hge := of_decide_eq_false hge
        have e6 : k = ms.length := by omega
        subst e6
        have : entR t ep mb incs ms = true := by unfold entR; rw [hSt, hM]; rfl
        rw [this]
    · cases hg

end Go.Proofs.YtdpoimomipdgjaaDoor.X
