/- A message's bytes, as the document says. -/
import Derived.Test.YtdpoimomipdgjaaDoorRRef04
import Derived.Test.YtdpoimomipdgjaaDoorRPrint
namespace Go.Proofs.YtdpoimomipdgjaaDoor.X
open Go Go.RX Go.RowKit Go.Proofs
set_option linter.unusedVariables false
set_option linter.unusedSimpArgs false
def twoB (n : Int) : ByteArray := strOfNums [n / 256 % 256, n % 256]
def toldI (s : ByteArray) (k : Int) : Int := 256 * bt s k + bt s (k + 1)
def encB (x : Msg) : ByteArray := if msgR x = true then printB x.ext x.id ++ strOfNums [x.sender % 256] ++ twoB x.inc ++ twoB x.seq ++ twoB x.number ++ strOfNums [(x.data.size : Int) % 256] ++ x.data else .empty
def decM0 (s : ByteArray) : Msg := ⟨parseB (s.extract 0 4) && parseE (s.extract 0 4), if parseB (s.extract 0 4) = true then parseN (s.extract 0 4) else 0, bt s 4, toldI s 5, toldI s 7, toldI s 9, s.extract 12 (12 + (bt s 11).toNat)⟩
def decE (s : ByteArray) : Int := if s.size < 12 then 3 else if 8 < bt s 11 then 2 else if (s.size : Int) < 12 + bt s 11 then 3 else if (parseX (s.extract 0 4) != 0 || !msgR (decM0 s)) = true then 2 else 0
def decM (s : ByteArray) : Msg := if decE s = 0 then decM0 s else d_msg
def decR (s : ByteArray) : ByteArray := if decE s = 0 then s.extract (12 + (bt s 11).toNat) s.size else .empty
theorem printB_size (e : Bool) (n : Int) : (printB e n).size ≤ 4 := by
  unfold printB
  split
  · rw [strOfNums_size]; exact Nat.le_refl _
  · exact Nat.zero_le _
theorem twoB_size (n : Int) : (twoB n).size = 2 := by unfold twoB; rw [strOfNums_size]; rfl
theorem msgR_is {x : Msg} (h : msgR x = true) : right x.ext x.id = true ∧ (0 ≤ x.sender ∧ x.sender < 16) ∧ (1 ≤ x.inc ∧ x.inc ≤ 65535) ∧ (1 ≤ x.seq ∧ x.seq ≤ 65535) ∧ (1 ≤ x.number ∧ x.number ≤ 65535) ∧ (x.data.size : Int) ≤ 8 := by
  simp only [msgR, sm, Bool.and_eq_true, decide_eq_true_eq] at h
  obtain ⟨⟨⟨⟨⟨a, b⟩, c⟩, d⟩, e⟩, f⟩ := h
  exact ⟨a, b, c, d, e, f⟩
def rtwo_S : RX.Spec U := fun
  | [⟨false, [.v (.int .i64 n)]⟩] => some ⟨some ((0 ≤ n ∧ n ≤ 65535)), (.one ⟨false, [.v (.string (twoB n))]⟩)⟩
  | _ => none

theorem rtwo_ok : ConOk Tryd.prog U GV 60 rtwo_S :=
  fn_go gs ty glok conNil Tryd.func60 (by kernel_rfl) fun ds r hg hp => by
    unfold rtwo_S at hg
    split at hg
    · rename_i n
      cases hg
      replace hp : ((0 ≤ n ∧ n ≤ 65535)) := hp
      refine ⟨fun _ _ => none, (256 : Int) ≠ (0 : Int) ∧ (256 : Int) ≠ (0 : Int) ∧ Out.one (U := U) (D.mk false [CV.v (Value.string (strOfNums (List.map (fun x => x) [IntKind.wrap IntKind.u8 (wrap64 (Int.tdiv n (256 : Int))), IntKind.wrap IntKind.u8 (Int.tmod n (256 : Int))])))]) = Out.one (U := U) (D.mk false [CV.v (Value.string (twoB n))]), by kernel_rfl, ?_⟩
      obtain ⟨p1, p2⟩ := hp
      refine ⟨by decide, by decide, ?_⟩
      simp only [Out.one.injEq, Out.tup.injEq, D.mk.injEq, List.cons.injEq, CV.v.injEq, CV.sl.injEq, Value.bool.injEq, Value.int.injEq, Value.string.injEq, and_true, true_and, heq_eq_eq]
      rw [Int.tdiv_eq_ediv_of_nonneg p1, w64 (x := n / 256) (by omega), Int.tmod_eq_emod_of_nonneg p1]
      simp only [wu8, twoB, List.map_cons, List.map_nil, Int.emod_emod_of_dvd _ (Int.dvd_refl 256)]
    · cases hg

def rtold_S : RX.Spec U := fun
  | [⟨false, [.v (.string s)]⟩, ⟨false, [.v (.int .i64 k)]⟩] => some ⟨some ((0 ≤ k ∧ k + 1 < (s.size : Int) ∧ k ≤ 1000000)), (.one ⟨false, [.v (.int .i64 (toldI s k))]⟩)⟩
  | _ => none

theorem rtold_ok : ConOk Tryd.prog U GV 72 rtold_S :=
  fn_go gs ty glok conNil Tryd.func72 (by kernel_rfl) fun ds r hg hp => by
    unfold rtold_S at hg
    split at hg
    · rename_i s k
      cases hg
      replace hp : ((0 ≤ k ∧ k + 1 < (s.size : Int) ∧ k ≤ 1000000)) := hp
      refine ⟨fun _ _ => none, ((0 : Int) ≤ k ∧ k < (↑(ByteArray.size s) : Int)) ∧ ((0 : Int) ≤ wrap64 (k + (1 : Int)) ∧ wrap64 (k + (1 : Int)) < (↑(ByteArray.size s) : Int)) ∧ Out.one (U := U) (D.mk false [CV.v (Value.int IntKind.i64 (wrap64 (wrap64 ((256 : Int) * IntKind.wrap IntKind.i64 (bt s k)) + IntKind.wrap IntKind.i64 (bt s (wrap64 (k + (1 : Int)))))))]) = Out.one (U := U) (D.mk false [CV.v (Value.int IntKind.i64 (toldI s k))]), by kernel_rfl, ?_⟩
      simp only [wr64]
      obtain ⟨p1, p2, p3⟩ := hp
      have r1 := bt_range s k
      have r2 := bt_range s (k + 1)
      have e1 : wrap64 (k + (1 : Int)) = k + 1 := w64 (by omega)
      rw [e1]
      refine ⟨by omega, by omega, ?_⟩
      simp only [Out.one.injEq, Out.tup.injEq, D.mk.injEq, List.cons.injEq, CV.v.injEq, CV.sl.injEq, Value.bool.injEq, Value.int.injEq, Value.string.injEq, and_true, true_and, heq_eq_eq]
      rw [w64 (x := bt s k) (by omega), w64 (x := bt s (k + 1)) (by omega), w64 (x := 256 * bt s k) (by omega), w64 (by omega)]
      rfl
    · cases hg

def rEncode_S : RX.Spec U := fun
  | [⟨true, [.v (.bool e), .v (.int .i64 n), .v (.int .i64 sd), .v (.int .i64 ic), .v (.int .i64 sq), .v (.int .i64 nm), .v (.string dt)]⟩] => some ⟨none, (.tup [⟨false, [.v (.string (encB ⟨e, n, sd, ic, sq, nm, dt⟩))]⟩, ⟨false, [.v (.int .i64 (errI (msgR ⟨e, n, sd, ic, sq, nm, dt⟩) 1))]⟩])⟩
  | _ => none

theorem rEncode_ok : ConOk Tryd.prog U GV 30 rEncode_S :=
  fn_go gs ty glok (conCons rmsgRight_ok (conCons rPrint_ok (conCons rtwo_ok conNil))) Tryd.func30 (by kernel_rfl) fun ds r hg hp => by
    unfold rEncode_S at hg
    split at hg
    · rename_i e n sd ic sq nm dt
      cases hg
      refine ⟨fun _ _ => none, ((!msgR (Msg.mk e n sd ic sq nm dt)) = true → Out.tup (U := U) [D.mk false [CV.v (Value.string (ByteArray.mk (Array.mk [])))], D.mk false [CV.v (Value.int IntKind.i64 (1 : Int))]] = Out.tup (U := U) [D.mk false [CV.v (Value.string (encB (Msg.mk e n sd ic sq nm dt)))], D.mk false [CV.v (Value.int IntKind.i64 (errI (msgR (Msg.mk e n sd ic sq nm dt)) (1 : Int)))]]) ∧ ((!msgR (Msg.mk e n sd ic sq nm dt)) = false → ByteArray.size (printB e n) + ByteArray.size (strOfNums (List.map (fun x => x) [IntKind.wrap IntKind.u8 sd])) ≤ (9223372036854775807 : Nat) ∧ ((0 : Int) ≤ ic ∧ ic ≤ (65535 : Int)) ∧ ByteArray.size (printB e n ++ strOfNums (List.map (fun x => x) [IntKind.wrap IntKind.u8 sd])) + ByteArray.size (twoB ic) ≤ (9223372036854775807 : Nat) ∧ ((0 : Int) ≤ sq ∧ sq ≤ (65535 : Int)) ∧ ByteArray.size (printB e n ++ strOfNums (List.map (fun x => x) [IntKind.wrap IntKind.u8 sd]) ++ twoB ic) + ByteArray.size (twoB sq) ≤ (9223372036854775807 : Nat) ∧ ((0 : Int) ≤ nm ∧ nm ≤ (65535 : Int)) ∧ ByteArray.size (printB e n ++ strOfNums (List.map (fun x => x) [IntKind.wrap IntKind.u8 sd]) ++ twoB ic ++ twoB sq) + ByteArray.size (twoB nm) ≤ (9223372036854775807 : Nat) ∧ ByteArray.size (printB e n ++ strOfNums (List.map (fun x => x) [IntKind.wrap IntKind.u8 sd]) ++ twoB ic ++ twoB sq ++ twoB nm) + ByteArray.size (strOfNums (List.map (fun x => x) [IntKind.wrap IntKind.u8 (↑(ByteArray.size dt) : Int)])) ≤ (9223372036854775807 : Nat) ∧ ByteArray.size (printB e n ++ strOfNums (List.map (fun x => x) [IntKind.wrap IntKind.u8 sd]) ++ twoB ic ++ twoB sq ++ twoB nm ++ strOfNums (List.map (fun x => x) [IntKind.wrap IntKind.u8 (↑(ByteArray.size dt) : Int)])) + ByteArray.size dt ≤ (9223372036854775807 : Nat) ∧ Out.tup (U := U) [D.mk false [CV.v (Value.string (printB e n ++ strOfNums (List.map (fun x => x) [IntKind.wrap IntKind.u8 sd]) ++ twoB ic ++ twoB sq ++ twoB nm ++ strOfNums (List.map (fun x => x) [IntKind.wrap IntKind.u8 (↑(ByteArray.size dt) : Int)]) ++ dt))], D.mk false [CV.v (Value.int IntKind.i64 (0 : Int))]] = Out.tup (U := U) [D.mk false [CV.v (Value.string (encB (Msg.mk e n sd ic sq nm dt)))], D.mk false [CV.v (Value.int IntKind.i64 (errI (msgR (Msg.mk e n sd ic sq nm dt)) (1 : Int)))]]), by kernel_rfl, ?_⟩
      refine ⟨fun h => ?_, fun h => ?_⟩
      · have h : msgR ⟨e, n, sd, ic, sq, nm, dt⟩ = false := by simpa using h
        simp only [Out.one.injEq, Out.tup.injEq, D.mk.injEq, List.cons.injEq, CV.v.injEq, CV.sl.injEq, Value.bool.injEq, Value.int.injEq, Value.string.injEq, and_true, true_and, heq_eq_eq]
        simp [h, errI, encB]
        rfl
      · have h : msgR ⟨e, n, sd, ic, sq, nm, dt⟩ = true := by simpa using h
        obtain ⟨h1, h2, h3, h4, h5, h6⟩ := msgR_is h
        have h3 : 1 ≤ ic ∧ ic ≤ 65535 := h3
        have h4 : 1 ≤ sq ∧ sq ≤ 65535 := h4
        have h5 : 1 ≤ nm ∧ nm ≤ 65535 := h5
        have h6 : (dt.size : Int) ≤ 8 := h6
        have hs := printB_size e n
        have ht := twoB_size
        have hu : ∀ x : Int, (strOfNums (List.map (fun x => x) [x])).size = 1 := fun x => by rw [strOfNums_size]; rfl
        refine ⟨?_, ⟨by omega, by omega⟩, ?_, ⟨by omega, by omega⟩, ?_, ⟨by omega, by omega⟩, ?_, ?_, ?_, ?_⟩
        · rw [hu]; omega
        · rw [ByteArray.size_append, hu, ht]; omega
        · rw [ByteArray.size_append, ByteArray.size_append, hu, ht, ht]; omega
        · rw [ByteArray.size_append, ByteArray.size_append, ByteArray.size_append, hu, ht, ht, ht]; omega
        · rw [ByteArray.size_append, ByteArray.size_append, ByteArray.size_append, ByteArray.size_append, hu, hu, ht, ht, ht]; omega
        · rw [ByteArray.size_append, ByteArray.size_append, ByteArray.size_append, ByteArray.size_append, ByteArray.size_append, hu, hu, ht, ht, ht]; omega
        · simp only [Out.one.injEq, Out.tup.injEq, D.mk.injEq, List.cons.injEq, CV.v.injEq, CV.sl.injEq, Value.bool.injEq, Value.int.injEq, Value.string.injEq, and_true, true_and, heq_eq_eq]
          simp only [encB, h, if_true, wu8, List.map_cons, List.map_nil, errI, and_self]
    · cases hg

def rDecode_S : RX.Spec U := fun
  | [⟨false, [.v (.string s)]⟩] => some ⟨none, (.tup [⟨true, [.v (.bool ((decM s).ext)), .v (.int .i64 ((decM s).id)), .v (.int .i64 ((decM s).sender)), .v (.int .i64 ((decM s).inc)), .v (.int .i64 ((decM s).seq)), .v (.int .i64 ((decM s).number)), .v (.string ((decM s).data))]⟩, ⟨false, [.v (.string (decR s))]⟩, ⟨false, [.v (.int .i64 (decE s))]⟩])⟩
  | _ => none

theorem rDecode_ok : ConOk Tryd.prog U GV 49 rDecode_S :=
  fn_go gs ty glok (conCons rParse_ok (conCons rtold_ok (conCons rmsgRight_ok conNil))) Tryd.func49 (by kernel_rfl) fun ds r hg hp => by
    unfold rDecode_S at hg
    split at hg
    · rename_i s
      cases hg
      refine ⟨fun _ _ => none, (decide ((↑(ByteArray.size s) : Int) < (12 : Int)) = true → Out.tup (U := U) [D.mk true [CV.v (Value.bool false), CV.v (Value.int IntKind.i64 (0 : Int)), CV.v (Value.int IntKind.i64 (0 : Int)), CV.v (Value.int IntKind.i64 (0 : Int)), CV.v (Value.int IntKind.i64 (0 : Int)), CV.v (Value.int IntKind.i64 (0 : Int)), CV.v (Value.string (ByteArray.mk (Array.mk [])))], D.mk false [CV.v (Value.string (ByteArray.mk (Array.mk [])))], D.mk false [CV.v (Value.int IntKind.i64 (3 : Int))]] = Out.tup (U := U) [D.mk true [CV.v (Value.bool (Msg.ext (decM s))), CV.v (Value.int IntKind.i64 (Msg.id (decM s))), CV.v (Value.int IntKind.i64 (Msg.sender (decM s))), CV.v (Value.int IntKind.i64 (Msg.inc (decM s))), CV.v (Value.int IntKind.i64 (Msg.seq (decM s))), CV.v (Value.int IntKind.i64 (Msg.number (decM s))), CV.v (Value.string (Msg.data (decM s)))], D.mk false [CV.v (Value.string (decR s))], D.mk false [CV.v (Value.int IntKind.i64 (decE s))]]) ∧ (decide ((↑(ByteArray.size s) : Int) < (12 : Int)) = false → ((0 : Int) ≤ (11 : Int) ∧ (11 : Int) < (↑(ByteArray.size s) : Int)) ∧ (decide ((8 : Int) < IntKind.wrap IntKind.i64 (bt s (11 : Int))) = true → Out.tup (U := U) [D.mk true [CV.v (Value.bool false), CV.v (Value.int IntKind.i64 (0 : Int)), CV.v (Value.int IntKind.i64 (0 : Int)), CV.v (Value.int IntKind.i64 (0 : Int)), CV.v (Value.int IntKind.i64 (0 : Int)), CV.v (Value.int IntKind.i64 (0 : Int)), CV.v (Value.string (ByteArray.mk (Array.mk [])))], D.mk false [CV.v (Value.string (ByteArray.mk (Array.mk [])))], D.mk false [CV.v (Value.int IntKind.i64 (2 : Int))]] = Out.tup (U := U) [D.mk true [CV.v (Value.bool (Msg.ext (decM s))), CV.v (Value.int IntKind.i64 (Msg.id (decM s))), CV.v (Value.int IntKind.i64 (Msg.sender (decM s))), CV.v (Value.int IntKind.i64 (Msg.inc (decM s))), CV.v (Value.int IntKind.i64 (Msg.seq (decM s))), CV.v (Value.int IntKind.i64 (Msg.number (decM s))), CV.v (Value.string (Msg.data (decM s)))], D.mk false [CV.v (Value.string (decR s))], D.mk false [CV.v (Value.int IntKind.i64 (decE s))]]) ∧ (decide ((8 : Int) < IntKind.wrap IntKind.i64 (bt s (11 : Int))) = false → (decide ((↑(ByteArray.size s) : Int) < wrap64 ((12 : Int) + IntKind.wrap IntKind.i64 (bt s (11 : Int)))) = true → Out.tup (U := U) [D.mk true [CV.v (Value.bool false), CV.v (Value.int IntKind.i64 (0 : Int)), CV.v (Value.int IntKind.i64 (0 : Int)), CV.v (Value.int IntKind.i64 (0 : Int)), CV.v (Value.int IntKind.i64 (0 : Int)), CV.v (Value.int IntKind.i64 (0 : Int)), CV.v (Value.string (ByteArray.mk (Array.mk [])))], D.mk false [CV.v (Value.string (ByteArray.mk (Array.mk [])))], D.mk false [CV.v (Value.int IntKind.i64 (3 : Int))]] = Out.tup (U := U) [D.mk true [CV.v (Value.bool (Msg.ext (decM s))), CV.v (Value.int IntKind.i64 (Msg.id (decM s))), CV.v (Value.int IntKind.i64 (Msg.sender (decM s))), CV.v (Value.int IntKind.i64 (Msg.inc (decM s))), CV.v (Value.int IntKind.i64 (Msg.seq (decM s))), CV.v (Value.int IntKind.i64 (Msg.number (decM s))), CV.v (Value.string (Msg.data (decM s)))], D.mk false [CV.v (Value.string (decR s))], D.mk false [CV.v (Value.int IntKind.i64 (decE s))]]) ∧ (decide ((↑(ByteArray.size s) : Int) < wrap64 ((12 : Int) + IntKind.wrap IntKind.i64 (bt s (11 : Int)))) = false → ((0 : Int) ≤ (4 : Int) ∧ (4 : Int) ≤ (↑(ByteArray.size s) : Int)) ∧ ((0 : Int) ≤ (4 : Int) ∧ (4 : Int) < (↑(ByteArray.size s) : Int)) ∧ ((0 : Int) ≤ (5 : Int) ∧ (6 : Int) < (↑(ByteArray.size s) : Int) ∧ (5 : Int) ≤ (1000000 : Int)) ∧ ((0 : Int) ≤ (7 : Int) ∧ (8 : Int) < (↑(ByteArray.size s) : Int) ∧ (7 : Int) ≤ (1000000 : Int)) ∧ ((0 : Int) ≤ (9 : Int) ∧ (10 : Int) < (↑(ByteArray.size s) : Int) ∧ (9 : Int) ≤ (1000000 : Int)) ∧ ((0 : Int) ≤ (12 : Int) ∧ (12 : Int) ≤ wrap64 ((12 : Int) + IntKind.wrap IntKind.i64 (bt s (11 : Int))) ∧ wrap64 ((12 : Int) + IntKind.wrap IntKind.i64 (bt s (11 : Int))) ≤ (↑(ByteArray.size s) : Int)) ∧ ((parseX (ByteArray.extract s (0 : Nat) (4 : Nat)) != (0 : Int) || !msgR (Msg.mk (parseB (ByteArray.extract s (0 : Nat) (4 : Nat)) && parseE (ByteArray.extract s (0 : Nat) (4 : Nat))) (if parseB (ByteArray.extract s (0 : Nat) (4 : Nat)) = true then parseN (ByteArray.extract s (0 : Nat) (4 : Nat)) else (0 : Int)) (IntKind.wrap IntKind.i64 (bt s (4 : Int))) (toldI s (5 : Int)) (toldI s (7 : Int)) (toldI s (9 : Int)) (ByteArray.extract s (12 : Nat) (Int.toNat (wrap64 ((12 : Int) + IntKind.wrap IntKind.i64 (bt s (11 : Int)))))))) = true → Out.tup (U := U) [D.mk true [CV.v (Value.bool false), CV.v (Value.int IntKind.i64 (0 : Int)), CV.v (Value.int IntKind.i64 (0 : Int)), CV.v (Value.int IntKind.i64 (0 : Int)), CV.v (Value.int IntKind.i64 (0 : Int)), CV.v (Value.int IntKind.i64 (0 : Int)), CV.v (Value.string (ByteArray.mk (Array.mk [])))], D.mk false [CV.v (Value.string (ByteArray.mk (Array.mk [])))], D.mk false [CV.v (Value.int IntKind.i64 (2 : Int))]] = Out.tup (U := U) [D.mk true [CV.v (Value.bool (Msg.ext (decM s))), CV.v (Value.int IntKind.i64 (Msg.id (decM s))), CV.v (Value.int IntKind.i64 (Msg.sender (decM s))), CV.v (Value.int IntKind.i64 (Msg.inc (decM s))), CV.v (Value.int IntKind.i64 (Msg.seq (decM s))), CV.v (Value.int IntKind.i64 (Msg.number (decM s))), CV.v (Value.string (Msg.data (decM s)))], D.mk false [CV.v (Value.string (decR s))], D.mk false [CV.v (Value.int IntKind.i64 (decE s))]]) ∧ ((parseX (ByteArray.extract s (0 : Nat) (4 : Nat)) != (0 : Int) || !msgR (Msg.mk (parseB (ByteArray.extract s (0 : Nat) (4 : Nat)) && parseE (ByteArray.extract s (0 : Nat) (4 : Nat))) (if parseB (ByteArray.extract s (0 : Nat) (4 : Nat)) = true then parseN (ByteArray.extract s (0 : Nat) (4 : Nat)) else (0 : Int)) (IntKind.wrap IntKind.i64 (bt s (4 : Int))) (toldI s (5 : Int)) (toldI s (7 : Int)) (toldI s (9 : Int)) (ByteArray.extract s (12 : Nat) (Int.toNat (wrap64 ((12 : Int) + IntKind.wrap IntKind.i64 (bt s (11 : Int)))))))) = false → ((0 : Int) ≤ wrap64 ((12 : Int) + IntKind.wrap IntKind.i64 (bt s (11 : Int))) ∧ wrap64 ((12 : Int) + IntKind.wrap IntKind.i64 (bt s (11 : Int))) ≤ (↑(ByteArray.size s) : Int)) ∧ Out.tup (U := U) [D.mk true [CV.v (Value.bool (parseB (ByteArray.extract s (0 : Nat) (4 : Nat)) && parseE (ByteArray.extract s (0 : Nat) (4 : Nat)))), CV.v (Value.int IntKind.i64 (if parseB (ByteArray.extract s (0 : Nat) (4 : Nat)) = true then parseN (ByteArray.extract s (0 : Nat) (4 : Nat)) else (0 : Int))), CV.v (Value.int IntKind.i64 (IntKind.wrap IntKind.i64 (bt s (4 : Int)))), CV.v (Value.int IntKind.i64 (toldI s (5 : Int))), CV.v (Value.int IntKind.i64 (toldI s (7 : Int))), CV.v (Value.int IntKind.i64 (toldI s (9 : Int))), CV.v (Value.string (ByteArray.extract s (12 : Nat) (Int.toNat (wrap64 ((12 : Int) + IntKind.wrap IntKind.i64 (bt s (11 : Int)))))))], D.mk false [CV.v (Value.string (ByteArray.extract s (Int.toNat (wrap64 ((12 : Int) + IntKind.wrap IntKind.i64 (bt s (11 : Int))))) (ByteArray.size s)))], D.mk false [CV.v (Value.int IntKind.i64 (0 : Int))]] = Out.tup (U := U) [D.mk true [CV.v (Value.bool (Msg.ext (decM s))), CV.v (Value.int IntKind.i64 (Msg.id (decM s))), CV.v (Value.int IntKind.i64 (Msg.sender (decM s))), CV.v (Value.int IntKind.i64 (Msg.inc (decM s))), CV.v (Value.int IntKind.i64 (Msg.seq (decM s))), CV.v (Value.int IntKind.i64 (Msg.number (decM s))), CV.v (Value.string (Msg.data (decM s)))], D.mk false [CV.v (Value.string (decR s))], D.mk false [CV.v (Value.int IntKind.i64 (decE s))]])))), by kernel_rfl, ?_⟩
      simp only [wr64]
      have r11 := bt_range s 11
      have r4 := bt_range s 4
      have w1 : wrap64 (bt s (11 : Int)) = bt s 11 := w64 (by omega)
      have w4 : wrap64 (bt s (4 : Int)) = bt s 4 := w64 (by omega)
      have w2 : wrap64 ((12 : Int) + bt s (11 : Int)) = 12 + bt s 11 := w64 (by omega)
      have n2 : Int.toNat ((12 : Int) + bt s (11 : Int)) = 12 + (bt s 11).toNat := by omega
      have bad : ∀ c, c ≠ 0 → decE s = c → decM s = d_msg ∧ decR s = .empty := fun c hc h => ⟨by unfold decM; rw [if_neg (by omega)], by unfold decR; rw [if_neg (by omega)]⟩
      rw [w1, w4, w2, n2]
      refine ⟨fun h => ?_, fun h => ?_⟩
      · have hE : decE s = 3 := if_pos (by have := of_decide_eq_true h; omega)
        obtain ⟨m1, m2⟩ := bad 3 (by decide) hE
        rw [m1, m2, hE]; rfl
      · have h := of_decide_eq_false h
        refine ⟨by omega, fun h2 => ?_, fun h2 => ?_⟩
        · have hE : decE s = 2 := by unfold decE; rw [if_neg (by omega), if_pos (of_decide_eq_true h2)]
          obtain ⟨m1, m2⟩ := bad 2 (by decide) hE
          rw [m1, m2, hE]; rfl
        · have h2 := of_decide_eq_false h2
          refine ⟨fun h3 => ?_, fun h3 => ?_⟩
          · have hE : decE s = 3 := by unfold decE; rw [if_neg (by omega), if_neg h2, if_pos (of_decide_eq_true h3)]
            obtain ⟨m1, m2⟩ := bad 3 (by decide) hE
            rw [m1, m2, hE]; rfl
          · have h3 := of_decide_eq_false h3
            refine ⟨by omega, by omega, by omega, by omega, by omega, by omega, fun h4 => ?_, fun h4 => ⟨by omega, ?_⟩⟩
            · have h4 : (parseX (s.extract 0 4) != 0 || !msgR (decM0 s)) = true := h4
              have hE : decE s = 2 := by unfold decE; rw [if_neg (by omega), if_neg h2, if_neg h3, if_pos h4]
              obtain ⟨m1, m2⟩ := bad 2 (by decide) hE
              rw [m1, m2, hE]; rfl
            · have h4 : (parseX (s.extract 0 4) != 0 || !msgR (decM0 s)) = false := h4
              have hE : decE s = 0 := by unfold decE; rw [if_neg (by omega), if_neg h2, if_neg h3, h4, if_neg (by decide)]
              have m1 : decM s = decM0 s := if_pos hE
              have m2 : decR s = s.extract (12 + (bt s 11).toNat) s.size := if_pos hE
              rw [m1, m2, hE]; rfl
    · cases hg

end Go.Proofs.YtdpoimomipdgjaaDoor.X
