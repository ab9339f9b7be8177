/- An entry's bytes, as the document says. -/
import Derived.Test.YtdpoimomipdgjaaDoorREright
import Derived.Test.YtdpoimomipdgjaaDoorREnc04
namespace Go.Proofs.YtdpoimomipdgjaaDoor.X
open Go Go.RX Go.RowKit Go.Proofs
set_option linter.unusedVariables false
set_option linter.unusedSimpArgs false
def encI (b : ByteArray) (l : List Int) : Nat → ByteArray
  | 0 => b
  | k + 1 => encI b l k ++ twoB (l.getD k 0)
def encL (b : ByteArray) (l : List Msg) : Nat → ByteArray
  | 0 => b
  | k + 1 => encL b l k ++ encB (l.getD k d_msg)
def encH (t ep mb : Int) (incs : List Int) (n : Int) : ByteArray := encI (twoB t ++ twoB ep ++ twoB mb) incs incs.length ++ strOfNums [n % 256]
def entB (t ep mb : Int) (incs : List Int) (ms : List Msg) : ByteArray := if entR t ep mb incs ms = true then encL (encH t ep mb incs ms.length) ms ms.length else .empty
theorem encB_size (x : Msg) : (encB x).size ≤ 20 := by
  unfold encB
  split
  · rename_i h
    obtain ⟨h1, h2, h3, h4, h5, h6⟩ := msgR_is h
    have hs := printB_size x.ext x.id
    rw [ByteArray.size_append, ByteArray.size_append, ByteArray.size_append, ByteArray.size_append, ByteArray.size_append, ByteArray.size_append, twoB_size, twoB_size, twoB_size, strOfNums_size, strOfNums_size]
    simp only [List.length_singleton]
    omega
  · exact Nat.zero_le _
theorem encI_size (b : ByteArray) (l : List Int) : ∀ k, (encI b l k).size = b.size + 2 * k
  | 0 => rfl
  | k + 1 => by rw [encI, ByteArray.size_append, twoB_size, encI_size b l k]; omega
theorem encL_size (b : ByteArray) (l : List Msg) : ∀ k, (encL b l k).size ≤ b.size + 20 * k
  | 0 => Nat.le_refl _
  | k + 1 => by
    have h1 := encL_size b l k
    have h2 := encB_size (l.getD k d_msg)
    rw [encL, ByteArray.size_append]; omega
theorem entR_is {t ep mb : Int} {incs : List Int} {ms : List Msg} (h : entR t ep mb incs ms = true) : (1 ≤ t ∧ t ≤ 65535) ∧ (1 ≤ ep ∧ ep ≤ 65535) ∧ (0 ≤ mb ∧ mb ≤ 65535) ∧ incs.length = (vl mb 16).length ∧ ∀ x ∈ incs, 1 ≤ x ∧ x ≤ 65535 := by
  unfold entR at h
  have h := (Bool.and_eq_true_iff.mp h).1
  simp only [entS, sm, Bool.and_eq_true, decide_eq_true_eq, List.all_eq_true] at h
  exact ⟨h.1.1.1.1, h.1.1.1.2, h.1.1.2, h.1.2, h.2⟩
def etwo_S : RX.Spec U := fun
  | [⟨false, [.v (.int .i64 n)]⟩] => some ⟨some ((0 ≤ n ∧ n ≤ 65535)), (.one ⟨false, [.v (.string (twoB n))]⟩)⟩
  | _ => none

theorem etwo_ok : ConOk Tryd.prog U GV 29 etwo_S :=
  fn_go gs ty glok conNil Tryd.func29 (by kernel_rfl) fun ds r hg hp => by
    unfold etwo_S at hg
    split at hg
    · rename_i n
      cases hg
      replace hp : ((0 ≤ n ∧ n ≤ 65535)) := hp
      refine ⟨fun _ _ => none, (256 : Int) ≠ (0 : Int) ∧ (256 : Int) ≠ (0 : Int) ∧ Out.one (U := U) (D.mk false [CV.v (Value.string (strOfNums (List.map (fun x => x) [IntKind.wrap IntKind.u8 (wrap64 (Int.tdiv n (256 : Int))), IntKind.wrap IntKind.u8 (Int.tmod n (256 : Int))])))]) = Out.one (U := U) (D.mk false [CV.v (Value.string (twoB n))]), by kernel_rfl, ?_⟩
      obtain ⟨p1, p2⟩ := hp
      refine ⟨by decide, by decide, ?_⟩
      simp only [Out.one.injEq, Out.tup.injEq, D.mk.injEq, List.cons.injEq, CV.v.injEq, CV.sl.injEq, Value.bool.injEq, Value.int.injEq, Value.string.injEq, and_true, true_and, heq_eq_eq]
      rw [Int.tdiv_eq_ediv_of_nonneg p1, w64 (x := n / 256) (by omega), Int.tmod_eq_emod_of_nonneg p1]
      simp only [wu8, twoB, List.map_cons, List.map_nil, Int.emod_emod_of_dvd _ (Int.dvd_refl 256)]
    · cases hg

def etold_S : RX.Spec U := fun
  | [⟨false, [.v (.string s)]⟩, ⟨false, [.v (.int .i64 k)]⟩] => some ⟨some ((0 ≤ k ∧ k + 1 < (s.size : Int) ∧ k ≤ 1000000)), (.one ⟨false, [.v (.int .i64 (toldI s k))]⟩)⟩
  | _ => none

theorem etold_ok : ConOk Tryd.prog U GV 48 etold_S :=
  fn_go gs ty glok conNil Tryd.func48 (by kernel_rfl) fun ds r hg hp => by
    unfold etold_S at hg
    split at hg
    · rename_i s k
      cases hg
      replace hp : ((0 ≤ k ∧ k + 1 < (s.size : Int) ∧ k ≤ 1000000)) := hp
      refine ⟨fun _ _ => none, ((0 : Int) ≤ k ∧ k < (↑(ByteArray.size s) : Int)) ∧ ((0 : Int) ≤ wrap64 (k + (1 : Int)) ∧ wrap64 (k + (1 : Int)) < (↑(ByteArray.size s) : Int)) ∧ Out.one (U := U) (D.mk false [CV.v (Value.int IntKind.i64 (wrap64 (wrap64 ((256 : Int) * IntKind.wrap IntKind.i64 (bt s k)) + IntKind.wrap IntKind.i64 (bt s (wrap64 (k + (1 : Int)))))))]) = Out.one (U := U) (D.mk false [CV.v (Value.int IntKind.i64 (toldI s k))]), by kernel_rfl, ?_⟩
      simp only [wr64]
      obtain ⟨p1, p2, p3⟩ := hp
      have r1 := bt_range s k
      have r2 := bt_range s (k + 1)
      have e1 : wrap64 (k + (1 : Int)) = k + 1 := w64 (by omega)
      rw [e1]
      refine ⟨by omega, by omega, ?_⟩
      simp only [Out.one.injEq, Out.tup.injEq, D.mk.injEq, List.cons.injEq, CV.v.injEq, CV.sl.injEq, Value.bool.injEq, Value.int.injEq, Value.string.injEq, and_true, true_and, heq_eq_eq]
      rw [w64 (x := bt s k) (by omega), w64 (x := bt s (k + 1)) (by omega), w64 (x := 256 * bt s k) (by omega), w64 (by omega)]
      rfl
    · cases hg

def reEncode_S : RX.Spec U := fun
  | [⟨true, [.v (.int .i64 t), .v (.int .i64 ep), .v (.int .i64 mb), .sl .int incs, .sl .msg ms]⟩] => some ⟨some ((incs.length ≤ 1000000 ∧ ms.length ≤ 1000000)), (.tup [⟨false, [.v (.string (entB t ep mb incs ms))]⟩, ⟨false, [.v (.int .i64 (errI (entR t ep mb incs ms) 1))]⟩])⟩
  | _ => none

theorem reEncode_ok : ConOk Tryd.prog U GV 14 reEncode_S :=
  fn_go gs ty glok (conCons reRight_ok (conCons etwo_ok (conCons rEncode_ok conNil))) Tryd.func14 (by kernel_rfl) fun ds r hg hp => by
    unfold reEncode_S at hg
    split at hg
    · rename_i t ep mb incs ms
      obtain ⟨incs, rfl⟩ : ∃ q_ : List Int, q_ = incs := ⟨incs, rfl⟩
      obtain ⟨ms, rfl⟩ : ∃ q_ : List Msg, q_ = ms := ⟨ms, rfl⟩
      cases hg
      replace hp : ((incs.length ≤ 1000000 ∧ ms.length ≤ 1000000)) := hp
      refine ⟨fun st key => if key = 5 then some { N := incs.length, mods := fun k => [.tv 5 (.int .i64 (k : Int)), .tv 4 (.string (encI (twoB t ++ twoB ep ++ twoB mb) incs k))] } else if key = 10 then some { N := ms.length, mods := fun k => [.tv 6 (.int .i64 (k : Int)), .tv 4 (.string (encL (encH t ep mb incs ms.length) ms k))] } else none, (List.length incs ≤ (1000000 : Nat) ∧ List.length ms ≤ (1000000 : Nat)) ∧ ((!entR t ep mb incs ms) = true → Out.tup (U := U) [D.mk false [CV.v (Value.string (ByteArray.mk (Array.mk [])))], D.mk false [CV.v (Value.int IntKind.i64 (1 : Int))]] = Out.tup (U := U) [D.mk false [CV.v (Value.string (entB t ep mb incs ms))], D.mk false [CV.v (Value.int IntKind.i64 (errI (entR t ep mb incs ms) (1 : Int)))]]) ∧ ((!entR t ep mb incs ms) = false → ((0 : Int) ≤ t ∧ t ≤ (65535 : Int)) ∧ ((0 : Int) ≤ ep ∧ ep ≤ (65535 : Int)) ∧ ByteArray.size (twoB t) + ByteArray.size (twoB ep) ≤ (9223372036854775807 : Nat) ∧ ((0 : Int) ≤ mb ∧ mb ≤ (65535 : Int)) ∧ ByteArray.size (twoB t ++ twoB ep) + ByteArray.size (twoB mb) ≤ (9223372036854775807 : Nat) ∧ True ∧ (Value.int IntKind.i64 (0 : Int) = Value.int IntKind.i64 (0 : Int) ∧ Value.string (twoB t ++ twoB ep ++ twoB mb) = Value.string (encI (twoB t ++ twoB ep ++ twoB mb) incs (0 : Nat))) ∧ ∀ (k : Nat), k ≤ List.length incs → True → (decide ((↑k : Int) < (↑(List.length incs) : Int)) = true → ((0 : Int) ≤ (↑k : Int) ∧ (↑k : Int) < (↑(List.length incs) : Int)) ∧ ((0 : Int) ≤ List.getD incs (Int.toNat (↑k : Int)) (d_int) ∧ List.getD incs (Int.toNat (↑k : Int)) (d_int) ≤ (65535 : Int)) ∧ ByteArray.size (encI (twoB t ++ twoB ep ++ twoB mb) incs k) + ByteArray.size (twoB (List.getD incs (Int.toNat (↑k : Int)) (d_int))) ≤ (9223372036854775807 : Nat) ∧ k < List.length incs ∧ True ∧ Value.int IntKind.i64 (wrap64 ((↑k : Int) + (1 : Int))) = Value.int IntKind.i64 (↑(k + (1 : Nat)) : Int) ∧ Value.string (encI (twoB t ++ twoB ep ++ twoB mb) incs k ++ twoB (List.getD incs (Int.toNat (↑k : Int)) (d_int))) = Value.string (encI (twoB t ++ twoB ep ++ twoB mb) incs (k + (1 : Nat)))) ∧ (decide ((↑k : Int) < (↑(List.length incs) : Int)) = false → ByteArray.size (encI (twoB t ++ twoB ep ++ twoB mb) incs k) + ByteArray.size (strOfNums (List.map (fun x => x) [IntKind.wrap IntKind.u8 (↑(List.length ms) : Int)])) ≤ (9223372036854775807 : Nat) ∧ True ∧ (Value.int IntKind.i64 (0 : Int) = Value.int IntKind.i64 (0 : Int) ∧ Value.string (encI (twoB t ++ twoB ep ++ twoB mb) incs k ++ strOfNums (List.map (fun x => x) [IntKind.wrap IntKind.u8 (↑(List.length ms) : Int)])) = Value.string (encL (encH t ep mb incs (↑(List.length ms) : Int)) ms (0 : Nat))) ∧ ∀ (k : Nat), k ≤ List.length ms → True → (decide ((↑k : Int) < (↑(List.length ms) : Int)) = true → ((0 : Int) ≤ (↑k : Int) ∧ (↑k : Int) < (↑(List.length ms) : Int)) ∧ ByteArray.size (encL (encH t ep mb incs (↑(List.length ms) : Int)) ms k) + ByteArray.size (encB (List.getD ms (Int.toNat (↑k : Int)) (d_msg))) ≤ (9223372036854775807 : Nat) ∧ k < List.length ms ∧ True ∧ Value.int IntKind.i64 (wrap64 ((↑k : Int) + (1 : Int))) = Value.int IntKind.i64 (↑(k + (1 : Nat)) : Int) ∧ Value.string (encL (encH t ep mb incs (↑(List.length ms) : Int)) ms k ++ encB (List.getD ms (Int.toNat (↑k : Int)) (d_msg))) = Value.string (encL (encH t ep mb incs (↑(List.length ms) : Int)) ms (k + (1 : Nat)))) ∧ (decide ((↑k : Int) < (↑(List.length ms) : Int)) = false → Out.tup (U := U) [D.mk false [CV.v (Value.string (encL (encH t ep mb incs (↑(List.length ms) : Int)) ms k))], D.mk false [CV.v (Value.int IntKind.i64 (0 : Int))]] = Out.tup (U := U) [D.mk false [CV.v (Value.string (entB t ep mb incs ms))], D.mk false [CV.v (Value.int IntKind.i64 (errI (entR t ep mb incs ms) (1 : Int)))]]))), by kernel_rfl, ?_⟩
      obtain ⟨p1, p2⟩ := hp
      refine ⟨⟨p1, p2⟩, fun h => ?_, fun h => ?_⟩
      · have h : entR t ep mb incs ms = false := by simpa using h
        simp only [Out.one.injEq, Out.tup.injEq, D.mk.injEq, List.cons.injEq, CV.v.injEq, CV.sl.injEq, Value.bool.injEq, Value.int.injEq, Value.string.injEq, and_true, true_and, heq_eq_eq]
        simp [h, errI, entB]
        rfl
      · have h : entR t ep mb incs ms = true := by simpa using h
        obtain ⟨h1, h2, h3, h4, h5⟩ := entR_is h
        have ht := twoB_size
        have hb : (twoB t ++ twoB ep ++ twoB mb).size = 6 := by rw [ByteArray.size_append, ByteArray.size_append, ht, ht, ht]
        have hI := encI_size (twoB t ++ twoB ep ++ twoB mb) incs
        have hu : ∀ x : Int, (strOfNums (List.map (fun x => x) [x])).size = 1 := fun x => by rw [strOfNums_size]; rfl
        refine ⟨by omega, by omega, by rw [ht, ht]; omega, by omega, by rw [ByteArray.size_append, ht, ht, ht]; omega, trivial, ⟨rfl, rfl⟩, fun k hk _ => ⟨fun hlt => ?_, fun hge => ?_⟩⟩
        · have hlt : k < incs.length := by have := of_decide_eq_true hlt; omega
          have hx := h5 incs[k] (List.getElem_mem hlt)
          have eg : List.getD incs (Int.toNat (k : Int)) d_int = incs[k] := getD_at incs k _ hlt
          have eI : encI (twoB t ++ twoB ep ++ twoB mb) incs (k + 1) = encI (twoB t ++ twoB ep ++ twoB mb) incs k ++ twoB (List.getD incs (Int.toNat (k : Int)) d_int) := rfl
          rw [eI, eg]
          refine ⟨by omega, by omega, by rw [hI, ht, hb]; omega, hlt, trivial, ?_, rfl⟩
          rw [w64 (by omega)]; rfl
        · have hge := of_decide_eq_false hge
          have hkl : k = incs.length := by omega
          have hH : (encH t ep mb incs (ms.length : Int)).size = 7 + 2 * incs.length := by
            unfold encH
            rw [ByteArray.size_append, strOfNums_size, hI, hb]
            simp only [List.length_singleton]
            omega
          have hL := encL_size (encH t ep mb incs (ms.length : Int)) ms
          refine ⟨by rw [hI, hu, hb]; omega, trivial, ⟨rfl, ?_⟩, fun i hi _ => ⟨fun hlt => ?_, fun hge2 => ?_⟩⟩
          · rw [hkl]
            simp only [wu8, List.map_cons, List.map_nil]
            rfl
          · have hlt : i < ms.length := by have := of_decide_eq_true hlt; omega
            have eL : encL (encH t ep mb incs (ms.length : Int)) ms (i + 1) = encL (encH t ep mb incs (ms.length : Int)) ms i ++ encB (List.getD ms (Int.toNat (i : Int)) d_msg) := rfl
            have hx := hL i
            have hy := encB_size (List.getD ms (Int.toNat (i : Int)) d_msg)
            rw [eL]
            refine ⟨by omega, by omega, hlt, trivial, ?_, rfl⟩
            rw [w64 (by omega)]; rfl
          · have hge2 := of_decide_eq_false hge2
            have hil : i = ms.length := by omega
            rw [hil]
            simp only [Out.one.injEq, Out.tup.injEq, D.mk.injEq, List.cons.injEq, CV.v.injEq, CV.sl.injEq, Value.bool.injEq, Value.int.injEq, Value.string.injEq, and_true, true_and, heq_eq_eq]
            simp only [entB, h, if_true, errI, and_self]
    · cases hg

end Go.Proofs.YtdpoimomipdgjaaDoor.X
