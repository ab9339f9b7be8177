/- An entry's bytes, as the program has them. -/
import Derived.Test.YtdpoimomipdgjaaDoorREnt
import Derived.Test.YtdpoimomipdgjaaDoorREnc06
namespace Go.Proofs.YtdpoimomipdgjaaDoor.X
open Go Go.RX Go.RowKit Go.Proofs
set_option linter.unusedVariables false
set_option linter.unusedSimpArgs false
def pb (n : Int) : List Int := [IntKind.wrap IntKind.u8 (Int.fdiv n 256), IntKind.wrap IntKind.u8 n]
def pbs (b : List Int) (l : List Int) : Nat → List Int
  | 0 => b
  | k + 1 => pbs b l k ++ pb (l.getD k d_int)
def mbs (b : List Int) (l : List Msg) : Nat → List Int
  | 0 => b
  | k + 1 => mbs b l k ++ bytesI (encB (l.getD k d_msg))
def pb3 (t ep mb : Int) : List Int := pb t ++ pb ep ++ pb mb
theorem pbs_length (b l : List Int) : ∀ k, (pbs b l k).length = b.length + 2 * k
  | 0 => rfl
  | k + 1 => by rw [pbs, List.length_append, pbs_length b l k]; show _ + 2 = _; omega
theorem pb_nums (n : Int) : strOfNums (pb n) = twoB n := by
  unfold pb twoB
  rw [wu8, wu8, Int.fdiv_eq_ediv_of_nonneg _ (by decide)]
theorem pbs_nums (b l : List Int) : ∀ k, strOfNums (pbs b l k) = encI (strOfNums b) l k
  | 0 => rfl
  | k + 1 => by rw [pbs, nums_append, pbs_nums b l k, pb_nums]; rfl
theorem mbs_nums (b : List Int) (l : List Msg) : ∀ k, strOfNums (mbs b l k) = encL (strOfNums b) l k
  | 0 => rfl
  | k + 1 => by rw [mbs, nums_append, mbs_nums b l k, nums_bytes]; rfl
theorem mbs_length (b : List Int) (l : List Msg) : ∀ k, (mbs b l k).length ≤ b.length + 20 * k
  | 0 => Nat.le_refl _
  | k + 1 => by
    have h1 := mbs_length b l k
    have h2 := encB_size (l.getD k d_msg)
    rw [mbs, List.length_append, bytesI_len]; omega
def ebH (t ep mb : Int) (incs : List Int) (n : Int) : List Int := pbs (pb3 t ep mb) incs incs.length ++ [IntKind.wrap IntKind.u8 n]
theorem ebH_nums (t ep mb : Int) (incs : List Int) (n : Int) : strOfNums (ebH t ep mb incs n) = encH t ep mb incs n := by
  unfold ebH encH pb3
  rw [nums_append, pbs_nums, nums_append, nums_append, pb_nums, pb_nums, pb_nums, wu8]
theorem nodup_le : ∀ (l m : List Int), l.Nodup → (∀ x ∈ l, x ∈ m) → l.length ≤ m.length
  | [], m, _, _ => Nat.zero_le _
  | x :: l, m, hn, h => by
    have hx := h x (List.mem_cons_self ..)
    obtain ⟨h1, h2⟩ := List.nodup_cons.mp hn
    have ih := nodup_le l (m.erase x) h2 fun y hy => (List.mem_erase_of_ne (fun e => h1 (by rw [← e]; exact hy))).mpr (h y (List.mem_cons_of_mem _ hy))
    rw [List.length_erase_of_mem hx] at ih
    have : 0 < m.length := List.length_pos_of_mem hx
    rw [List.length_cons]; omega
/-- No more messages than there may be members. -/
theorem snd_nodup {ms : List Msg} : ∀ k, k ≤ ms.length → (∀ i, i < k → (ms.take i).all (fun x => !decide (x.sender = (ms.getD i d_msg).sender)) = true) → ((ms.take k).map (·.sender)).Nodup
  | 0, _, _ => List.nodup_nil
  | k + 1, hk, h => by
    have hlt : k < ms.length := by omega
    have ih := snd_nodup k (by omega) (fun i hi => h i (by omega))
    rw [List.take_succ_eq_append_getElem hlt, List.map_append, List.nodup_append]
    refine ⟨ih, List.pairwise_singleton _ _, fun a ha b hb => ?_⟩
    have hk' := h k (by omega)
    rw [List.getD_eq_getElem?_getD, List.getElem?_eq_getElem hlt] at hk'
    obtain ⟨x, hx, rfl⟩ := List.mem_map.mp ha
    have := List.all_eq_true.mp hk' x hx
    have hb : b = ms[k].sender := by simpa using hb
    subst hb
    simpa using this
theorem entR_few {t ep mb : Int} {incs : List Int} {ms : List Msg} (h : entR t ep mb incs ms = true) : ms.length ≤ 16 := by
  unfold entR at h
  have hM := (Bool.and_eq_true_iff.mp h).2
  have hk : ∀ i, i < ms.length → entM mb incs ms i = true := fun i hi => List.all_eq_true.mp hM i (List.mem_range.mpr hi)
  have hnd := snd_nodup (ms := ms) ms.length (Nat.le_refl _) (fun i hi => by
    have := hk i hi
    simp only [entM, Bool.and_eq_true] at this
    exact this.2)
  rw [List.take_length] at hnd
  have hr : ∀ x ∈ ms.map (·.sender), x ∈ (List.range 16).map (fun (n : Nat) => (n : Int)) := fun x hx => by
    obtain ⟨m, hm, rfl⟩ := List.mem_map.mp hx
    obtain ⟨i, hi, rfl⟩ := List.getElem_of_mem hm
    have h1 := (msgR_is (entM_is (hk i hi))).2.1
    rw [List.getD_eq_getElem?_getD, List.getElem?_eq_getElem hi] at h1
    have h1 : 0 ≤ ms[i].sender ∧ ms[i].sender < 16 := h1
    exact List.mem_map.mpr ⟨ms[i].sender.toNat, List.mem_range.mpr (by omega), by omega⟩
  have := nodup_le _ _ hnd hr
  simpa using this
def eEncode_S : RX.Spec U := fun
  | [⟨true, [.v (.int .i64 t), .v (.int .i64 ep), .v (.int .i64 mb), .sl .int incs, .sl .msg ms]⟩] => some ⟨some ((incs.length ≤ 1000000 ∧ ms.length ≤ 1000000)), (.tup [⟨false, [.v (.string (entB t ep mb incs ms))]⟩, ⟨false, [.v (.int .i64 (errI (entR t ep mb incs ms) 1))]⟩])⟩
  | _ => none

theorem eEncode_ok : ConOk Tryd.prog U GV 13 eEncode_S :=
  fn_go gs ty glok (conCons eRight_ok (conCons mEncode_ok conNil)) Tryd.func13 (by kernel_rfl) fun ds r hg hp => by
    unfold eEncode_S at hg
    split at hg
    · rename_i t ep mb incs ms
      obtain ⟨incs, rfl⟩ : ∃ q_ : List Int, q_ = incs := ⟨incs, rfl⟩
      obtain ⟨ms, rfl⟩ : ∃ q_ : List Msg, q_ = ms := ⟨ms, rfl⟩
      cases hg
      replace hp : ((incs.length ≤ 1000000 ∧ ms.length ≤ 1000000)) := hp
      refine ⟨fun st key => if key = 2 then (match st with | [1000000 + 27, 3000007] => some { N := 3, mods := fun k => [.tv 9 (.int .i64 (k : Int)), .tr 0 .u8 (pbs [] [t, ep, mb] k) true] } | [1000000 + 27, 3000010] => some { N := incs.length, mods := fun k => [.tv 9 (.int .i64 (k : Int)), .tr 0 .u8 (pbs (pb3 t ep mb) incs k) true] } | _ => none) else if key = 6 then some { N := ms.length, mods := fun k => [.tv 33 (.int .i64 (k : Int)), .tr 4 .u8 (mbs (ebH t ep mb incs ms.length) ms k) true] } else none, (List.length incs ≤ (1000000 : Nat) ∧ List.length ms ≤ (1000000 : Nat)) ∧ ((!entR t ep mb incs ms) = true → Out.tup (U := U) [D.mk false [CV.v (Value.string (ByteArray.mk (Array.mk [])))], D.mk false [CV.v (Value.int IntKind.i64 (1 : Int))]] = Out.tup (U := U) [D.mk false [CV.v (Value.string (entB t ep mb incs ms))], D.mk false [CV.v (Value.int IntKind.i64 (errI (entR t ep mb incs ms) (1 : Int)))]]) ∧ ((!entR t ep mb incs ms) = false → True ∧ (Value.int IntKind.i64 (0 : Int) = Value.int IntKind.i64 (0 : Int) ∧ pbs [] [t, ep, mb] (0 : Nat) = []) ∧ ∀ (k : Nat), k ≤ (3 : Nat) → True → (decide ((↑k : Int) < (↑(List.length [t, ep, mb]) : Int)) = true → ((0 : Int) ≤ (↑k : Int) ∧ (↑k : Int) < (↑(List.length [t, ep, mb]) : Int)) ∧ (0 : Int) ≤ (8 : Int) ∧ List.length (pbs [] [t, ep, mb] k) + List.length [IntKind.wrap IntKind.u8 (Int.fdiv (List.getD [t, ep, mb] (Int.toNat (↑k : Int)) (d_int)) (256 : Int)), IntKind.wrap IntKind.u8 (List.getD [t, ep, mb] (Int.toNat (↑k : Int)) (d_int))] ≤ (1000000 : Nat) ∧ k < (3 : Nat) ∧ True ∧ Value.int IntKind.i64 (wrap64 ((↑k : Int) + (1 : Int))) = Value.int IntKind.i64 (↑(k + (1 : Nat)) : Int) ∧ True ∧ pbs [] [t, ep, mb] k ++ [IntKind.wrap IntKind.u8 (Int.fdiv (List.getD [t, ep, mb] (Int.toNat (↑k : Int)) (d_int)) (256 : Int)), IntKind.wrap IntKind.u8 (List.getD [t, ep, mb] (Int.toNat (↑k : Int)) (d_int))] = pbs [] [t, ep, mb] (k + (1 : Nat))) ∧ (decide ((↑k : Int) < (↑(List.length [t, ep, mb]) : Int)) = false → True ∧ (Value.int IntKind.i64 (0 : Int) = Value.int IntKind.i64 (0 : Int) ∧ True ∧ pbs [] [t, ep, mb] k = pbs (pb3 t ep mb) incs (0 : Nat)) ∧ ∀ (k : Nat), k ≤ List.length incs → True → (decide ((↑k : Int) < (↑(List.length incs) : Int)) = true → ((0 : Int) ≤ (↑k : Int) ∧ (↑k : Int) < (↑(List.length incs) : Int)) ∧ (0 : Int) ≤ (8 : Int) ∧ List.length (pbs (pb3 t ep mb) incs k) + List.length [IntKind.wrap IntKind.u8 (Int.fdiv (List.getD incs (Int.toNat (↑k : Int)) (d_int)) (256 : Int)), IntKind.wrap IntKind.u8 (List.getD incs (Int.toNat (↑k : Int)) (d_int))] ≤ (1000000 : Nat) ∧ k < List.length incs ∧ True ∧ Value.int IntKind.i64 (wrap64 ((↑k : Int) + (1 : Int))) = Value.int IntKind.i64 (↑(k + (1 : Nat)) : Int) ∧ True ∧ pbs (pb3 t ep mb) incs k ++ [IntKind.wrap IntKind.u8 (Int.fdiv (List.getD incs (Int.toNat (↑k : Int)) (d_int)) (256 : Int)), IntKind.wrap IntKind.u8 (List.getD incs (Int.toNat (↑k : Int)) (d_int))] = pbs (pb3 t ep mb) incs (k + (1 : Nat))) ∧ (decide ((↑k : Int) < (↑(List.length incs) : Int)) = false → List.length (pbs (pb3 t ep mb) incs k) + List.length [IntKind.wrap IntKind.u8 (↑(List.length ms) : Int)] ≤ (1000000 : Nat) ∧ True ∧ (Value.int IntKind.i64 (0 : Int) = Value.int IntKind.i64 (0 : Int) ∧ True ∧ pbs (pb3 t ep mb) incs k ++ [IntKind.wrap IntKind.u8 (↑(List.length ms) : Int)] = mbs (ebH t ep mb incs (↑(List.length ms) : Int)) ms (0 : Nat)) ∧ ∀ (k : Nat), k ≤ List.length ms → True → (decide ((↑k : Int) < (↑(List.length ms) : Int)) = true → ((0 : Int) ≤ (↑k : Int) ∧ (↑k : Int) < (↑(List.length ms) : Int)) ∧ List.length (mbs (ebH t ep mb incs (↑(List.length ms) : Int)) ms k) + ByteArray.size (encB (List.getD ms (Int.toNat (↑k : Int)) (d_msg))) ≤ (1000000 : Nat) ∧ k < List.length ms ∧ True ∧ Value.int IntKind.i64 (wrap64 ((↑k : Int) + (1 : Int))) = Value.int IntKind.i64 (↑(k + (1 : Nat)) : Int) ∧ True ∧ mbs (ebH t ep mb incs (↑(List.length ms) : Int)) ms k ++ bytesI (encB (List.getD ms (Int.toNat (↑k : Int)) (d_msg))) = mbs (ebH t ep mb incs (↑(List.length ms) : Int)) ms (k + (1 : Nat))) ∧ (decide ((↑k : Int) < (↑(List.length ms) : Int)) = false → Out.tup (U := U) [D.mk false [CV.v (Value.string (strOfNums (List.map (fun x => x) (mbs (ebH t ep mb incs (↑(List.length ms) : Int)) ms k))))], D.mk false [CV.v (Value.int IntKind.i64 (0 : Int))]] = Out.tup (U := U) [D.mk false [CV.v (Value.string (entB t ep mb incs ms))], D.mk false [CV.v (Value.int IntKind.i64 (errI (entR t ep mb incs ms) (1 : Int)))]])))), by kernel_rfl, ?_⟩
      obtain ⟨p1, p2⟩ := hp
      refine ⟨⟨p1, p2⟩, fun h => ?_, fun h => ?_⟩
      · have h : entR t ep mb incs ms = false := (Bool.not_eq_true' _).mp h
        simp only [Out.one.injEq, Out.tup.injEq, D.mk.injEq, List.cons.injEq, CV.v.injEq, CV.sl.injEq, Value.bool.injEq, Value.int.injEq, Value.string.injEq, and_true, true_and, heq_eq_eq]
        simp [h, errI, entB]
        rfl
      · have h : entR t ep mb incs ms = true := (Bool.not_eq_false' _).mp h
        obtain ⟨h1, h2, h3, h4, h5⟩ := entR_is h
        refine ⟨trivial, ⟨rfl, rfl⟩, fun k hk _ => ⟨fun hlt => ?_, fun hge => ?_⟩⟩
        · have hlt : k < 3 := by have := of_decide_eq_true hlt; exact Int.ofNat_lt.mp this
          have e1 : ((([t, ep, mb] : List Int).length : Nat) : Int) = 3 := rfl
          rw [e1]
          refine ⟨⟨by omega, by omega⟩, by decide, ?_, hlt, trivial, ?_, trivial, rfl⟩
          · rw [pbs_length]; show 0 + 2 * k + 2 ≤ 1000000; omega
          · rw [w64 (by omega)]; rfl
        · have hge : ¬ k < 3 := fun c => absurd (Int.ofNat_lt.mpr c) (of_decide_eq_false hge)
          have hk3 : k = 3 := by omega
          subst hk3
          refine ⟨trivial, ⟨rfl, trivial, rfl⟩, fun k hk _ => ⟨fun hlt => ?_, fun hge => ?_⟩⟩
          · have hlt : k < incs.length := by have := of_decide_eq_true hlt; omega
            refine ⟨⟨by omega, by omega⟩, by decide, ?_, hlt, trivial, ?_, trivial, rfl⟩
            · rw [pbs_length]; show 6 + 2 * k + 2 ≤ 1000000
              have := vl_length mb 16
              omega
            · rw [w64 (by omega)]; rfl
          · have hge := of_decide_eq_false hge
            have hkl : k = incs.length := by omega
            subst hkl
            have hv := vl_length mb 16
            have hH : (ebH t ep mb incs (ms.length : Int)).length = 7 + 2 * incs.length := by
              unfold ebH
              rw [List.length_append, pbs_length]; show 6 + 2 * incs.length + 1 = _; omega
            refine ⟨?_, trivial, ⟨rfl, trivial, rfl⟩, fun i hi _ => ⟨fun hlt => ?_, fun hge2 => ?_⟩⟩
            · rw [pbs_length]; show 6 + 2 * incs.length + 1 ≤ 1000000; omega
            · have hlt : i < ms.length := by have := of_decide_eq_true hlt; omega
              have hl := mbs_length (ebH t ep mb incs (ms.length : Int)) ms i
              have hs := encB_size (ms.getD i d_msg)
              have hn := entR_few h
              refine ⟨⟨by omega, by omega⟩, ?_, hlt, trivial, ?_, trivial, rfl⟩
              · rw [show List.getD ms (Int.toNat (i : Int)) d_msg = ms.getD i d_msg from rfl]; omega
              · rw [w64 (by omega)]; rfl
            · have hge2 := of_decide_eq_false hge2
              have hil : i = ms.length := by omega
              subst hil
              simp only [Out.one.injEq, Out.tup.injEq, D.mk.injEq, List.cons.injEq, CV.v.injEq, CV.sl.injEq, Value.bool.injEq, Value.int.injEq, Value.string.injEq, and_true, true_and, heq_eq_eq]
              have e4 : (fun x : Int => x) = id := rfl
              rw [e4, List.map_id, mbs_nums, ebH_nums]
              exact ⟨(if_pos h).symm, by rw [h]; rfl⟩
    · cases hg

end Go.Proofs.YtdpoimomipdgjaaDoor.X
