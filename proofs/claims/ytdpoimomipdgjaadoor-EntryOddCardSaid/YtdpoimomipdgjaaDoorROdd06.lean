/- Entries that are none. -/
import Derived.Test.YtdpoimomipdgjaaDoorRFacts06
import Derived.Test.YtdpoimomipdgjaaDoorRLlen06
namespace Go.Proofs.YtdpoimomipdgjaaDoor.X
open Go Go.RX Go.RowKit Go.Proofs
set_option linter.unusedVariables false
set_option linter.unusedSimpArgs false
theorem hasB_less (v n : Int) : hasB (lessB v n) n = false := by
  by_cases h : 0 ≤ n ∧ n ≤ 15
  · cases hb : hasB v n with
    | false =>
      have e : lessB v n = v % 65536 := by unfold lessB; rw [hb]; rfl
      rw [e, hasB_mod, hb]
    | true =>
      have e : lessB v n = v % 65536 - 2 ^ n.toNat := by unfold lessB; rw [if_pos hb]
      rw [← hasB_mod] at hb
      rw [e]
      generalize v % 65536 = u at hb
      unfold hasB at hb ⊢
      rw [decide_eq_true h, Bool.true_and] at hb ⊢
      have hb := of_decide_eq_true hb
      refine decide_eq_false ?_
      have hp : (0 : Int) < 2 ^ n.toNat := Int.pow_pos (by omega)
      generalize (2 : Int) ^ n.toNat = w at hb hp
      have : (u - w) / w = u / w - 1 := by
        have := Int.add_mul_ediv_right u (-1) (c := w) (by omega)
        rw [show u + -1 * w = u - w by omega] at this
        omega
      omega
  · exact hasB_out h
theorem ent_not {t ep mb : Int} {incs : List Int} {ms : List Msg} (k : Nat) (hk : k < ms.length) (h : entM mb incs ms k = false) : entR t ep mb incs ms = false := by
  unfold entR
  rw [List.all_eq_false.mpr ⟨k, List.mem_range.mpr hk, by rw [h]; decide⟩, Bool.and_false]
theorem ent_each {t ep mb : Int} {incs : List Int} {ms : List Msg} (h : entR t ep mb incs ms = true) (k : Nat) (hk : k < ms.length) : entM mb incs ms k = true := by
  unfold entR at h
  rw [Bool.and_eq_true] at h
  exact List.all_eq_true.mp h.2 k (List.mem_range.mpr hk)
theorem entM_all {mb : Int} {incs : List Int} {ms : List Msg} {k : Nat} (h : entM mb incs ms k = true) : incIs mb incs (ms.getD k d_msg).sender = true ∧ incOf mb incs (ms.getD k d_msg).sender = (ms.getD k d_msg).inc ∧ (k = 0 ∨ msgL (ms.getD (k - 1) d_msg) (ms.getD k d_msg) = true) := by
  unfold entM at h
  simp only [Bool.and_eq_true, decide_eq_true_eq, Bool.or_eq_true] at h
  exact ⟨h.1.1.1.2, h.1.1.2, h.1.2⟩
theorem odd_twice {t ep mb : Int} {incs : List Int} {ms : List Msg} {x : Msg} (hx : x ∈ ms) : entR t ep mb incs (ms ++ [x]) = false := by
  refine ent_not ms.length (by rw [List.length_append]; exact Nat.lt_succ_self _) ?_
  have e : (ms ++ [x]).getD ms.length d_msg = x := by
    rw [List.getD_eq_getElem?_getD, List.getElem?_append_right (Nat.le_refl _), Nat.sub_self]; rfl
  have e2 : (ms ++ [x]).take ms.length = ms := by rw [List.take_append_of_le_length (Nat.le_refl _), List.take_length]
  have : (ms.all fun y => !decide (y.sender = x.sender)) = false := List.all_eq_false.mpr ⟨x, hx, by rw [decide_eq_true rfl]; decide⟩
  unfold entM
  rw [e, e2, this, Bool.and_false]
theorem odd_away {t ep mb : Int} {incs : List Int} {ms : List Msg} (k : Nat) (hk : k < ms.length) : entR t ep (lessB mb (ms.getD k d_msg).sender) incs ms = false := by
  refine ent_not k hk ?_
  have hn : incIs (lessB mb (ms.getD k d_msg).sender) incs (ms.getD k d_msg).sender = false := by
    unfold incIs
    have := idxN_none (l := vl (lessB mb (ms.getD k d_msg).sender) 16) (x := (ms.getD k d_msg).sender) (fun y hy c => by
      subst c
      have := (vl_mem.mp hy).2.2
      rw [hasB_less] at this; cases this)
    rw [this, decide_eq_false (Nat.lt_irrefl _), Bool.and_false]
  unfold entM
  rw [hn, Bool.and_false, Bool.false_and, Bool.false_and, Bool.false_and]
theorem odd_again {t ep mb : Int} {incs : List Int} {ms : List Msg} {k : Nat} (hk : k < ms.length) (h : entM mb incs ms k = true) {x : Msg} (hs : x.sender = (ms.getD k d_msg).sender) (hi : x.inc ≠ (ms.getD k d_msg).inc) : entR t ep mb incs (ms.set k x) = false := by
  refine ent_not k (by rw [List.length_set]; exact hk) ?_
  have e : (ms.set k x).getD k d_msg = x := by rw [List.getD_eq_getElem?_getD, List.getElem?_set_self hk, Option.getD_some]
  have hn : decide (incOf mb incs x.sender = x.inc) = false := decide_eq_false (by
    rw [hs, (entM_all h).2.1]; exact fun c => hi c.symm)
  unfold entM
  rw [e, hn, Bool.and_false, Bool.false_and, Bool.false_and]
theorem ent_chain {t ep mb : Int} {incs : List Int} {ms : List Msg} (h : entR t ep mb incs ms = true) (j : Nat) : j + 1 < ms.length → msgL (ms.getD 0 d_msg) (ms.getD (j + 1) d_msg) = true := by
  have hr : ∀ i, i < ms.length → right (ms.getD i d_msg).ext (ms.getD i d_msg).id = true := fun i hi => by
    have e : ms.getD i d_msg = ms[i] := by rw [List.getD_eq_getElem?_getD, List.getElem?_eq_getElem hi]; rfl
    rw [e]
    exact (msgR_is (entR_msgs h _ (List.getElem_mem hi))).1
  have st : ∀ i, i + 1 < ms.length → msgL (ms.getD i d_msg) (ms.getD (i + 1) d_msg) = true := fun i hi => by
    rcases (entM_all (ent_each h (i + 1) hi)).2.2 with c | c
    · omega
    · exact c
  induction j with
  | zero => exact fun hj => st 0 hj
  | succ j ih => exact fun hj => msgL_trans (hr 0 (by omega)) (hr (j + 1) (by omega)) (hr (j + 1 + 1) hj) (ih (by omega)) (st (j + 1) hj)
theorem odd_turned {t ep mb : Int} {incs : List Int} {ms l : List Msg} (h : entR t ep mb incs ms = true) (h2 : 2 ≤ ms.length) (hl : l.length + 1 = ms.length) (hg : l.getD (l.length - 1) d_msg = ms.getD (ms.length - 1) d_msg) : entR t ep mb incs (l ++ [ms.getD 0 d_msg]) = false := by
  refine ent_not l.length (by rw [List.length_append]; exact Nat.lt_succ_self _) ?_
  have e : (l ++ [ms.getD 0 d_msg]).getD l.length d_msg = ms.getD 0 d_msg := by
    rw [List.getD_eq_getElem?_getD, List.getElem?_append_right (Nat.le_refl _), Nat.sub_self]; rfl
  have e2 : (l ++ [ms.getD 0 d_msg]).getD (l.length - 1) d_msg = ms.getD (ms.length - 1) d_msg := by
    rw [List.getD_eq_getElem?_getD, List.getElem?_append_left (by omega), ← List.getD_eq_getElem?_getD, hg]
  have hr : ∀ i, i < ms.length → right (ms.getD i d_msg).ext (ms.getD i d_msg).id = true := fun i hi => by
    have e : ms.getD i d_msg = ms[i] := by rw [List.getD_eq_getElem?_getD, List.getElem?_eq_getElem hi]; rfl
    rw [e]
    exact (msgR_is (entR_msgs h _ (List.getElem_mem hi))).1
  have hc := ent_chain h (ms.length - 2) (by omega)
  rw [show ms.length - 2 + 1 = ms.length - 1 by omega] at hc
  have hn : msgL (ms.getD (ms.length - 1) d_msg) (ms.getD 0 d_msg) = false := by
    cases c : msgL (ms.getD (ms.length - 1) d_msg) (ms.getD 0 d_msg) with
    | false => rfl
    | true =>
      rw [msgL_iff (hr 0 (by omega)) (hr _ (by omega))] at hc
      rw [msgL_iff (hr _ (by omega)) (hr 0 (by omega))] at c
      omega
  have hz : decide (l.length = 0) = false := decide_eq_false (by omega)
  unfold entM
  rw [e, e2, hn, hz]
  simp only [Bool.false_or, Bool.and_false, Bool.false_and]
end Go.Proofs.YtdpoimomipdgjaaDoor.X
