/- What fifos of right messages come to. -/
import Derived.Test.YtdepagelkocldaaDoorRLaw14
import Derived.Test.YtdepagelkocldaaDoorRNat02
namespace Go.Proofs.YtdepagelkocldaaDoor.X
open Go Go.RX Go.RowKit Go.Proofs
set_option linter.unusedVariables false
set_option linter.unusedSimpArgs false
theorem sm_pick (c : Int) : sm (1 + pickI c 65535) = true := by
  have := pickI_range c 65535 (by omega)
  exact decide_eq_true (by omega)
theorem lim_pos (b : Bool) : 0 < lim b + 1 := by cases b <;> simp [lim]
theorem msgI_right (r : A6) : right (msgX r) (msgI r) = true := by
  unfold msgX msgI
  split
  · have := pickI_range r.a (lim (pickI r.b 2 == 0) + 1) (lim_pos _)
    exact decide_eq_true ⟨by omega, by omega⟩
  · have := pickI_range (pickI r.a 5) (lim (pickI r.b 3 == 0) + 1) (lim_pos _)
    exact decide_eq_true ⟨by omega, by omega⟩
theorem cut8_size (d : ByteArray) : ((cut8 d).size : Int) ≤ 8 := by
  unfold cut8
  rw [ByteArray.size_extract]
  split <;> omega
theorem msgOf_right (r : A6) (d : ByteArray) : msgR (msgOf r d) = true := by
  have h2 := pickI_range r.c 16 (by omega)
  have h3 : decide (0 ≤ pickI r.c 16 ∧ pickI r.c 16 < 16) = true := decide_eq_true h2
  have h4 : decide (((cut8 d).size : Int) ≤ 8) = true := decide_eq_true (cut8_size d)
  have key : msgR (msgOf r d) = (right (msgX r) (msgI r) && decide (0 ≤ pickI r.c 16 ∧ pickI r.c 16 < 16) && sm (1 + pickI r.d 65535) && sm (1 + pickI r.e 65535) && sm (1 + pickI r.f 65535) && decide (((cut8 d).size : Int) ≤ 8)) := rfl
  rw [key, msgI_right, h3, sm_pick, sm_pick, sm_pick, h4]
  rfl
theorem fMsgs_len (c : Int) (raw : List A6) : ((fMsgs c raw).length : Int) ≤ fLim c := by
  have := pickI_range c 32 (by omega)
  unfold fMsgs
  rw [List.length_map, List.length_take]
  unfold fLim
  omega
theorem fLim_range (c : Int) : 1 ≤ fLim c ∧ fLim c ≤ 32 := by
  have := pickI_range c 32 (by omega)
  unfold fLim
  omega
theorem fifo_right {lm ls : Int} {l : List Msg} (h1 : 1 ≤ lm ∧ lm ≤ 32) (h2 : (l.length : Int) ≤ lm) (h3 : 0 ≤ ls ∧ ls ≤ 65535) (h4 : ∀ m ∈ l, msgR m = true) : fifoR ⟨lm, ls, l⟩ = true := by
  have e4 : l.all msgR = true := List.all_eq_true.mpr h4
  simp only [fifoR, decide_eq_true h1, decide_eq_true h2, decide_eq_true h3, e4, Bool.and_self]
theorem fifo_right_is {lm ls : Int} {l : List Msg} (h : fifoR ⟨lm, ls, l⟩ = true) : (1 ≤ lm ∧ lm ≤ 32) ∧ (l.length : Int) ≤ lm ∧ (0 ≤ ls ∧ ls ≤ 65535) ∧ ∀ m ∈ l, msgR m = true := by
  simp only [fifoR, Bool.and_eq_true, decide_eq_true_eq, List.all_eq_true] at h
  exact ⟨h.1.1.1, h.1.1.2, h.1.2, h.2⟩
theorem mk_right (c d : Int) (raw : List A6) : fifoR ⟨fLim c, pickI d 65536, fMsgs c raw⟩ = true := by
  have := pickI_range d 65536 (by omega)
  refine fifo_right (fLim_range c) (fMsgs_len c raw) (by omega) fun m hm => ?_
  obtain ⟨r, _, rfl⟩ := List.mem_map.mp hm
  exact msgOf_right r textD
/-- A filter without bits lets all of its make through. -/
theorem any_ext {e : Bool} {n : Int} (h : right e n = true) : anyB e n [⟨e, 0, 0⟩] = true := by
  obtain ⟨m, rfl, hm⟩ := right_nat h
  have hw := wide e
  have h0 : right e 0 = true := nat_right e 0 (by cases e <;> simp)
  have x1 := xor_nat 0 m (by omega) (by omega)
  have x2 := and_nat (0 ^^^ m) 0 (by rw [Nat.zero_xor]; omega) (by omega)
  rw [show ((0 : Nat) : Int) = 0 from rfl] at x1 x2
  have hb : bits .and .i64 (bits .xor .i64 0 (m : Int)) 0 = 0 := by rw [x1, x2, Nat.and_zero]; rfl
  simp [anyB, matchB, h0, h, hb]
theorem offM_right {lm ls : Int} {l : List Msg} {m : Msg} {fl : List Filter} (h : fifoR ⟨lm, ls, l⟩ = true) (hm : msgR m = true) : fifoR ⟨lm, offL ⟨lm, ls, l⟩ m fl, offM ⟨lm, ls, l⟩ m fl⟩ = true := by
  obtain ⟨h1, h2, h3, h4⟩ := fifo_right_is h
  have h2' : ((⟨lm, ls, l⟩ : Fifo).msgs.length : Int) = (l.length : Int) := rfl
  refine fifo_right h1 ?_ ?_ ?_
  · unfold offM offH
    rw [h, hm]
    by_cases c : anyB m.ext m.id fl = true
    · rw [c]
      by_cases d : (l.length : Int) = lm
      · simp [d]
      · simp [d]; omega
    · simp [c]; omega
  · have key : ∀ (p : Prop) [Decidable p], 0 ≤ (if p then (if ls + 1 < 65535 then ls + 1 else 65535) else ls) ∧ (if p then (if ls + 1 < 65535 then ls + 1 else 65535) else ls) ≤ 65535 := by
      intro p _
      by_cases c : p
      · rw [if_pos c]; split <;> omega
      · rw [if_neg c]; exact h3
    exact key _
  · intro x hx
    unfold offM at hx
    split at hx
    · rcases List.mem_append.mp hx with q | q
      · exact h4 x q
      · have : x = m := by simpa using q
        rw [this]; exact hm
    · exact h4 x hx
theorem drop_right {lm ls ls2 : Int} {l : List Msg} {k : Nat} (h : fifoR ⟨lm, ls, l⟩ = true) (h2 : 0 ≤ ls2 ∧ ls2 ≤ 65535) : fifoR ⟨lm, ls2, l.drop k⟩ = true := by
  obtain ⟨a1, a2, a3, a4⟩ := fifo_right_is h
  refine fifo_right a1 ?_ h2 fun m hm => a4 m (List.mem_of_mem_drop hm)
  rw [List.length_drop]; omega
theorem msgR_right {m : Msg} (h : msgR m = true) : right m.ext m.id = true := by
  simp only [msgR, Bool.and_eq_true] at h
  exact h.1.1.1.1.1
theorem take_ok {lm ls : Int} {l : List Msg} (h : fifoR ⟨lm, ls, l⟩ = true) (hl : 0 < l.length) : takE ⟨lm, ls, l⟩ = 0 ∧ takX ⟨lm, ls, l⟩ = l.getD 0 d_msg ∧ takM ⟨lm, ls, l⟩ = l.drop 1 := by
  refine ⟨?_, if_pos h, if_pos h⟩
  unfold takE
  rw [if_pos h, if_neg (show ¬ l.length = 0 by omega)]
/-- Of a message that is let through. -/
theorem off_ok {lm ls : Int} {l : List Msg} {m : Msg} {fl : List Filter} (h : fifoR ⟨lm, ls, l⟩ = true) (hm : msgR m = true) (ha : anyB m.ext m.id fl = true) :
    ((l.length : Int) = lm ∧ offH ⟨lm, ls, l⟩ m fl = 2 ∧ offM ⟨lm, ls, l⟩ m fl = l ∧ offL ⟨lm, ls, l⟩ m fl = (if ls + 1 < 65535 then ls + 1 else 65535)) ∨
    ((l.length : Int) < lm ∧ offH ⟨lm, ls, l⟩ m fl = 1 ∧ offM ⟨lm, ls, l⟩ m fl = l ++ [m] ∧ offL ⟨lm, ls, l⟩ m fl = ls) := by
  have hl := (fifo_right_is h).2.1
  have hH : offH ⟨lm, ls, l⟩ m fl = if (l.length : Int) = lm then 2 else 1 := by unfold offH; rw [h, hm, ha]; rfl
  by_cases c : (l.length : Int) = lm
  · rw [if_pos c] at hH
    refine .inl ⟨c, hH, ?_, ?_⟩
    · unfold offM; rw [hH, if_neg (by decide)]
    · unfold offL; rw [hH, if_pos rfl]
  · rw [if_neg c] at hH
    refine .inr ⟨by omega, hH, ?_, ?_⟩
    · unfold offM; rw [hH, if_pos rfl]
    · unfold offL; rw [hH, if_neg (by decide)]
end Go.Proofs.YtdepagelkocldaaDoor.X
