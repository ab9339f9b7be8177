/- Entries out of raw numbers may be. -/
import Derived.Test.YtdpoimomipdgjaaDoorRLaw06
import Derived.Test.YtdpoimomipdgjaaDoorREright
import Derived.Test.YtdpoimomipdgjaaDoorREnc04
import Derived.Test.YtdpoimomipdgjaaDoorRKeys
namespace Go.Proofs.YtdpoimomipdgjaaDoor.X
open Go Go.RX Go.RowKit Go.Proofs
set_option linter.unusedVariables false
set_option linter.unusedSimpArgs false
theorem sm_pick (c : Int) : sm (1 + pickI c 65535) = true := by
  have := pickI_range c 65535 (by omega)
  exact decide_eq_true (by omega)
theorem lim_pos (b : Bool) : 0 < lim b + 1 := by cases b <;> simp [lim]
theorem msgI_right (r : A6) : right (msgX r) (msgI r) = true := by
  unfold msgX msgI
  split
  · have := pickI_range r.a (lim (pickI r.b 2 == 0) + 1) (lim_pos _)
    exact decide_eq_true ⟨by omega, by omega⟩
  · have := pickI_range (pickI r.a 5) (lim (pickI r.b 3 == 0) + 1) (lim_pos _)
    exact decide_eq_true ⟨by omega, by omega⟩
theorem cut8_size (d : ByteArray) : ((cut8 d).size : Int) ≤ 8 := by
  unfold cut8
  rw [ByteArray.size_extract]
  split <;> omega
theorem msgOf_right (r : A6) (d : ByteArray) : msgR (msgOf r d) = true := by
  have h2 := pickI_range r.c 16 (by omega)
  have h3 : decide (0 ≤ pickI r.c 16 ∧ pickI r.c 16 < 16) = true := decide_eq_true h2
  have h4 : decide (((cut8 d).size : Int) ≤ 8) = true := decide_eq_true (cut8_size d)
  have key : msgR (msgOf r d) = (right (msgX r) (msgI r) && decide (0 ≤ pickI r.c 16 ∧ pickI r.c 16 < 16) && sm (1 + pickI r.d 65535) && sm (1 + pickI r.e 65535) && sm (1 + pickI r.f 65535) && decide (((cut8 d).size : Int) ≤ 8)) := rfl
  rw [key, msgI_right, h3, sm_pick, sm_pick, sm_pick, h4]
  rfl
/-! ### Messages' order -/
theorem key_same {e e' : Bool} {n n' : Int} (h : right e n = true) (h' : right e' n' = true) : keyI e n = keyI e' n' ↔ e = e' ∧ n = n' := by
  constructor
  · intro q
    have h1 := at_keyE h
    have h2 := at_keyN h
    rw [q, at_keyE h'] at h1
    rw [q, at_keyN h'] at h2
    exact ⟨h1.symm, h2.symm⟩
  · rintro ⟨rfl, rfl⟩; rfl
theorem msgL_iff {a b : Msg} (ha : right a.ext a.id = true) (hb : right b.ext b.id = true) : msgL a b = true ↔ keyI a.ext a.id < keyI b.ext b.id ∨ (keyI a.ext a.id = keyI b.ext b.id ∧ (a.sender < b.sender ∨ (a.sender = b.sender ∧ a.number < b.number))) := by
  have hk := key_same ha hb
  unfold msgL
  by_cases c : a.ext = b.ext ∧ a.id = b.id
  · rw [if_pos c]
    have := hk.mpr c
    by_cases d : a.sender = b.sender
    · rw [if_pos d, decide_eq_true_eq]; omega
    · rw [if_neg d, decide_eq_true_eq]; omega
  · rw [if_neg c]
    have hne : keyI a.ext a.id ≠ keyI b.ext b.id := fun q => c (hk.mp q)
    unfold idL
    rw [ha, hb, Bool.true_and, Bool.true_and, decide_eq_true_eq]
    omega
theorem msgL_trans {a b c : Msg} (ha : right a.ext a.id = true) (hb : right b.ext b.id = true) (hc : right c.ext c.id = true) (h : msgL a b = true) (k : msgL b c = true) : msgL a c = true := by
  rw [msgL_iff ha hb] at h
  rw [msgL_iff hb hc] at k
  rw [msgL_iff ha hc]
  omega
theorem msgL_total {a b : Msg} (ha : right a.ext a.id = true) (hb : right b.ext b.id = true) (hs : a.sender ≠ b.sender) (h : msgL a b = false) : msgL b a = true := by
  have h : ¬ (msgL a b = true) := by rw [h]; decide
  rw [msgL_iff ha hb] at h
  rw [msgL_iff hb ha]
  omega
def ridM (x : Msg) : Prop := right x.ext x.id = true
theorem insAt_after (x : Msg) (out : List Msg) : ∀ k, ∀ j, insAt x out k ≤ j → j < k → msgL x (out.getD j d_msg) = true
  | 0, j, _, h => absurd h (Nat.not_lt_zero _)
  | k + 1, j, h1, h2 => by
    unfold insAt at h1
    split at h1
    · rename_i c
      by_cases e : j = k
      · subst e; exact c
      · exact insAt_after x out k j h1 (by omega)
    · omega
theorem insAt_before (x : Msg) (out : List Msg) : ∀ k, insAt x out k = 0 ∨ msgL x (out.getD (insAt x out k - 1) d_msg) = false
  | 0 => .inl rfl
  | k + 1 => by
    unfold insAt
    split
    · exact insAt_before x out k
    · rename_i c
      right
      rw [show k + 1 - 1 = k by omega]
      simpa using c
/-- One more, put into order. -/
theorem insM_sorted {x : Msg} {out : List Msg} (hx : ridM x) (ho : ∀ y ∈ out, ridM y ∧ y.sender ≠ x.sender) (hs : out.Pairwise fun a b => msgL a b = true) : (insM x out).Pairwise fun a b => msgL a b = true := by
  have hle := insAt_le x out out.length
  have haf := insAt_after x out out.length
  have hbe := insAt_before x out out.length
  unfold insM
  revert hle haf hbe
  generalize insAt x out out.length = p
  intro hle haf hbe
  have hat : ∀ j (hj : j < out.length), out.getD j d_msg = out[j] := fun j hj => by rw [List.getD_eq_getElem?_getD, List.getElem?_eq_getElem hj]; rfl
  have hdrop : ∀ y ∈ out.drop p, msgL x y = true := fun y hy => by
    obtain ⟨j, hj, rfl⟩ := List.getElem_of_mem hy
    rw [List.length_drop] at hj
    rw [List.getElem_drop]
    have := haf (p + j) (by omega) (by omega)
    rwa [hat (p + j) (by omega)] at this
  have htake : ∀ y ∈ out.take p, msgL y x = true := fun y hy => by
    obtain ⟨j, hj, rfl⟩ := List.getElem_of_mem hy
    rw [List.length_take] at hj
    rw [List.getElem_take]
    rcases hbe with c | c
    · omega
    · rw [hat (p - 1) (by omega)] at c
      obtain ⟨h1, h2⟩ := ho out[p - 1] (List.getElem_mem (by omega))
      have h3 := msgL_total hx h1 (fun e => h2 e.symm) c
      by_cases e : j = p - 1
      · subst e; exact h3
      · obtain ⟨h4, _⟩ := ho out[j] (List.getElem_mem (by omega))
        have := List.pairwise_iff_getElem.mp hs j (p - 1) (by omega) (by omega) (by omega)
        exact msgL_trans h4 h1 hx this h3
  have hsp := hs
  rw [← List.take_append_drop p out] at hsp
  have h3 := List.pairwise_append.mp hsp
  rw [List.append_assoc]
  refine List.pairwise_append.mpr ⟨h3.1, List.pairwise_append.mpr ⟨List.pairwise_singleton _ _, h3.2.1, fun a ha b hb => ?_⟩, fun a ha b hb => ?_⟩
  · have : a = x := by simpa using ha
    subst this; exact hdrop b hb
  · rcases List.mem_append.mp hb with q | q
    · have : b = x := by simpa using q
      subst this; exact htake a ha
    · exact h3.2.2 a ha b q
theorem insM_mem {x y : Msg} {out : List Msg} : y ∈ insM x out ↔ y = x ∨ y ∈ out := by
  unfold insM
  have h := List.take_append_drop (insAt x out out.length) out
  constructor
  · intro hy
    rcases List.mem_append.mp hy with q | q
    · rcases List.mem_append.mp q with q | q
      · exact .inr (List.mem_of_mem_take q)
      · exact .inl (by simpa using q)
    · exact .inr (List.mem_of_mem_drop q)
  · rintro (rfl | q)
    · exact List.mem_append.mpr (.inl (List.mem_append.mpr (.inr (List.mem_singleton.mpr rfl))))
    · rw [← h] at q
      rcases List.mem_append.mp q with q | q
      · exact List.mem_append.mpr (.inl (List.mem_append.mpr (.inl q)))
      · exact List.mem_append.mpr (.inr q)
/-- Messages of unlike senders, put into order. -/
theorem srtL_sorted {l : List Msg} (hr : ∀ y ∈ l, ridM y) (hn : l.Pairwise fun a b => a.sender ≠ b.sender) : ∀ k, k ≤ l.length → (srtL l k).length = k ∧ (∀ y, y ∈ srtL l k ↔ y ∈ l.take k) ∧ (srtL l k).Pairwise fun a b => msgL a b = true
  | 0, _ => ⟨rfl, fun y => by simp [srtL], List.Pairwise.nil⟩
  | k + 1, hk => by
    obtain ⟨h1, h2, h3⟩ := srtL_sorted hr hn k (by omega)
    have hlt : k < l.length := by omega
    have hg : l.getD k d_msg = l[k] := by rw [List.getD_eq_getElem?_getD, List.getElem?_eq_getElem hlt]; rfl
    have hx : ridM l[k] := hr _ (List.getElem_mem hlt)
    have e : srtL l (k + 1) = insM l[k] (srtL l k) := by
      rw [srtL, hg]; exact if_pos hx
    rw [e]
    refine ⟨by rw [insM_length, h1], fun y => ?_, insM_sorted hx (fun y hy => ?_) h3⟩
    · rw [insM_mem, h2, List.take_succ_eq_append_getElem hlt, List.mem_append, List.mem_singleton]
      exact Or.comm
    · have hy := (h2 y).mp hy
      obtain ⟨j, hj, rfl⟩ := List.getElem_of_mem hy
      rw [List.length_take] at hj
      rw [List.getElem_take]
      exact ⟨hr _ (List.getElem_mem (by omega)), List.pairwise_iff_getElem.mp hn j k (by omega) hlt (by omega)⟩
/-! ### Members -/
theorem vl_lt (v : Int) : ∀ k, (∀ x ∈ vl v k, 0 ≤ x ∧ x < (k : Int)) ∧ (vl v k).Pairwise (· < ·)
  | 0 => ⟨fun x hx => (by cases hx), List.Pairwise.nil⟩
  | k + 1 => by
    obtain ⟨h1, h2⟩ := vl_lt v k
    unfold vl
    split
    · refine ⟨fun x hx => ?_, List.pairwise_append.mpr ⟨h2, List.pairwise_singleton _ _, fun a ha b hb => ?_⟩⟩
      · rcases List.mem_append.mp hx with q | q
        · have := h1 x q; omega
        · have : x = (k : Int) := by simpa using q
          omega
      · have : b = (k : Int) := by simpa using hb
        have := h1 a ha
        omega
    · exact ⟨fun x hx => by have := h1 x hx; omega, h2⟩
theorem vl_idx {v : Int} {i : Nat} (hi : i < (vl v 16).length) : idxN (vl v 16) ((vl v 16).getD i 0) = i := by
  have hp := (vl_lt v 16).2
  rw [List.getD_eq_getElem?_getD, List.getElem?_eq_getElem hi]
  refine idxN_at hi (fun y hy => ?_) rfl
  obtain ⟨j, hj, rfl⟩ := List.getElem_of_mem hy
  rw [List.length_take] at hj
  rw [List.getElem_take]
  have := List.pairwise_iff_getElem.mp hp j i (by omega) hi (by omega)
  show (vl v 16)[j] ≠ (vl v 16)[i]
  omega
theorem mInc_sm (incs : List Int) (i : Nat) : sm (mInc incs i) = true := by
  unfold mInc
  split
  · exact sm_pick _
  · rfl
theorem mIncs_length (incs : List Int) (k : Nat) : (mIncs incs k).length = k := by unfold mIncs; rw [List.length_map, List.length_range]
theorem mIncs_at (incs : List Int) (k i : Nat) (h : i < k) : (mIncs incs k).getD i 0 = mInc incs i := by
  rw [List.getD_eq_getElem?_getD, List.getElem?_eq_getElem (by rw [mIncs_length]; exact h)]
  simp [mIncs]
theorem eR_at {c : Int} {incs : List Int} {raw : List A6} {y : Msg} (h : y ∈ eR c incs raw) : ∃ i, i < mN (pickI c 65536) raw ∧ y = mMsg (pickI c 65536) incs raw i := by
  unfold eR mMsgs at h
  obtain ⟨i, hi, rfl⟩ := List.mem_map.mp h
  exact ⟨i, List.mem_range.mp hi, rfl⟩
theorem mN_le (mb : Int) (raw : List A6) : mN mb raw ≤ (vl mb 16).length := by unfold mN; split <;> omega
theorem mMsg_right {mb : Int} {incs : List Int} {raw : List A6} {i : Nat} (hi : i < mN mb raw) : msgR (mMsg mb incs raw i) = true := by
  have hlt : i < (vl mb 16).length := Nat.lt_of_lt_of_le hi (mN_le mb raw)
  have hb := msgOf_right (raw.getD i d_a6) (textData.extract 0 (pickI (raw.getD i d_a6).e 5).toNat)
  have hv := (vl_lt mb 16).1 ((vl mb 16).getD i 0) (by rw [List.getD_eq_getElem?_getD, List.getElem?_eq_getElem hlt]; exact List.getElem_mem hlt)
  simp only [msgR, Bool.and_eq_true] at hb ⊢
  obtain ⟨⟨⟨⟨⟨h1, h2⟩, h3⟩, h4⟩, h5⟩, h6⟩ := hb
  exact ⟨⟨⟨⟨⟨h1, decide_eq_true (by simpa [mMsg] using hv)⟩, mInc_sm incs i⟩, h4⟩, h5⟩, h6⟩
theorem eR_pair (c : Int) (incs : List Int) (raw : List A6) : (eR c incs raw).Pairwise fun a b => a.sender ≠ b.sender := by
  have hp := (vl_lt (pickI c 65536) 16).2
  have hle := mN_le (pickI c 65536) raw
  unfold eR mMsgs
  rw [List.pairwise_map]
  refine List.pairwise_iff_getElem.mpr fun i j hi hj hij => ?_
  rw [List.length_range] at hi hj
  simp only [List.getElem_range]
  have h1 : (vl (pickI c 65536) 16).getD i 0 = (vl (pickI c 65536) 16)[i]'(by omega) := by rw [List.getD_eq_getElem?_getD, List.getElem?_eq_getElem (by omega)]; rfl
  have h2 : (vl (pickI c 65536) 16).getD j 0 = (vl (pickI c 65536) 16)[j]'(by omega) := by rw [List.getD_eq_getElem?_getD, List.getElem?_eq_getElem (by omega)]; rfl
  show (vl (pickI c 65536) 16).getD i 0 ≠ (vl (pickI c 65536) 16).getD j 0
  rw [h1, h2]
  have := List.pairwise_iff_getElem.mp hp i j (by omega) (by omega) hij
  omega
theorem eL_facts (c : Int) (incs : List Int) (raw : List A6) : (eL c incs raw).length = (eR c incs raw).length ∧ (∀ y, y ∈ eL c incs raw ↔ y ∈ eR c incs raw) ∧ (eL c incs raw).Pairwise fun a b => msgL a b = true := by
  have h := srtL_sorted (l := eR c incs raw) (fun y hy => by
    obtain ⟨i, hi, rfl⟩ := eR_at hy
    exact (msgR_is (mMsg_right hi)).1) (eR_pair c incs raw) (eR c incs raw).length (Nat.le_refl _)
  rw [List.take_length] at h
  exact h
theorem incOf_at {mb : Int} {incs : List Int} {i : Nat} (hi : i < (vl mb 16).length) : incIs mb (mIncs incs (vl mb 16).length) ((vl mb 16).getD i 0) = true ∧ incOf mb (mIncs incs (vl mb 16).length) ((vl mb 16).getD i 0) = mInc incs i := by
  have h1 : incIs mb (mIncs incs (vl mb 16).length) ((vl mb 16).getD i 0) = true := by
    unfold incIs
    rw [vl_idx hi, mIncs_length, decide_eq_true rfl, decide_eq_true hi]; rfl
  refine ⟨h1, ?_⟩
  unfold incOf
  rw [if_pos h1, vl_idx hi, mIncs_at _ _ _ hi]
/-- Unlike senders: what is in order by messages alone. -/
theorem snd_apart {c : Int} {incs : List Int} {raw : List A6} {i j : Nat} (hij : i < j) (hj : j < (eL c incs raw).length) : ((eL c incs raw).getD i d_msg).sender ≠ ((eL c incs raw).getD j d_msg).sender := by
  obtain ⟨h1, h2, h3⟩ := eL_facts c incs raw
  have g1 : (eL c incs raw).getD i d_msg = (eL c incs raw)[i]'(by omega) := by rw [List.getD_eq_getElem?_getD, List.getElem?_eq_getElem (by omega)]; rfl
  have g2 : (eL c incs raw).getD j d_msg = (eL c incs raw)[j] := by rw [List.getD_eq_getElem?_getD, List.getElem?_eq_getElem hj]; rfl
  rw [g1, g2]
  have m1 := (h2 _).mp (List.getElem_mem (show i < (eL c incs raw).length by omega))
  have m2 := (h2 _).mp (List.getElem_mem hj)
  have hlt := List.pairwise_iff_getElem.mp h3 i j (by omega) hj hij
  intro e
  obtain ⟨a, ha, ea⟩ := List.getElem_of_mem m1
  obtain ⟨b, hb, eb⟩ := List.getElem_of_mem m2
  have hp := List.pairwise_iff_getElem.mp (eR_pair c incs raw)
  rw [← ea, ← eb] at e hlt
  rcases Nat.lt_trichotomy a b with q | q | q
  · exact hp a b ha hb q e
  · subst q
    have hr : right (eR c incs raw)[a].ext (eR c incs raw)[a].id = true := by
      obtain ⟨i', hi', e'⟩ := eR_at (List.getElem_mem ha)
      rw [e']; exact (msgR_is (mMsg_right hi')).1
    rw [msgL_iff hr hr] at hlt
    omega
  · exact hp b a hb ha q e.symm
theorem mk_entR (a b c : Int) (incs : List Int) (raw : List A6) : entR (eT a) (eT b) (pickI c 65536) (eI c incs) (eL c incs raw) = true := by
  have rc := pickI_range c 65536 (by omega)
  obtain ⟨h1, h2, h3⟩ := eL_facts c incs raw
  unfold entR
  rw [Bool.and_eq_true]
  refine ⟨?_, List.all_eq_true.mpr fun k hk => ?_⟩
  · unfold entS
    simp only [Bool.and_eq_true, decide_eq_true_eq, List.all_eq_true]
    refine ⟨⟨⟨⟨sm_pick a, sm_pick b⟩, by omega⟩, mIncs_length _ _⟩, fun x hx => ?_⟩
    unfold eI mIncs at hx
    obtain ⟨i, _, rfl⟩ := List.mem_map.mp hx
    exact mInc_sm incs i
  · have hk := List.mem_range.mp hk
    have g : (eL c incs raw).getD k d_msg = (eL c incs raw)[k] := by rw [List.getD_eq_getElem?_getD, List.getElem?_eq_getElem hk]; rfl
    obtain ⟨i, hi, e⟩ := eR_at ((h2 _).mp (List.getElem_mem hk))
    obtain ⟨q1, q2⟩ := incOf_at (mb := pickI c 65536) (incs := incs) (i := i) (Nat.lt_of_lt_of_le hi (mN_le _ _))
    have es : ((eL c incs raw).getD k d_msg).sender = (vl (pickI c 65536) 16).getD i 0 := by rw [g, e]; rfl
    have ei : ((eL c incs raw).getD k d_msg).inc = mInc incs i := by rw [g, e]; rfl
    unfold entM
    simp only [Bool.and_eq_true, decide_eq_true_eq]
    refine ⟨⟨⟨⟨by rw [g, e]; exact mMsg_right hi, by rw [es]; exact q1⟩, by rw [es, ei]; exact q2⟩, ?_⟩, List.all_eq_true.mpr fun x hx => ?_⟩
    · rw [Bool.or_eq_true, decide_eq_true_eq]
      by_cases c0 : k = 0
      · exact .inl c0
      · right
        have g' : (eL c incs raw).getD (k - 1) d_msg = (eL c incs raw)[k - 1]'(by omega) := by rw [List.getD_eq_getElem?_getD, List.getElem?_eq_getElem (by omega)]; rfl
        rw [g, g']
        exact List.pairwise_iff_getElem.mp h3 (k - 1) k (by omega) hk (by omega)
    · obtain ⟨j, hj, rfl⟩ := List.getElem_of_mem hx
      rw [List.length_take] at hj
      rw [List.getElem_take]
      have := snd_apart (c := c) (incs := incs) (raw := raw) (i := j) (j := k) (by omega) hk
      have g' : (eL c incs raw).getD j d_msg = (eL c incs raw)[j]'(by omega) := by rw [List.getD_eq_getElem?_getD, List.getElem?_eq_getElem (by omega)]; rfl
      rw [g'] at this
      simpa using this
end Go.Proofs.YtdpoimomipdgjaaDoor.X
