/- Which of two messages goes ahead. -/
import Derived.Test.YtdpoimomipdgjaaDoorRRef04
namespace Go.Proofs.YtdpoimomipdgjaaDoor.X
open Go Go.RX Go.RowKit Go.Proofs
set_option linter.unusedVariables false
set_option linter.unusedSimpArgs false
def idL (a b : Msg) : Bool := right a.ext a.id && right b.ext b.id && decide (keyI a.ext a.id < keyI b.ext b.id)
def cmp3 (a b : Int) : Int := if a < b then -1 else if b < a then 1 else 0
def msgL (a b : Msg) : Bool := if a.ext = b.ext ∧ a.id = b.id then (if a.sender = b.sender then decide (a.number < b.number) else decide (a.sender < b.sender)) else idL a b
def msgC (a b : Msg) : Int := if idL a b = true then -1 else if idL b a = true then 1 else if a.ext = b.ext ∧ a.id = b.id then (if cmp3 a.sender b.sender = 0 then cmp3 a.number b.number else cmp3 a.sender b.sender) else 0
def firstN : List Int → Int
  | [] => 0
  | x :: r => if x = 0 then firstN r else x
theorem firstN_zero {l : List Int} (h : ∀ x ∈ l, x = 0) : firstN l = 0 := by
  induction l with
  | nil => rfl
  | cons x r ih => unfold firstN; rw [if_pos (h x (List.mem_cons_self ..))]; exact ih fun y hy => h y (List.mem_cons_of_mem _ hy)
theorem firstN_at : ∀ {l : List Int} {k : Nat} (hk : k < l.length), (∀ x ∈ l.take k, x = 0) → l[k] ≠ 0 → firstN l = l[k]
  | x :: r, 0, _, _, hx => by unfold firstN; exact if_neg hx
  | x :: r, k + 1, hk, h, hx => by
    unfold firstN
    rw [if_pos (h x (by rw [List.take_succ_cons]; exact List.mem_cons_self ..))]
    exact firstN_at (l := r) (k := k) (Nat.lt_of_succ_lt_succ hk) (fun y hy => h y (by rw [List.take_succ_cons]; exact List.mem_cons_of_mem _ hy)) hx
theorem idL_same {a b : Msg} (h : a.ext = b.ext ∧ a.id = b.id) : idL a b = false := by
  unfold idL
  rw [h.1, h.2, decide_eq_false (Int.lt_irrefl _), Bool.and_false]
theorem msgC_neg (a b : Msg) : decide (msgC a b < 0) = msgL a b := by
  unfold msgC msgL
  by_cases q : a.ext = b.ext ∧ a.id = b.id
  · rw [idL_same q, idL_same ⟨q.1.symm, q.2.symm⟩, if_neg (by decide), if_neg (by decide), if_pos q, if_pos q]
    unfold cmp3
    by_cases c : a.sender = b.sender
    · rw [if_pos c, if_neg (show ¬ a.sender < b.sender by omega), if_neg (show ¬ b.sender < a.sender by omega), if_pos rfl]
      by_cases d : a.number < b.number
      · rw [if_pos d, decide_eq_true d]; rfl
      · rw [if_neg d, decide_eq_false d]; split <;> rfl
    · rw [if_neg c]
      by_cases d : a.sender < b.sender
      · rw [if_pos d, if_neg (by decide), decide_eq_true d]; rfl
      · rw [if_neg d, if_pos (show b.sender < a.sender by omega), if_neg (by decide), decide_eq_false d]; rfl
  · rw [if_neg q, if_neg q]
    cases idL a b with
    | true => rfl
    | false => cases idL b a <;> rfl
def cmpInt_S : RX.Spec U := fun
  | [⟨false, [.v (.int .i64 a)]⟩, ⟨false, [.v (.int .i64 b)]⟩] => some ⟨none, (.one ⟨false, [.v (.int .i64 (cmp3 a b))]⟩)⟩
  | _ => none

theorem cmpInt_ok : ConOk Tryd.prog U GV 80 cmpInt_S :=
  fn_go gs ty glok conNil Tryd.func80 (by kernel_rfl) fun ds r hg hp => by
    unfold cmpInt_S at hg
    split at hg
    · rename_i a b
      cases hg
      refine ⟨fun _ _ => none, ((a != a) = true → ((b != b) = true → Out.one (U := U) (D.mk false [CV.v (Value.int IntKind.i64 (0 : Int))]) = Out.one (U := U) (D.mk false [CV.v (Value.int IntKind.i64 (cmp3 a b))])) ∧ ((b != b) = false → Out.one (U := U) (D.mk false [CV.v (Value.int IntKind.i64 (-1 : Int))]) = Out.one (U := U) (D.mk false [CV.v (Value.int IntKind.i64 (cmp3 a b))]))) ∧ ((a != a) = false → ((b != b) = true → Out.one (U := U) (D.mk false [CV.v (Value.int IntKind.i64 (1 : Int))]) = Out.one (U := U) (D.mk false [CV.v (Value.int IntKind.i64 (cmp3 a b))])) ∧ ((b != b) = false → (decide (a < b) = true → Out.one (U := U) (D.mk false [CV.v (Value.int IntKind.i64 (-1 : Int))]) = Out.one (U := U) (D.mk false [CV.v (Value.int IntKind.i64 (cmp3 a b))])) ∧ (decide (a < b) = false → (decide (b < a) = true → Out.one (U := U) (D.mk false [CV.v (Value.int IntKind.i64 (1 : Int))]) = Out.one (U := U) (D.mk false [CV.v (Value.int IntKind.i64 (cmp3 a b))])) ∧ (decide (b < a) = false → Out.one (U := U) (D.mk false [CV.v (Value.int IntKind.i64 (0 : Int))]) = Out.one (U := U) (D.mk false [CV.v (Value.int IntKind.i64 (cmp3 a b))]))))), by kernel_rfl, ?_⟩
      refine ⟨fun h => (by simp at h), fun _ => ⟨fun h => (by simp at h), fun _ => ⟨fun h => ?_, fun h => ⟨fun h2 => ?_, fun h2 => ?_⟩⟩⟩⟩
      · simp only [Out.one.injEq, Out.tup.injEq, D.mk.injEq, List.cons.injEq, CV.v.injEq, CV.sl.injEq, Value.bool.injEq, Value.int.injEq, Value.string.injEq, and_true, true_and, heq_eq_eq]; unfold cmp3; rw [if_pos (of_decide_eq_true h)]
      · simp only [Out.one.injEq, Out.tup.injEq, D.mk.injEq, List.cons.injEq, CV.v.injEq, CV.sl.injEq, Value.bool.injEq, Value.int.injEq, Value.string.injEq, and_true, true_and, heq_eq_eq]; unfold cmp3; rw [if_neg (of_decide_eq_false h), if_pos (of_decide_eq_true h2)]
      · simp only [Out.one.injEq, Out.tup.injEq, D.mk.injEq, List.cons.injEq, CV.v.injEq, CV.sl.injEq, Value.bool.injEq, Value.int.injEq, Value.string.injEq, and_true, true_and, heq_eq_eq]; unfold cmp3; rw [if_neg (of_decide_eq_false h), if_neg (of_decide_eq_false h2)]
    · cases hg

def cmpOr_S : RX.Spec U := fun
  | [⟨false, [.sl .int l]⟩] => some ⟨some (l.length ≤ 1000000), (.one ⟨false, [.v (.int .i64 (firstN l))]⟩)⟩
  | _ => none

theorem cmpOr_ok : ConOk Tryd.prog U GV 79 cmpOr_S :=
  fn_go gs ty glok conNil Tryd.func79 (by kernel_rfl) fun ds r hg hp => by
    unfold cmpOr_S at hg
    split at hg
    · rename_i l
      obtain ⟨l, rfl⟩ : ∃ q_ : List Int, q_ = l := ⟨l, rfl⟩
      cases hg
      replace hp : (l.length ≤ 1000000) := hp
      refine ⟨fun st key => if key = 3 then some { N := l.length, mods := fun k => [.tv 8 (.int .i64 (k : Int))], inv := fun k => ∀ x ∈ l.take k, x = 0 } else none, (∀ (x : Int), List.Mem x (List.take (0 : Nat) l) → x = (0 : Int)) ∧ Value.int IntKind.i64 (0 : Int) = Value.int IntKind.i64 (0 : Int) ∧ ∀ (k : Nat), k ≤ List.length l → (∀ (x : Int), List.Mem x (List.take k l) → x = (0 : Int)) → (decide ((↑k : Int) < (↑(List.length l) : Int)) = true → ((0 : Int) ≤ (↑k : Int) ∧ (↑k : Int) < (↑(List.length l) : Int)) ∧ ((List.getD l (Int.toNat (↑k : Int)) (d_int) != (0 : Int)) = true → Out.one (U := U) (D.mk false [CV.v (Value.int IntKind.i64 (List.getD l (Int.toNat (↑k : Int)) (d_int)))]) = Out.one (U := U) (D.mk false [CV.v (Value.int IntKind.i64 (firstN l))])) ∧ ((List.getD l (Int.toNat (↑k : Int)) (d_int) != (0 : Int)) = false → k < List.length l ∧ (∀ (x : Int), List.Mem x (List.take (k + (1 : Nat)) l) → x = (0 : Int)) ∧ Value.int IntKind.i64 (wrap64 ((↑k : Int) + (1 : Int))) = Value.int IntKind.i64 (↑(k + (1 : Nat)) : Int))) ∧ (decide ((↑k : Int) < (↑(List.length l) : Int)) = false → Out.one (U := U) (D.mk false [CV.v (Value.int IntKind.i64 (0 : Int))]) = Out.one (U := U) (D.mk false [CV.v (Value.int IntKind.i64 (firstN l))])), by kernel_rfl, ?_⟩
      refine ⟨fun x hx => (by cases hx), rfl, fun k hk hik => ⟨fun hlt => ?_, fun hge => ?_⟩⟩
      · have hlt : k < l.length := by have := of_decide_eq_true hlt; omega
        rw [getD_at l k _ hlt]
        refine ⟨by omega, fun ho => ?_, fun ho => ⟨hlt, fun x hx => ?_, ?_⟩⟩
        · simp only [Out.one.injEq, Out.tup.injEq, D.mk.injEq, List.cons.injEq, CV.v.injEq, CV.sl.injEq, Value.bool.injEq, Value.int.injEq, Value.string.injEq, and_true, true_and, heq_eq_eq]
          exact (firstN_at hlt hik (by simpa using ho)).symm
        · have hx : x ∈ l.take (k + 1) := hx
          rw [List.take_succ_eq_append_getElem hlt] at hx
          rcases List.mem_append.mp hx with q | q
          · exact hik x q
          · have : x = l[k] := by simpa using q
            rw [this]; simpa using ho
        · rw [w64 (by omega)]; rfl
      · have hge := of_decide_eq_false hge
        have e1 : l.take k = l := List.take_of_length_le (by omega)
        rw [e1] at hik
        simp only [Out.one.injEq, Out.tup.injEq, D.mk.injEq, List.cons.injEq, CV.v.injEq, CV.sl.injEq, Value.bool.injEq, Value.int.injEq, Value.string.injEq, and_true, true_and, heq_eq_eq]
        exact (firstN_zero hik).symm
    · cases hg

def msgCompare_S : RX.Spec U := fun
  | [⟨true, [.v (.bool e), .v (.int .i64 n), .v (.int .i64 sd), .v (.int .i64 ic), .v (.int .i64 sq), .v (.int .i64 nm), .v (.string dt)]⟩, ⟨true, [.v (.bool (e')), .v (.int .i64 (n')), .v (.int .i64 (sd')), .v (.int .i64 (ic')), .v (.int .i64 (sq')), .v (.int .i64 (nm')), .v (.string (dt'))]⟩] => some ⟨none, (.one ⟨false, [.v (.int .i64 (msgC ⟨e, n, sd, ic, sq, nm, dt⟩ ⟨e', n', sd', ic', sq', nm', dt'⟩))]⟩)⟩
  | _ => none

theorem msgCompare_ok : ConOk Tryd.prog U GV 66 msgCompare_S :=
  fn_go gs ty glok (conCons Less_ok (conCons cmpInt_ok (conCons cmpOr_ok conNil))) Tryd.func66 (by kernel_rfl) fun ds r hg hp => by
    unfold msgCompare_S at hg
    split at hg
    · rename_i e n sd ic sq nm dt e' n' sd' ic' sq' nm' dt'
      cases hg
      refine ⟨fun _ _ => none, ((right e n && right e' n' && decide (keyI e n < keyI e' n')) = true → Out.one (U := U) (D.mk false [CV.v (Value.int IntKind.i64 (-1 : Int))]) = Out.one (U := U) (D.mk false [CV.v (Value.int IntKind.i64 (msgC (Msg.mk e n sd ic sq nm dt) (Msg.mk e' n' sd' ic' sq' nm' dt')))])) ∧ ((right e n && right e' n' && decide (keyI e n < keyI e' n')) = false → ((right e' n' && right e n && decide (keyI e' n' < keyI e n)) = true → Out.one (U := U) (D.mk false [CV.v (Value.int IntKind.i64 (1 : Int))]) = Out.one (U := U) (D.mk false [CV.v (Value.int IntKind.i64 (msgC (Msg.mk e n sd ic sq nm dt) (Msg.mk e' n' sd' ic' sq' nm' dt')))])) ∧ ((right e' n' && right e n && decide (keyI e' n' < keyI e n)) = false → ((!(e == e' && n == n')) = true → Out.one (U := U) (D.mk false [CV.v (Value.int IntKind.i64 (0 : Int))]) = Out.one (U := U) (D.mk false [CV.v (Value.int IntKind.i64 (msgC (Msg.mk e n sd ic sq nm dt) (Msg.mk e' n' sd' ic' sq' nm' dt')))])) ∧ ((!(e == e' && n == n')) = false → List.length [cmp3 sd sd', cmp3 nm nm'] ≤ (1000000 : Nat) ∧ Out.one (U := U) (D.mk false [CV.v (Value.int IntKind.i64 (firstN [cmp3 sd sd', cmp3 nm nm']))]) = Out.one (U := U) (D.mk false [CV.v (Value.int IntKind.i64 (msgC (Msg.mk e n sd ic sq nm dt) (Msg.mk e' n' sd' ic' sq' nm' dt')))])))), by kernel_rfl, ?_⟩
      refine ⟨fun h => ?_, fun h => ⟨fun h2 => ?_, fun h2 => ⟨fun h3 => ?_, fun h3 => ⟨by simp, ?_⟩⟩⟩⟩
      · simp only [Out.one.injEq, Out.tup.injEq, D.mk.injEq, List.cons.injEq, CV.v.injEq, CV.sl.injEq, Value.bool.injEq, Value.int.injEq, Value.string.injEq, and_true, true_and, heq_eq_eq]; unfold msgC; exact (if_pos h).symm
      · simp only [Out.one.injEq, Out.tup.injEq, D.mk.injEq, List.cons.injEq, CV.v.injEq, CV.sl.injEq, Value.bool.injEq, Value.int.injEq, Value.string.injEq, and_true, true_and, heq_eq_eq]; unfold msgC; exact ((if_neg (fun c => absurd (h.symm.trans c) (by decide))).trans (if_pos h2)).symm
      · simp only [Out.one.injEq, Out.tup.injEq, D.mk.injEq, List.cons.injEq, CV.v.injEq, CV.sl.injEq, Value.bool.injEq, Value.int.injEq, Value.string.injEq, and_true, true_and, heq_eq_eq]; unfold msgC
        refine ((if_neg (fun c => absurd (h.symm.trans c) (by decide))).trans ((if_neg (fun c => absurd (h2.symm.trans c) (by decide))).trans (if_neg (fun q => ?_)))).symm
        obtain ⟨q1, q2⟩ := q
        have q1 : e = e' := q1
        have q2 : n = n' := q2
        simp [q1, q2] at h3
      · have hq : e = e' ∧ n = n' := by simpa using h3
        simp only [Out.one.injEq, Out.tup.injEq, D.mk.injEq, List.cons.injEq, CV.v.injEq, CV.sl.injEq, Value.bool.injEq, Value.int.injEq, Value.string.injEq, and_true, true_and, heq_eq_eq]; unfold msgC
        refine Eq.trans ?_ ((if_neg (fun c => absurd (h.symm.trans c) (by decide))).trans ((if_neg (fun c => absurd (h2.symm.trans c) (by decide))).trans (if_pos hq))).symm
        unfold firstN
        split
        · unfold firstN
          split
          · rename_i z; rw [z]; rfl
          · rfl
        · rfl
    · cases hg

def msgLess_S : RX.Spec U := fun
  | [⟨true, [.v (.bool e), .v (.int .i64 n), .v (.int .i64 sd), .v (.int .i64 ic), .v (.int .i64 sq), .v (.int .i64 nm), .v (.string dt)]⟩, ⟨true, [.v (.bool (e')), .v (.int .i64 (n')), .v (.int .i64 (sd')), .v (.int .i64 (ic')), .v (.int .i64 (sq')), .v (.int .i64 (nm')), .v (.string (dt'))]⟩] => some ⟨none, (.one ⟨false, [.v (.bool (msgL ⟨e, n, sd, ic, sq, nm, dt⟩ ⟨e', n', sd', ic', sq', nm', dt'⟩))]⟩)⟩
  | _ => none

theorem msgLess_ok : ConOk Tryd.prog U GV 38 msgLess_S :=
  fn_go gs ty glok (conCons msgCompare_ok conNil) Tryd.func38 (by kernel_rfl) fun ds r hg hp => by
    unfold msgLess_S at hg
    split at hg
    · rename_i e n sd ic sq nm dt e' n' sd' ic' sq' nm' dt'
      cases hg
      refine ⟨fun _ _ => none, Out.one (U := U) (D.mk false [CV.v (Value.bool (decide (msgC (Msg.mk e n sd ic sq nm dt) (Msg.mk e' n' sd' ic' sq' nm' dt') < (0 : Int))))]) = Out.one (U := U) (D.mk false [CV.v (Value.bool (msgL (Msg.mk e n sd ic sq nm dt) (Msg.mk e' n' sd' ic' sq' nm' dt')))]), by kernel_rfl, ?_⟩
      simp only [Out.one.injEq, Out.tup.injEq, D.mk.injEq, List.cons.injEq, CV.v.injEq, CV.sl.injEq, Value.bool.injEq, Value.int.injEq, Value.string.injEq, and_true, true_and, heq_eq_eq]
      exact msgC_neg _ _
    · cases hg

def rmsgLess_S : RX.Spec U := fun
  | [⟨true, [.v (.bool e), .v (.int .i64 n), .v (.int .i64 sd), .v (.int .i64 ic), .v (.int .i64 sq), .v (.int .i64 nm), .v (.string dt)]⟩, ⟨true, [.v (.bool (e')), .v (.int .i64 (n')), .v (.int .i64 (sd')), .v (.int .i64 (ic')), .v (.int .i64 (sq')), .v (.int .i64 (nm')), .v (.string (dt'))]⟩] => some ⟨none, (.one ⟨false, [.v (.bool (msgL ⟨e, n, sd, ic, sq, nm, dt⟩ ⟨e', n', sd', ic', sq', nm', dt'⟩))]⟩)⟩
  | _ => none

theorem rmsgLess_ok : ConOk Tryd.prog U GV 43 rmsgLess_S :=
  fn_go gs ty glok (conCons rLess_ok conNil) Tryd.func43 (by kernel_rfl) fun ds r hg hp => by
    unfold rmsgLess_S at hg
    split at hg
    · rename_i e n sd ic sq nm dt e' n' sd' ic' sq' nm' dt'
      cases hg
      refine ⟨fun _ _ => none, ((!(e == e' && n == n')) = true → Out.one (U := U) (D.mk false [CV.v (Value.bool (right e n && right e' n' && decide (keyI e n < keyI e' n')))]) = Out.one (U := U) (D.mk false [CV.v (Value.bool (msgL (Msg.mk e n sd ic sq nm dt) (Msg.mk e' n' sd' ic' sq' nm' dt')))])) ∧ ((!(e == e' && n == n')) = false → ((sd != sd') = true → Out.one (U := U) (D.mk false [CV.v (Value.bool (decide (sd < sd')))]) = Out.one (U := U) (D.mk false [CV.v (Value.bool (msgL (Msg.mk e n sd ic sq nm dt) (Msg.mk e' n' sd' ic' sq' nm' dt')))])) ∧ ((sd != sd') = false → Out.one (U := U) (D.mk false [CV.v (Value.bool (decide (nm < nm')))]) = Out.one (U := U) (D.mk false [CV.v (Value.bool (msgL (Msg.mk e n sd ic sq nm dt) (Msg.mk e' n' sd' ic' sq' nm' dt')))]))), by kernel_rfl, ?_⟩
      refine ⟨fun h => ?_, fun h => ⟨fun h2 => ?_, fun h2 => ?_⟩⟩
      · simp only [Out.one.injEq, Out.tup.injEq, D.mk.injEq, List.cons.injEq, CV.v.injEq, CV.sl.injEq, Value.bool.injEq, Value.int.injEq, Value.string.injEq, and_true, true_and, heq_eq_eq]; unfold msgL
        refine (if_neg fun q => ?_).symm
        obtain ⟨q1, q2⟩ := q
        have q1 : e = e' := q1
        have q2 : n = n' := q2
        simp [q1, q2] at h
      · have hq : e = e' ∧ n = n' := by simpa using h
        simp only [Out.one.injEq, Out.tup.injEq, D.mk.injEq, List.cons.injEq, CV.v.injEq, CV.sl.injEq, Value.bool.injEq, Value.int.injEq, Value.string.injEq, and_true, true_and, heq_eq_eq]; unfold msgL
        exact ((if_pos hq).trans (if_neg (fun c => by have c : sd = sd' := c; simp [c] at h2))).symm
      · have hq : e = e' ∧ n = n' := by simpa using h
        simp only [Out.one.injEq, Out.tup.injEq, D.mk.injEq, List.cons.injEq, CV.v.injEq, CV.sl.injEq, Value.bool.injEq, Value.int.injEq, Value.string.injEq, and_true, true_and, heq_eq_eq]; unfold msgL
        exact ((if_pos hq).trans (if_pos (by simpa using h2))).symm
    · cases hg

end Go.Proofs.YtdpoimomipdgjaaDoor.X
