/- What was gathered, and whether it is whole. -/
import Derived.Test.YtelpblhhpdonkaaRFmay
namespace Go.Proofs.Ytelpblhhpdonkaa.X
open Go Go.RX Go.RowKit Go.Proofs
set_option linter.unusedVariables false
set_option linter.unusedSimpArgs false
set_option maxHeartbeats 4000000
/-- Some texts, one behind the other. -/
def catS : List ByteArray → ByteArray
  | [] => .empty
  | s :: l => s ++ catS l
def wholeB (g : Gather) : Bool := gatherM g && !decide (g.parts.length = 0) && !hasS g.parts .empty
def wholeS (g : Gather) : ByteArray := if wholeB g = true then catS g.parts else .empty
def putB (g : Gather) (inc : Int) (p : Piece) : Bool := gatherM g && pieceR p && btw inc 1 65535
/-- What a piece is put to. -/
def putO (g : Gather) (inc : Int) (p : Piece) : Gather := if g.inc = inc ∧ g.seq = p.seq ∧ (g.parts.length : Int) = p.of_ then g else ⟨inc, p.seq, List.replicate p.of_.toNat .empty⟩
def putL (l : List ByteArray) (p : Piece) : List ByteArray := if (l.getD p.at_.toNat .empty == .empty) = true then l.set p.at_.toNat p.bytes else l
def putG (g : Gather) (inc : Int) (p : Piece) : Gather := if putB g inc p = true then if (decide (inc < g.inc) || g.inc == inc && decide (p.seq < g.seq)) = true then g else ⟨(putO g inc p).inc, (putO g inc p).seq, putL (putO g inc p).parts p⟩ else g
theorem same5 : ∀ {a b c : Bool}, (!(a && (b && c))) = false → a = true ∧ b = true ∧ c = true := fun {a b c} h => by cases a <;> cases b <;> cases c <;> simp_all
def putOld (g : Gather) (inc : Int) (p : Piece) : Bool := decide (inc < g.inc) || g.inc == inc && decide (p.seq < g.seq)
theorem put_no {g : Gather} {inc : Int} {p : Piece} (h : putB g inc p = false) : putG g inc p = g := by unfold putG; rw [h]; rfl
theorem put_old {g : Gather} {inc : Int} {p : Piece} (h : putOld g inc p = true) : putG g inc p = g := by
  unfold putG
  split
  · exact if_pos h
  · rfl
theorem put_new {g : Gather} {inc : Int} {p : Piece} (h : putB g inc p = true) (ho : putOld g inc p = false) : putG g inc p = ⟨(putO g inc p).inc, (putO g inc p).seq, putL (putO g inc p).parts p⟩ := by
  unfold putG
  rw [if_pos h]
  have : ¬ (decide (inc < g.inc) || g.inc == inc && decide (p.seq < g.seq)) = true := by
    unfold putOld at ho; rw [ho]; decide
  exact if_neg this
theorem putO_new {g : Gather} {inc : Int} {p : Piece} (h : ¬ (g.inc = inc ∧ g.seq = p.seq ∧ (g.parts.length : Int) = p.of_)) : putO g inc p = ⟨inc, p.seq, List.replicate p.of_.toNat .empty⟩ := if_neg h
theorem putO_same {g : Gather} {inc : Int} {p : Piece} (h : g.inc = inc ∧ g.seq = p.seq ∧ (g.parts.length : Int) = p.of_) : putO g inc p = g := if_pos h
theorem putL_set {l : List ByteArray} {p : Piece} (h : (l.getD p.at_.toNat .empty == .empty) = true) : putL l p = l.set p.at_.toNat p.bytes := if_pos h
theorem putL_not {l : List ByteArray} {p : Piece} (h : (l.getD p.at_.toNat .empty == .empty) = false) : putL l p = l := if_neg (by rw [h]; decide)
theorem catS_app (l m : List ByteArray) : catS (l ++ m) = catS l ++ catS m := by
  induction l with
  | nil => apply ByteArray.ext; simp [catS]
  | cons s l ih => rw [List.cons_append, catS, ih, catS, ByteArray.append_assoc]
theorem catS_one (s : ByteArray) : catS [s] = s := by
  apply ByteArray.ext; simp [catS]
theorem catS_size {l : List ByteArray} (h : l.all okPart = true) : (catS l).size ≤ 16 * l.length := by
  induction l with
  | nil => exact Nat.zero_le _
  | cons s l ih =>
    simp only [List.all_cons, Bool.and_eq_true] at h
    have h1 : s.size ≤ 16 := of_decide_eq_true h.1
    have := ih h.2
    rw [catS, ByteArray.size_append, List.length_cons]; omega
theorem gatherM_parts {g : Gather} (h : gatherM g = true) : g.parts.length ≤ 20 ∧ g.parts.all okPart = true := by
  unfold gatherM at h
  split at h
  · have := of_decide_eq_true h
    have : g.parts = [] := List.eq_nil_of_length_eq_zero this
    rw [this]; exact ⟨Nat.zero_le _, rfl⟩
  · simp only [Bool.and_eq_true, decide_eq_true_eq] at h
    exact ⟨h.1.1.2, h.1.2⟩
def folder_S : RX.Spec U := fun
  | [⟨true, [.v (.int .i64 a), .v (.int .i64 b), .v (.int .i64 c)]⟩, ⟨true, [.v (.int .i64 d), .v (.int .i64 e), .v (.int .i64 f)]⟩] => some ⟨none, (.one ⟨false, [.v (.bool (decide (a < d) || a == d && decide (b < e)))]⟩)⟩
  | _ => none

theorem folder_ok : ConOk Try.prog U GV 42 folder_S :=
  fn_go gs ty glok conNil Try.func42 (by kernel_rfl) fun ds r hg hp => by
    unfold folder_S at hg
    split at hg
    · rename_i a b c d e f
      cases hg
      refine ⟨fun _ _ => none, ((0 : Int) ≤ (0 : Int) ∧ (0 : Int) < (3 : Int)) ∧ ((0 : Int) ≤ (0 : Int) ∧ (0 : Int) < (3 : Int)) ∧ ((!decide (a < d)) = true → (0 : Int) ≤ (0 : Int) ∧ (0 : Int) < (3 : Int)) ∧ ((!decide (a < d)) = true → (0 : Int) ≤ (0 : Int) ∧ (0 : Int) < (3 : Int)) ∧ ((!decide (a < d) && a == d) = true → (0 : Int) ≤ (1 : Int) ∧ (1 : Int) < (3 : Int)) ∧ ((!decide (a < d) && a == d) = true → (0 : Int) ≤ (1 : Int) ∧ (1 : Int) < (3 : Int)) ∧ Out.one (U := U) (D.mk false [CV.v (Value.bool (decide (a < d) || a == d && decide (b < e)))]) = Out.one (U := U) (D.mk false [CV.v (Value.bool (decide (a < d) || a == d && decide (b < e)))]), by kernel_rfl, ?_⟩
      refine ⟨by decide, by decide, fun _ => by decide, fun _ => by decide, fun _ => by decide, fun _ => by decide, rfl⟩
    · cases hg

def fPut_S : RX.Spec U := fun
  | [⟨true, [.v (.int .i64 i), .v (.int .i64 sq), .sl .str l]⟩, ⟨false, [.v (.int .i64 inc)]⟩, ⟨true, [.v (.int .i64 ps), .v (.int .i64 pa), .v (.int .i64 po), .v (.string pb)]⟩] => some ⟨some (l.length ≤ 1000000), (.tup [⟨true, [.v (.int .i64 ((putG ⟨i, sq, l⟩ inc ⟨ps, pa, po, pb⟩).inc)), .v (.int .i64 ((putG ⟨i, sq, l⟩ inc ⟨ps, pa, po, pb⟩).seq)), .sl .str ((putG ⟨i, sq, l⟩ inc ⟨ps, pa, po, pb⟩).parts)]⟩, ⟨false, [.v (.int .i64 (er1 (putB ⟨i, sq, l⟩ inc ⟨ps, pa, po, pb⟩)))]⟩])⟩
  | _ => none

theorem fPut_ok : ConOk Try.prog U GV 28 fPut_S :=
  fn_go gs ty (RX.glX_ok glok) (conCons fMay_ok (conCons fRight_ok (conCons fsmall_ok (conCons folder_ok conNil)))) Try.func28 (by kernel_rfl) fun ds r hg hp => by
    unfold fPut_S at hg
    split at hg
    · rename_i i sq l inc ps pa po pb
      obtain ⟨l, rfl⟩ : ∃ q_ : List ByteArray, q_ = l := ⟨l, rfl⟩
      cases hg
      replace hp : (l.length ≤ 1000000) := hp
      refine ⟨fun _ _ => none, List.length l ≤ (1000000 : Nat) ∧ ∀ (b : Bool), (b = true → l = []) → (b = true → ((!(gatherM (Gather.mk i sq l) && pieceR (Piece.mk ps pa po pb) && btw inc (1 : Int) (65535 : Int))) = true → Out.tup (U := U) [D.mk true [CV.v (Value.int IntKind.i64 i), CV.v (Value.int IntKind.i64 sq), CV.sl Kind.str []], D.mk false [CV.v (Value.int IntKind.i64 (1 : Int))]] = Out.tup (U := U) [D.mk true [CV.v (Value.int IntKind.i64 (Gather.inc (putG (Gather.mk i sq l) inc (Piece.mk ps pa po pb)))), CV.v (Value.int IntKind.i64 (Gather.seq (putG (Gather.mk i sq l) inc (Piece.mk ps pa po pb)))), CV.sl Kind.str (Gather.parts (putG (Gather.mk i sq l) inc (Piece.mk ps pa po pb)))], D.mk false [CV.v (Value.int IntKind.i64 (er1 (putB (Gather.mk i sq l) inc (Piece.mk ps pa po pb))))]]) ∧ ((!(gatherM (Gather.mk i sq l) && pieceR (Piece.mk ps pa po pb) && btw inc (1 : Int) (65535 : Int))) = false → ((decide (inc < i) || inc == i && decide (ps < sq)) = true → Out.tup (U := U) [D.mk true [CV.v (Value.int IntKind.i64 i), CV.v (Value.int IntKind.i64 sq), CV.sl Kind.str []], D.mk false [CV.v (Value.int IntKind.i64 (0 : Int))]] = Out.tup (U := U) [D.mk true [CV.v (Value.int IntKind.i64 (Gather.inc (putG (Gather.mk i sq l) inc (Piece.mk ps pa po pb)))), CV.v (Value.int IntKind.i64 (Gather.seq (putG (Gather.mk i sq l) inc (Piece.mk ps pa po pb)))), CV.sl Kind.str (Gather.parts (putG (Gather.mk i sq l) inc (Piece.mk ps pa po pb)))], D.mk false [CV.v (Value.int IntKind.i64 (er1 (putB (Gather.mk i sq l) inc (Piece.mk ps pa po pb))))]]) ∧ ((decide (inc < i) || inc == i && decide (ps < sq)) = false → ((!(i == inc && (sq == ps && (0 : Int) == po))) = true → (po = po ∧ (0 : Int) ≤ po ∧ po ≤ (1000000 : Int)) ∧ (Value.int IntKind.i64 inc = Value.int IntKind.i64 inc ∧ Value.int IntKind.i64 ps = Value.int IntKind.i64 ps) ∧ ((0 : Int) ≤ pa ∧ pa < (↑(List.length (List.replicate (Int.toNat po) (ByteArray.mk (Array.mk [])))) : Int)) ∧ ((List.getD (List.replicate (Int.toNat po) (ByteArray.mk (Array.mk []))) (Int.toNat pa) (d_str) == ByteArray.mk (Array.mk [])) = true → ((0 : Int) ≤ pa ∧ pa < (↑(List.length (List.replicate (Int.toNat po) (ByteArray.mk (Array.mk [])))) : Int)) ∧ Out.tup (U := U) [D.mk true [CV.v (Value.int IntKind.i64 inc), CV.v (Value.int IntKind.i64 ps), CV.sl Kind.str (List.set (List.replicate (Int.toNat po) (ByteArray.mk (Array.mk []))) (Int.toNat pa) pb)], D.mk false [CV.v (Value.int IntKind.i64 (0 : Int))]] = Out.tup (U := U) [D.mk true [CV.v (Value.int IntKind.i64 (Gather.inc (putG (Gather.mk i sq l) inc (Piece.mk ps pa po pb)))), CV.v (Value.int IntKind.i64 (Gather.seq (putG (Gather.mk i sq l) inc (Piece.mk ps pa po pb)))), CV.sl Kind.str (Gather.parts (putG (Gather.mk i sq l) inc (Piece.mk ps pa po pb)))], D.mk false [CV.v (Value.int IntKind.i64 (er1 (putB (Gather.mk i sq l) inc (Piece.mk ps pa po pb))))]]) ∧ ((List.getD (List.replicate (Int.toNat po) (ByteArray.mk (Array.mk []))) (Int.toNat pa) (d_str) == ByteArray.mk (Array.mk [])) = false → Out.tup (U := U) [D.mk true [CV.v (Value.int IntKind.i64 inc), CV.v (Value.int IntKind.i64 ps), CV.sl Kind.str (List.replicate (Int.toNat po) (ByteArray.mk (Array.mk [])))], D.mk false [CV.v (Value.int IntKind.i64 (0 : Int))]] = Out.tup (U := U) [D.mk true [CV.v (Value.int IntKind.i64 (Gather.inc (putG (Gather.mk i sq l) inc (Piece.mk ps pa po pb)))), CV.v (Value.int IntKind.i64 (Gather.seq (putG (Gather.mk i sq l) inc (Piece.mk ps pa po pb)))), CV.sl Kind.str (Gather.parts (putG (Gather.mk i sq l) inc (Piece.mk ps pa po pb)))], D.mk false [CV.v (Value.int IntKind.i64 (er1 (putB (Gather.mk i sq l) inc (Piece.mk ps pa po pb))))]])) ∧ ((!(i == inc && (sq == ps && (0 : Int) == po))) = false → False)))) ∧ (b = false → (0 : Nat) + List.length l ≤ (1000000 : Nat) ∧ ((!(gatherM (Gather.mk i sq l) && pieceR (Piece.mk ps pa po pb) && btw inc (1 : Int) (65535 : Int))) = true → Out.tup (U := U) [D.mk true [CV.v (Value.int IntKind.i64 i), CV.v (Value.int IntKind.i64 sq), CV.sl Kind.str ([] ++ l)], D.mk false [CV.v (Value.int IntKind.i64 (1 : Int))]] = Out.tup (U := U) [D.mk true [CV.v (Value.int IntKind.i64 (Gather.inc (putG (Gather.mk i sq l) inc (Piece.mk ps pa po pb)))), CV.v (Value.int IntKind.i64 (Gather.seq (putG (Gather.mk i sq l) inc (Piece.mk ps pa po pb)))), CV.sl Kind.str (Gather.parts (putG (Gather.mk i sq l) inc (Piece.mk ps pa po pb)))], D.mk false [CV.v (Value.int IntKind.i64 (er1 (putB (Gather.mk i sq l) inc (Piece.mk ps pa po pb))))]]) ∧ ((!(gatherM (Gather.mk i sq l) && pieceR (Piece.mk ps pa po pb) && btw inc (1 : Int) (65535 : Int))) = false → ((decide (inc < i) || inc == i && decide (ps < sq)) = true → Out.tup (U := U) [D.mk true [CV.v (Value.int IntKind.i64 i), CV.v (Value.int IntKind.i64 sq), CV.sl Kind.str ([] ++ l)], D.mk false [CV.v (Value.int IntKind.i64 (0 : Int))]] = Out.tup (U := U) [D.mk true [CV.v (Value.int IntKind.i64 (Gather.inc (putG (Gather.mk i sq l) inc (Piece.mk ps pa po pb)))), CV.v (Value.int IntKind.i64 (Gather.seq (putG (Gather.mk i sq l) inc (Piece.mk ps pa po pb)))), CV.sl Kind.str (Gather.parts (putG (Gather.mk i sq l) inc (Piece.mk ps pa po pb)))], D.mk false [CV.v (Value.int IntKind.i64 (er1 (putB (Gather.mk i sq l) inc (Piece.mk ps pa po pb))))]]) ∧ ((decide (inc < i) || inc == i && decide (ps < sq)) = false → ((!(i == inc && (sq == ps && (↑(List.length ([] ++ l)) : Int) == po))) = true → (po = po ∧ (0 : Int) ≤ po ∧ po ≤ (1000000 : Int)) ∧ (Value.int IntKind.i64 inc = Value.int IntKind.i64 inc ∧ Value.int IntKind.i64 ps = Value.int IntKind.i64 ps) ∧ ((0 : Int) ≤ pa ∧ pa < (↑(List.length (List.replicate (Int.toNat po) (ByteArray.mk (Array.mk [])))) : Int)) ∧ ((List.getD (List.replicate (Int.toNat po) (ByteArray.mk (Array.mk []))) (Int.toNat pa) (d_str) == ByteArray.mk (Array.mk [])) = true → ((0 : Int) ≤ pa ∧ pa < (↑(List.length (List.replicate (Int.toNat po) (ByteArray.mk (Array.mk [])))) : Int)) ∧ Out.tup (U := U) [D.mk true [CV.v (Value.int IntKind.i64 inc), CV.v (Value.int IntKind.i64 ps), CV.sl Kind.str (List.set (List.replicate (Int.toNat po) (ByteArray.mk (Array.mk []))) (Int.toNat pa) pb)], D.mk false [CV.v (Value.int IntKind.i64 (0 : Int))]] = Out.tup (U := U) [D.mk true [CV.v (Value.int IntKind.i64 (Gather.inc (putG (Gather.mk i sq l) inc (Piece.mk ps pa po pb)))), CV.v (Value.int IntKind.i64 (Gather.seq (putG (Gather.mk i sq l) inc (Piece.mk ps pa po pb)))), CV.sl Kind.str (Gather.parts (putG (Gather.mk i sq l) inc (Piece.mk ps pa po pb)))], D.mk false [CV.v (Value.int IntKind.i64 (er1 (putB (Gather.mk i sq l) inc (Piece.mk ps pa po pb))))]]) ∧ ((List.getD (List.replicate (Int.toNat po) (ByteArray.mk (Array.mk []))) (Int.toNat pa) (d_str) == ByteArray.mk (Array.mk [])) = false → Out.tup (U := U) [D.mk true [CV.v (Value.int IntKind.i64 inc), CV.v (Value.int IntKind.i64 ps), CV.sl Kind.str (List.replicate (Int.toNat po) (ByteArray.mk (Array.mk [])))], D.mk false [CV.v (Value.int IntKind.i64 (0 : Int))]] = Out.tup (U := U) [D.mk true [CV.v (Value.int IntKind.i64 (Gather.inc (putG (Gather.mk i sq l) inc (Piece.mk ps pa po pb)))), CV.v (Value.int IntKind.i64 (Gather.seq (putG (Gather.mk i sq l) inc (Piece.mk ps pa po pb)))), CV.sl Kind.str (Gather.parts (putG (Gather.mk i sq l) inc (Piece.mk ps pa po pb)))], D.mk false [CV.v (Value.int IntKind.i64 (er1 (putB (Gather.mk i sq l) inc (Piece.mk ps pa po pb))))]])) ∧ ((!(i == inc && (sq == ps && (↑(List.length ([] ++ l)) : Int) == po))) = false → ((0 : Int) ≤ pa ∧ pa < (↑(List.length ([] ++ l)) : Int)) ∧ ((List.getD ([] ++ l) (Int.toNat pa) (d_str) == ByteArray.mk (Array.mk [])) = true → ((0 : Int) ≤ pa ∧ pa < (↑(List.length ([] ++ l)) : Int)) ∧ Out.tup (U := U) [D.mk true [CV.v (Value.int IntKind.i64 i), CV.v (Value.int IntKind.i64 sq), CV.sl Kind.str (List.set ([] ++ l) (Int.toNat pa) pb)], D.mk false [CV.v (Value.int IntKind.i64 (0 : Int))]] = Out.tup (U := U) [D.mk true [CV.v (Value.int IntKind.i64 (Gather.inc (putG (Gather.mk i sq l) inc (Piece.mk ps pa po pb)))), CV.v (Value.int IntKind.i64 (Gather.seq (putG (Gather.mk i sq l) inc (Piece.mk ps pa po pb)))), CV.sl Kind.str (Gather.parts (putG (Gather.mk i sq l) inc (Piece.mk ps pa po pb)))], D.mk false [CV.v (Value.int IntKind.i64 (er1 (putB (Gather.mk i sq l) inc (Piece.mk ps pa po pb))))]]) ∧ ((List.getD ([] ++ l) (Int.toNat pa) (d_str) == ByteArray.mk (Array.mk [])) = false → Out.tup (U := U) [D.mk true [CV.v (Value.int IntKind.i64 i), CV.v (Value.int IntKind.i64 sq), CV.sl Kind.str ([] ++ l)], D.mk false [CV.v (Value.int IntKind.i64 (0 : Int))]] = Out.tup (U := U) [D.mk true [CV.v (Value.int IntKind.i64 (Gather.inc (putG (Gather.mk i sq l) inc (Piece.mk ps pa po pb)))), CV.v (Value.int IntKind.i64 (Gather.seq (putG (Gather.mk i sq l) inc (Piece.mk ps pa po pb)))), CV.sl Kind.str (Gather.parts (putG (Gather.mk i sq l) inc (Piece.mk ps pa po pb)))], D.mk false [CV.v (Value.int IntKind.i64 (er1 (putB (Gather.mk i sq l) inc (Piece.mk ps pa po pb))))]]))))), by kernel_rfl, ?_⟩
      have e0 : ByteArray.mk (Array.mk []) = ByteArray.empty := rfl
      have e1 : d_str = ByteArray.empty := rfl
      have eo : (inc == i) = (i == inc) := by rw [Bool.eq_iff_iff, beq_iff_eq, beq_iff_eq]; exact eq_comm
      simp only [e0, e1, List.nil_append, List.length_replicate, Nat.zero_add, eo]
      generalize hG : (⟨i, sq, l⟩ : Gather) = G
      generalize hP : (⟨ps, pa, po, pb⟩ : Piece) = p
      have g1 : G.inc = i := by rw [← hG]
      have g2 : G.seq = sq := by rw [← hG]
      have g3 : G.parts = l := by rw [← hG]
      have p1 : p.seq = ps := by rw [← hP]
      have p2 : p.at_ = pa := by rw [← hP]
      have p3 : p.of_ = po := by rw [← hP]
      have p4 : p.bytes = pb := by rw [← hP]
      have fin : ∀ {e : Int} {x : Gather}, putG G inc p = x → er1 (putB G inc p) = e → Out.tup (U := U) [D.mk true [CV.v (Value.int IntKind.i64 x.inc), CV.v (Value.int IntKind.i64 x.seq), CV.sl Kind.str x.parts], D.mk false [CV.v (Value.int IntKind.i64 e)]] = Out.tup (U := U) [D.mk true [CV.v (Value.int IntKind.i64 (putG G inc p).inc), CV.v (Value.int IntKind.i64 (putG G inc p).seq), CV.sl Kind.str (putG G inc p).parts], D.mk false [CV.v (Value.int IntKind.i64 (er1 (putB G inc p)))]] := fun h1 h2 => by rw [h1, h2]
      have no : putB G inc p = false → Out.tup (U := U) [D.mk true [CV.v (Value.int IntKind.i64 i), CV.v (Value.int IntKind.i64 sq), CV.sl Kind.str l], D.mk false [CV.v (Value.int IntKind.i64 1)]] = Out.tup (U := U) [D.mk true [CV.v (Value.int IntKind.i64 (putG G inc p).inc), CV.v (Value.int IntKind.i64 (putG G inc p).seq), CV.sl Kind.str (putG G inc p).parts], D.mk false [CV.v (Value.int IntKind.i64 (er1 (putB G inc p)))]] := fun h => by
        rw [← g1, ← g2, ← g3]; exact fin (put_no h) (by rw [h]; rfl)
      have old : putB G inc p = true → (decide (inc < i) || i == inc && decide (ps < sq)) = true → Out.tup (U := U) [D.mk true [CV.v (Value.int IntKind.i64 i), CV.v (Value.int IntKind.i64 sq), CV.sl Kind.str l], D.mk false [CV.v (Value.int IntKind.i64 0)]] = Out.tup (U := U) [D.mk true [CV.v (Value.int IntKind.i64 (putG G inc p).inc), CV.v (Value.int IntKind.i64 (putG G inc p).seq), CV.sl Kind.str (putG G inc p).parts], D.mk false [CV.v (Value.int IntKind.i64 (er1 (putB G inc p)))]] := fun h ho => by
        have ho : putOld G inc p = true := by unfold putOld; rw [g1, g2, p1]; exact ho
        rw [← g1, ← g2, ← g3]; exact fin (put_old ho) (by rw [h]; rfl)
      have bnd : putB G inc p = true → 1 ≤ po ∧ po ≤ 20 ∧ 0 ≤ pa ∧ pa ≤ po - 1 := fun h => by
        unfold putB at h
        simp only [Bool.and_eq_true] at h
        obtain ⟨_, h1, h2, _⟩ := pieceR_is h.1.2
        rw [p3] at h1 h2; rw [p2] at h2
        omega
      have fresh : putB G inc p = true → (decide (inc < i) || i == inc && decide (ps < sq)) = false → ¬ (i = inc ∧ sq = ps ∧ (l.length : Int) = po) → ((List.getD (List.replicate po.toNat ByteArray.empty) pa.toNat ByteArray.empty == ByteArray.empty) = true → Out.tup (U := U) [D.mk true [CV.v (Value.int IntKind.i64 inc), CV.v (Value.int IntKind.i64 ps), CV.sl Kind.str (List.set (List.replicate po.toNat ByteArray.empty) pa.toNat pb)], D.mk false [CV.v (Value.int IntKind.i64 0)]] = Out.tup (U := U) [D.mk true [CV.v (Value.int IntKind.i64 (putG G inc p).inc), CV.v (Value.int IntKind.i64 (putG G inc p).seq), CV.sl Kind.str (putG G inc p).parts], D.mk false [CV.v (Value.int IntKind.i64 (er1 (putB G inc p)))]]) ∧ ((List.getD (List.replicate po.toNat ByteArray.empty) pa.toNat ByteArray.empty == ByteArray.empty) = false → Out.tup (U := U) [D.mk true [CV.v (Value.int IntKind.i64 inc), CV.v (Value.int IntKind.i64 ps), CV.sl Kind.str (List.replicate po.toNat ByteArray.empty)], D.mk false [CV.v (Value.int IntKind.i64 0)]] = Out.tup (U := U) [D.mk true [CV.v (Value.int IntKind.i64 (putG G inc p).inc), CV.v (Value.int IntKind.i64 (putG G inc p).seq), CV.sl Kind.str (putG G inc p).parts], D.mk false [CV.v (Value.int IntKind.i64 (er1 (putB G inc p)))]]) := fun h ho hn => by
        have ho : putOld G inc p = false := by unfold putOld; rw [g1, g2, p1]; exact ho
        have h1 := put_new h ho
        rw [putO_new (by rw [g1, g2, g3, p1, p3]; exact hn), p1, p3] at h1
        refine ⟨fun hg => ?_, fun hg => ?_⟩
        · have h2 : putL (List.replicate po.toNat ByteArray.empty) p = _ := putL_set (by rw [p2]; exact hg)
          rw [p2, p4] at h2
          simp only [h2] at h1
          exact fin h1 (by rw [h]; rfl)
        · have h2 : putL (List.replicate po.toNat ByteArray.empty) p = _ := putL_not (by rw [p2]; exact hg)
          simp only [h2] at h1
          exact fin h1 (by rw [h]; rfl)
      have here : putB G inc p = true → (decide (inc < i) || i == inc && decide (ps < sq)) = false → (i = inc ∧ sq = ps ∧ (l.length : Int) = po) → ((List.getD l pa.toNat ByteArray.empty == ByteArray.empty) = true → Out.tup (U := U) [D.mk true [CV.v (Value.int IntKind.i64 i), CV.v (Value.int IntKind.i64 sq), CV.sl Kind.str (List.set l pa.toNat pb)], D.mk false [CV.v (Value.int IntKind.i64 0)]] = Out.tup (U := U) [D.mk true [CV.v (Value.int IntKind.i64 (putG G inc p).inc), CV.v (Value.int IntKind.i64 (putG G inc p).seq), CV.sl Kind.str (putG G inc p).parts], D.mk false [CV.v (Value.int IntKind.i64 (er1 (putB G inc p)))]]) ∧ ((List.getD l pa.toNat ByteArray.empty == ByteArray.empty) = false → Out.tup (U := U) [D.mk true [CV.v (Value.int IntKind.i64 i), CV.v (Value.int IntKind.i64 sq), CV.sl Kind.str l], D.mk false [CV.v (Value.int IntKind.i64 0)]] = Out.tup (U := U) [D.mk true [CV.v (Value.int IntKind.i64 (putG G inc p).inc), CV.v (Value.int IntKind.i64 (putG G inc p).seq), CV.sl Kind.str (putG G inc p).parts], D.mk false [CV.v (Value.int IntKind.i64 (er1 (putB G inc p)))]]) := fun h ho hn => by
        have ho : putOld G inc p = false := by unfold putOld; rw [g1, g2, p1]; exact ho
        have h1 := put_new h ho
        rw [putO_same (by rw [g1, g2, g3, p1, p3]; exact hn), g1, g2, g3] at h1
        refine ⟨fun hg => ?_, fun hg => ?_⟩
        · have h2 : putL l p = _ := putL_set (by rw [p2]; exact hg)
          rw [p2, p4] at h2
          simp only [h2] at h1
          exact fin h1 (by rw [h]; rfl)
        · have h2 : putL l p = _ := putL_not (by rw [p2]; exact hg)
          simp only [h2] at h1
          exact fin h1 (by rw [h]; rfl)
      have tru : (!(gatherM G && pieceR p && btw inc 1 65535)) = false → putB G inc p = true := fun h => by unfold putB; simpa using h
      have fls : (!(gatherM G && pieceR p && btw inc 1 65535)) = true → putB G inc p = false := fun h => by unfold putB; rw [Bool.not_eq_true'] at h; exact h
      refine ⟨hp, fun b hb => ⟨fun hbt => ?_, fun _ => ?_⟩⟩
      · have hl := hb hbt
        subst hl
        refine ⟨fun h => no (fls h), fun h => ⟨fun ho => old (tru h) ho, fun ho => ⟨fun hn => ?_, fun hn => ?_⟩⟩⟩
        · have hb := bnd (tru h)
          have hf := fresh (tru h) ho (by
            rintro ⟨c1, c2, c3⟩
            have c3 : (0 : Int) = po := c3
            omega)
          exact ⟨⟨(by trivial), by omega, by omega⟩, ⟨(by trivial), (by trivial)⟩, ⟨by omega, by omega⟩, fun hg => ⟨⟨by omega, by omega⟩, hf.1 hg⟩, hf.2⟩
        · have hb := bnd (tru h)
          obtain ⟨_, _, c3⟩ := same5 hn
          have := eq_of_beq c3
          omega
      · refine ⟨hp, fun h => no (fls h), fun h => ⟨fun ho => old (tru h) ho, fun ho => ⟨fun hn => ?_, fun hn => ?_⟩⟩⟩
        · have hb := bnd (tru h)
          have hf := fresh (tru h) ho (by
            rintro ⟨rfl, rfl, c3⟩
            simp only [c3, beq_self_eq_true, Bool.and_self, Bool.not_true] at hn
            cases hn)
          exact ⟨⟨(by trivial), by omega, by omega⟩, ⟨(by trivial), (by trivial)⟩, ⟨by omega, by omega⟩, fun hg => ⟨⟨by omega, by omega⟩, hf.1 hg⟩, hf.2⟩
        · have hb := bnd (tru h)
          obtain ⟨c1, c2, c3⟩ := same5 hn
          have c3 := eq_of_beq c3
          have hh := here (tru h) ho ⟨eq_of_beq c1, eq_of_beq c2, c3⟩
          exact ⟨⟨by omega, by omega⟩, fun hg => ⟨⟨by omega, by omega⟩, hh.1 hg⟩, hh.2⟩
    · cases hg

def r5Put_S : RX.Spec U := fun
  | [⟨true, [.v (.int .i64 i), .v (.int .i64 sq), .sl .str l]⟩, ⟨false, [.v (.int .i64 inc)]⟩, ⟨true, [.v (.int .i64 ps), .v (.int .i64 pa), .v (.int .i64 po), .v (.string pb)]⟩] => some ⟨some (l.length ≤ 1000000), (.tup [⟨true, [.v (.int .i64 ((putG ⟨i, sq, l⟩ inc ⟨ps, pa, po, pb⟩).inc)), .v (.int .i64 ((putG ⟨i, sq, l⟩ inc ⟨ps, pa, po, pb⟩).seq)), .sl .str ((putG ⟨i, sq, l⟩ inc ⟨ps, pa, po, pb⟩).parts)]⟩, ⟨false, [.v (.int .i64 (er1 (putB ⟨i, sq, l⟩ inc ⟨ps, pa, po, pb⟩)))]⟩])⟩
  | _ => none

theorem r5Put_ok : ConOk Try.prog U GV 29 r5Put_S :=
  fn_go gs ty (RX.glX_ok glok) (conCons r5May_ok (conCons r5Right_ok (conCons r5small_ok conNil))) Try.func29 (by kernel_rfl) fun ds r hg hp => by
    unfold r5Put_S at hg
    split at hg
    · rename_i i sq l inc ps pa po pb
      obtain ⟨l, rfl⟩ : ∃ q_ : List ByteArray, q_ = l := ⟨l, rfl⟩
      cases hg
      replace hp : (l.length ≤ 1000000) := hp
      refine ⟨fun _ _ => none, (0 : Nat) + List.length l ≤ (1000000 : Nat) ∧ (Value.int IntKind.i64 i = Value.int IntKind.i64 i ∧ Value.int IntKind.i64 sq = Value.int IntKind.i64 sq) ∧ List.length l ≤ (1000000 : Nat) ∧ ((!gatherM (Gather.mk i sq l) || !pieceR (Piece.mk ps pa po pb) || !btw inc (1 : Int) (65535 : Int)) = true → Out.tup (U := U) [D.mk true [CV.v (Value.int IntKind.i64 i), CV.v (Value.int IntKind.i64 sq), CV.sl Kind.str ([] ++ l)], D.mk false [CV.v (Value.int IntKind.i64 (1 : Int))]] = Out.tup (U := U) [D.mk true [CV.v (Value.int IntKind.i64 (Gather.inc (putG (Gather.mk i sq l) inc (Piece.mk ps pa po pb)))), CV.v (Value.int IntKind.i64 (Gather.seq (putG (Gather.mk i sq l) inc (Piece.mk ps pa po pb)))), CV.sl Kind.str (Gather.parts (putG (Gather.mk i sq l) inc (Piece.mk ps pa po pb)))], D.mk false [CV.v (Value.int IntKind.i64 (er1 (putB (Gather.mk i sq l) inc (Piece.mk ps pa po pb))))]]) ∧ ((!gatherM (Gather.mk i sq l) || !pieceR (Piece.mk ps pa po pb) || !btw inc (1 : Int) (65535 : Int)) = false → ((decide (inc < i) || i == inc && decide (ps < sq)) = true → Out.tup (U := U) [D.mk true [CV.v (Value.int IntKind.i64 i), CV.v (Value.int IntKind.i64 sq), CV.sl Kind.str ([] ++ l)], D.mk false [CV.v (Value.int IntKind.i64 (0 : Int))]] = Out.tup (U := U) [D.mk true [CV.v (Value.int IntKind.i64 (Gather.inc (putG (Gather.mk i sq l) inc (Piece.mk ps pa po pb)))), CV.v (Value.int IntKind.i64 (Gather.seq (putG (Gather.mk i sq l) inc (Piece.mk ps pa po pb)))), CV.sl Kind.str (Gather.parts (putG (Gather.mk i sq l) inc (Piece.mk ps pa po pb)))], D.mk false [CV.v (Value.int IntKind.i64 (er1 (putB (Gather.mk i sq l) inc (Piece.mk ps pa po pb))))]]) ∧ ((decide (inc < i) || i == inc && decide (ps < sq)) = false → ((i != inc || sq != ps || (↑(List.length l) : Int) != po) = true → (po = po ∧ (0 : Int) ≤ po ∧ po ≤ (1000000 : Int)) ∧ (Value.int IntKind.i64 inc = Value.int IntKind.i64 inc ∧ Value.int IntKind.i64 ps = Value.int IntKind.i64 ps) ∧ ((0 : Int) ≤ pa ∧ pa < (↑(List.length (List.replicate (Int.toNat po) (ByteArray.mk (Array.mk [])))) : Int)) ∧ ((List.getD (List.replicate (Int.toNat po) (ByteArray.mk (Array.mk []))) (Int.toNat pa) (d_str) == ByteArray.mk (Array.mk [])) = true → ((0 : Int) ≤ pa ∧ pa < (↑(List.length (List.replicate (Int.toNat po) (ByteArray.mk (Array.mk [])))) : Int)) ∧ Out.tup (U := U) [D.mk true [CV.v (Value.int IntKind.i64 inc), CV.v (Value.int IntKind.i64 ps), CV.sl Kind.str (List.set (List.replicate (Int.toNat po) (ByteArray.mk (Array.mk []))) (Int.toNat pa) pb)], D.mk false [CV.v (Value.int IntKind.i64 (0 : Int))]] = Out.tup (U := U) [D.mk true [CV.v (Value.int IntKind.i64 (Gather.inc (putG (Gather.mk i sq l) inc (Piece.mk ps pa po pb)))), CV.v (Value.int IntKind.i64 (Gather.seq (putG (Gather.mk i sq l) inc (Piece.mk ps pa po pb)))), CV.sl Kind.str (Gather.parts (putG (Gather.mk i sq l) inc (Piece.mk ps pa po pb)))], D.mk false [CV.v (Value.int IntKind.i64 (er1 (putB (Gather.mk i sq l) inc (Piece.mk ps pa po pb))))]]) ∧ ((List.getD (List.replicate (Int.toNat po) (ByteArray.mk (Array.mk []))) (Int.toNat pa) (d_str) == ByteArray.mk (Array.mk [])) = false → Out.tup (U := U) [D.mk true [CV.v (Value.int IntKind.i64 inc), CV.v (Value.int IntKind.i64 ps), CV.sl Kind.str (List.replicate (Int.toNat po) (ByteArray.mk (Array.mk [])))], D.mk false [CV.v (Value.int IntKind.i64 (0 : Int))]] = Out.tup (U := U) [D.mk true [CV.v (Value.int IntKind.i64 (Gather.inc (putG (Gather.mk i sq l) inc (Piece.mk ps pa po pb)))), CV.v (Value.int IntKind.i64 (Gather.seq (putG (Gather.mk i sq l) inc (Piece.mk ps pa po pb)))), CV.sl Kind.str (Gather.parts (putG (Gather.mk i sq l) inc (Piece.mk ps pa po pb)))], D.mk false [CV.v (Value.int IntKind.i64 (er1 (putB (Gather.mk i sq l) inc (Piece.mk ps pa po pb))))]])) ∧ ((i != inc || sq != ps || (↑(List.length l) : Int) != po) = false → ((0 : Int) ≤ pa ∧ pa < (↑(List.length ([] ++ l)) : Int)) ∧ ((List.getD ([] ++ l) (Int.toNat pa) (d_str) == ByteArray.mk (Array.mk [])) = true → ((0 : Int) ≤ pa ∧ pa < (↑(List.length ([] ++ l)) : Int)) ∧ Out.tup (U := U) [D.mk true [CV.v (Value.int IntKind.i64 i), CV.v (Value.int IntKind.i64 sq), CV.sl Kind.str (List.set ([] ++ l) (Int.toNat pa) pb)], D.mk false [CV.v (Value.int IntKind.i64 (0 : Int))]] = Out.tup (U := U) [D.mk true [CV.v (Value.int IntKind.i64 (Gather.inc (putG (Gather.mk i sq l) inc (Piece.mk ps pa po pb)))), CV.v (Value.int IntKind.i64 (Gather.seq (putG (Gather.mk i sq l) inc (Piece.mk ps pa po pb)))), CV.sl Kind.str (Gather.parts (putG (Gather.mk i sq l) inc (Piece.mk ps pa po pb)))], D.mk false [CV.v (Value.int IntKind.i64 (er1 (putB (Gather.mk i sq l) inc (Piece.mk ps pa po pb))))]]) ∧ ((List.getD ([] ++ l) (Int.toNat pa) (d_str) == ByteArray.mk (Array.mk [])) = false → Out.tup (U := U) [D.mk true [CV.v (Value.int IntKind.i64 i), CV.v (Value.int IntKind.i64 sq), CV.sl Kind.str ([] ++ l)], D.mk false [CV.v (Value.int IntKind.i64 (0 : Int))]] = Out.tup (U := U) [D.mk true [CV.v (Value.int IntKind.i64 (Gather.inc (putG (Gather.mk i sq l) inc (Piece.mk ps pa po pb)))), CV.v (Value.int IntKind.i64 (Gather.seq (putG (Gather.mk i sq l) inc (Piece.mk ps pa po pb)))), CV.sl Kind.str (Gather.parts (putG (Gather.mk i sq l) inc (Piece.mk ps pa po pb)))], D.mk false [CV.v (Value.int IntKind.i64 (er1 (putB (Gather.mk i sq l) inc (Piece.mk ps pa po pb))))]])))), by kernel_rfl, ?_⟩
      have e0 : ByteArray.mk (Array.mk []) = ByteArray.empty := rfl
      have e1 : d_str = ByteArray.empty := rfl
      have eo : (inc == i) = (i == inc) := by rw [Bool.eq_iff_iff, beq_iff_eq, beq_iff_eq]; exact eq_comm
      simp only [e0, e1, List.nil_append, List.length_replicate, Nat.zero_add, eo]
      generalize hG : (⟨i, sq, l⟩ : Gather) = G
      generalize hP : (⟨ps, pa, po, pb⟩ : Piece) = p
      have g1 : G.inc = i := by rw [← hG]
      have g2 : G.seq = sq := by rw [← hG]
      have g3 : G.parts = l := by rw [← hG]
      have p1 : p.seq = ps := by rw [← hP]
      have p2 : p.at_ = pa := by rw [← hP]
      have p3 : p.of_ = po := by rw [← hP]
      have p4 : p.bytes = pb := by rw [← hP]
      have fin : ∀ {e : Int} {x : Gather}, putG G inc p = x → er1 (putB G inc p) = e → Out.tup (U := U) [D.mk true [CV.v (Value.int IntKind.i64 x.inc), CV.v (Value.int IntKind.i64 x.seq), CV.sl Kind.str x.parts], D.mk false [CV.v (Value.int IntKind.i64 e)]] = Out.tup (U := U) [D.mk true [CV.v (Value.int IntKind.i64 (putG G inc p).inc), CV.v (Value.int IntKind.i64 (putG G inc p).seq), CV.sl Kind.str (putG G inc p).parts], D.mk false [CV.v (Value.int IntKind.i64 (er1 (putB G inc p)))]] := fun h1 h2 => by rw [h1, h2]
      have no : putB G inc p = false → Out.tup (U := U) [D.mk true [CV.v (Value.int IntKind.i64 i), CV.v (Value.int IntKind.i64 sq), CV.sl Kind.str l], D.mk false [CV.v (Value.int IntKind.i64 1)]] = Out.tup (U := U) [D.mk true [CV.v (Value.int IntKind.i64 (putG G inc p).inc), CV.v (Value.int IntKind.i64 (putG G inc p).seq), CV.sl Kind.str (putG G inc p).parts], D.mk false [CV.v (Value.int IntKind.i64 (er1 (putB G inc p)))]] := fun h => by
        rw [← g1, ← g2, ← g3]; exact fin (put_no h) (by rw [h]; rfl)
      have old : putB G inc p = true → (decide (inc < i) || i == inc && decide (ps < sq)) = true → Out.tup (U := U) [D.mk true [CV.v (Value.int IntKind.i64 i), CV.v (Value.int IntKind.i64 sq), CV.sl Kind.str l], D.mk false [CV.v (Value.int IntKind.i64 0)]] = Out.tup (U := U) [D.mk true [CV.v (Value.int IntKind.i64 (putG G inc p).inc), CV.v (Value.int IntKind.i64 (putG G inc p).seq), CV.sl Kind.str (putG G inc p).parts], D.mk false [CV.v (Value.int IntKind.i64 (er1 (putB G inc p)))]] := fun h ho => by
        have ho : putOld G inc p = true := by unfold putOld; rw [g1, g2, p1]; exact ho
        rw [← g1, ← g2, ← g3]; exact fin (put_old ho) (by rw [h]; rfl)
      have bnd : putB G inc p = true → 1 ≤ po ∧ po ≤ 20 ∧ 0 ≤ pa ∧ pa ≤ po - 1 := fun h => by
        unfold putB at h
        simp only [Bool.and_eq_true] at h
        obtain ⟨_, h1, h2, _⟩ := pieceR_is h.1.2
        rw [p3] at h1 h2; rw [p2] at h2
        omega
      have fresh : putB G inc p = true → (decide (inc < i) || i == inc && decide (ps < sq)) = false → ¬ (i = inc ∧ sq = ps ∧ (l.length : Int) = po) → ((List.getD (List.replicate po.toNat ByteArray.empty) pa.toNat ByteArray.empty == ByteArray.empty) = true → Out.tup (U := U) [D.mk true [CV.v (Value.int IntKind.i64 inc), CV.v (Value.int IntKind.i64 ps), CV.sl Kind.str (List.set (List.replicate po.toNat ByteArray.empty) pa.toNat pb)], D.mk false [CV.v (Value.int IntKind.i64 0)]] = Out.tup (U := U) [D.mk true [CV.v (Value.int IntKind.i64 (putG G inc p).inc), CV.v (Value.int IntKind.i64 (putG G inc p).seq), CV.sl Kind.str (putG G inc p).parts], D.mk false [CV.v (Value.int IntKind.i64 (er1 (putB G inc p)))]]) ∧ ((List.getD (List.replicate po.toNat ByteArray.empty) pa.toNat ByteArray.empty == ByteArray.empty) = false → Out.tup (U := U) [D.mk true [CV.v (Value.int IntKind.i64 inc), CV.v (Value.int IntKind.i64 ps), CV.sl Kind.str (List.replicate po.toNat ByteArray.empty)], D.mk false [CV.v (Value.int IntKind.i64 0)]] = Out.tup (U := U) [D.mk true [CV.v (Value.int IntKind.i64 (putG G inc p).inc), CV.v (Value.int IntKind.i64 (putG G inc p).seq), CV.sl Kind.str (putG G inc p).parts], D.mk false [CV.v (Value.int IntKind.i64 (er1 (putB G inc p)))]]) := fun h ho hn => by
        have ho : putOld G inc p = false := by unfold putOld; rw [g1, g2, p1]; exact ho
        have h1 := put_new h ho
        rw [putO_new (by rw [g1, g2, g3, p1, p3]; exact hn), p1, p3] at h1
        refine ⟨fun hg => ?_, fun hg => ?_⟩
        · have h2 : putL (List.replicate po.toNat ByteArray.empty) p = _ := putL_set (by rw [p2]; exact hg)
          rw [p2, p4] at h2
          simp only [h2] at h1
          exact fin h1 (by rw [h]; rfl)
        · have h2 : putL (List.replicate po.toNat ByteArray.empty) p = _ := putL_not (by rw [p2]; exact hg)
          simp only [h2] at h1
          exact fin h1 (by rw [h]; rfl)
      have here : putB G inc p = true → (decide (inc < i) || i == inc && decide (ps < sq)) = false → (i = inc ∧ sq = ps ∧ (l.length : Int) = po) → ((List.getD l pa.toNat ByteArray.empty == ByteArray.empty) = true → Out.tup (U := U) [D.mk true [CV.v (Value.int IntKind.i64 i), CV.v (Value.int IntKind.i64 sq), CV.sl Kind.str (List.set l pa.toNat pb)], D.mk false [CV.v (Value.int IntKind.i64 0)]] = Out.tup (U := U) [D.mk true [CV.v (Value.int IntKind.i64 (putG G inc p).inc), CV.v (Value.int IntKind.i64 (putG G inc p).seq), CV.sl Kind.str (putG G inc p).parts], D.mk false [CV.v (Value.int IntKind.i64 (er1 (putB G inc p)))]]) ∧ ((List.getD l pa.toNat ByteArray.empty == ByteArray.empty) = false → Out.tup (U := U) [D.mk true [CV.v (Value.int IntKind.i64 i), CV.v (Value.int IntKind.i64 sq), CV.sl Kind.str l], D.mk false [CV.v (Value.int IntKind.i64 0)]] = Out.tup (U := U) [D.mk true [CV.v (Value.int IntKind.i64 (putG G inc p).inc), CV.v (Value.int IntKind.i64 (putG G inc p).seq), CV.sl Kind.str (putG G inc p).parts], D.mk false [CV.v (Value.int IntKind.i64 (er1 (putB G inc p)))]]) := fun h ho hn => by
        have ho : putOld G inc p = false := by unfold putOld; rw [g1, g2, p1]; exact ho
        have h1 := put_new h ho
        rw [putO_same (by rw [g1, g2, g3, p1, p3]; exact hn), g1, g2, g3] at h1
        refine ⟨fun hg => ?_, fun hg => ?_⟩
        · have h2 : putL l p = _ := putL_set (by rw [p2]; exact hg)
          rw [p2, p4] at h2
          simp only [h2] at h1
          exact fin h1 (by rw [h]; rfl)
        · have h2 : putL l p = _ := putL_not (by rw [p2]; exact hg)
          simp only [h2] at h1
          exact fin h1 (by rw [h]; rfl)
      have e3 : (!gatherM G || !pieceR p || !btw inc 1 65535) = !putB G inc p := by unfold putB; simp only [Bool.not_and]
      rw [e3]
      have tru : (!putB G inc p) = false → putB G inc p = true := fun h => by simpa using h
      have fls : (!putB G inc p) = true → putB G inc p = false := fun h => by simpa using h
      refine ⟨hp, ⟨(by trivial), (by trivial)⟩, hp, fun h => no (fls h), fun h => ⟨fun ho => old (tru h) ho, fun ho => ⟨fun hn => ?_, fun hn => ?_⟩⟩⟩
      · have hb := bnd (tru h)
        have hf := fresh (tru h) ho (by
          rintro ⟨rfl, rfl, c3⟩
          simp [c3] at hn)
        exact ⟨⟨(by trivial), by omega, by omega⟩, ⟨(by trivial), (by trivial)⟩, ⟨by omega, by omega⟩, fun hg => ⟨⟨by omega, by omega⟩, hf.1 hg⟩, hf.2⟩
      · have hb := bnd (tru h)
        simp only [Bool.or_eq_false_iff, bne_eq_false_iff_eq] at hn
        obtain ⟨⟨c1, c2⟩, c3⟩ := hn
        have hh := here (tru h) ho ⟨c1, c2, c3⟩
        exact ⟨⟨by omega, by omega⟩, fun hg => ⟨⟨by omega, by omega⟩, hh.1 hg⟩, hh.2⟩
    · cases hg

def r5Whole_S : RX.Spec U := fun
  | [⟨true, [.v (.int .i64 i), .v (.int .i64 sq), .sl .str l]⟩] => some ⟨some (l.length ≤ 1000000), (.tup [⟨false, [.v (.string (wholeS ⟨i, sq, l⟩))]⟩, ⟨false, [.v (.bool (wholeB ⟨i, sq, l⟩))]⟩])⟩
  | _ => none

theorem r5Whole_ok : ConOk Try.prog U GV 25 r5Whole_S :=
  fn_go gs ty glok (conCons r5May_ok conNil) Try.func25 (by kernel_rfl) fun ds r hg hp => by
    unfold r5Whole_S at hg
    split at hg
    · rename_i i sq l
      obtain ⟨l, rfl⟩ : ∃ q_ : List ByteArray, q_ = l := ⟨l, rfl⟩
      cases hg
      replace hp : (l.length ≤ 1000000) := hp
      refine ⟨fun st key => if key = 5 then some { N := l.length, mods := fun k => [.tv 5 (.int .i64 (k : Int)), .tv 4 (.string (catS (l.take k)))], inv := fun k => hasS (l.take k) .empty = false } else none, List.length l ≤ (1000000 : Nat) ∧ ((!gatherM (Gather.mk i sq l) || (↑(List.length l) : Int) == (0 : Int)) = true → Out.tup (U := U) [D.mk false [CV.v (Value.string (ByteArray.mk (Array.mk [])))], D.mk false [CV.v (Value.bool false)]] = Out.tup (U := U) [D.mk false [CV.v (Value.string (wholeS (Gather.mk i sq l)))], D.mk false [CV.v (Value.bool (wholeB (Gather.mk i sq l)))]]) ∧ ((!gatherM (Gather.mk i sq l) || (↑(List.length l) : Int) == (0 : Int)) = false → hasS (List.take (0 : Nat) l) ByteArray.empty = false ∧ (Value.int IntKind.i64 (0 : Int) = Value.int IntKind.i64 (0 : Int) ∧ Value.string (ByteArray.mk (Array.mk [])) = Value.string (catS (List.take (0 : Nat) l))) ∧ ∀ (k : Nat), k ≤ List.length l → hasS (List.take k l) ByteArray.empty = false → (decide ((↑k : Int) < (↑(List.length l) : Int)) = true → ((0 : Int) ≤ (↑k : Int) ∧ (↑k : Int) < (↑(List.length l) : Int)) ∧ ((List.getD l (Int.toNat (↑k : Int)) (d_str) == ByteArray.mk (Array.mk [])) = true → Out.tup (U := U) [D.mk false [CV.v (Value.string (ByteArray.mk (Array.mk [])))], D.mk false [CV.v (Value.bool false)]] = Out.tup (U := U) [D.mk false [CV.v (Value.string (wholeS (Gather.mk i sq l)))], D.mk false [CV.v (Value.bool (wholeB (Gather.mk i sq l)))]]) ∧ ((List.getD l (Int.toNat (↑k : Int)) (d_str) == ByteArray.mk (Array.mk [])) = false → ((0 : Int) ≤ (↑k : Int) ∧ (↑k : Int) < (↑(List.length l) : Int)) ∧ ByteArray.size (catS (List.take k l)) + ByteArray.size (List.getD l (Int.toNat (↑k : Int)) (d_str)) ≤ (9223372036854775807 : Nat) ∧ k < List.length l ∧ hasS (List.take (k + (1 : Nat)) l) ByteArray.empty = false ∧ Value.int IntKind.i64 (wrap64 ((↑k : Int) + (1 : Int))) = Value.int IntKind.i64 (↑(k + (1 : Nat)) : Int) ∧ Value.string (catS (List.take k l) ++ List.getD l (Int.toNat (↑k : Int)) (d_str)) = Value.string (catS (List.take (k + (1 : Nat)) l)))) ∧ (decide ((↑k : Int) < (↑(List.length l) : Int)) = false → Out.tup (U := U) [D.mk false [CV.v (Value.string (catS (List.take k l)))], D.mk false [CV.v (Value.bool true)]] = Out.tup (U := U) [D.mk false [CV.v (Value.string (wholeS (Gather.mk i sq l)))], D.mk false [CV.v (Value.bool (wholeB (Gather.mk i sq l)))]])), by kernel_rfl, ?_⟩
      have e0 : ByteArray.mk (Array.mk []) = ByteArray.empty := rfl
      have e1 : d_str = ByteArray.empty := rfl
      simp only [e0, e1]
      have bad : wholeB ⟨i, sq, l⟩ = false → Out.tup (U := U) [D.mk false [CV.v (Value.string ByteArray.empty)], D.mk false [CV.v (Value.bool false)]] = Out.tup (U := U) [D.mk false [CV.v (Value.string (wholeS ⟨i, sq, l⟩))], D.mk false [CV.v (Value.bool (wholeB ⟨i, sq, l⟩))]] := fun h => by
        unfold wholeS; rw [h]; rfl
      refine ⟨hp, fun h => bad ?_, fun h => ?_⟩
      · unfold wholeB
        simp only [Bool.or_eq_true, Bool.not_eq_true', beq_iff_eq] at h
        rcases h with h | h
        · rw [h]; rfl
        · have : decide (l.length = 0) = true := decide_eq_true (by omega)
          show (_ && !decide (l.length = 0) && _) = false
          rw [this]; simp
      · simp only [Bool.or_eq_false_iff, Bool.not_eq_false', beq_eq_false_iff_ne, ne_eq] at h
        obtain ⟨hM, hn⟩ := h
        obtain ⟨h20, hall⟩ := gatherM_parts hM
        have h20 : l.length ≤ 20 := h20
        have hall : l.all okPart = true := hall
        refine ⟨rfl, ⟨(by trivial), rfl⟩, fun k hk hik => ⟨fun hlt => ?_, fun hge => ?_⟩⟩
        · have hlt : k < l.length := by have := of_decide_eq_true hlt; omega
          rw [getD_at l k _ hlt]
          refine ⟨⟨by omega, by omega⟩, fun hx => bad ?_, fun hx => ⟨⟨by omega, by omega⟩, ?_, hlt, ?_, ?_, ?_⟩⟩
          · have : hasS l .empty = true := List.any_eq_true.mpr ⟨l[k], List.getElem_mem hlt, hx⟩
            unfold wholeB
            show (_ && !hasS l .empty) = false
            rw [this]; simp
          · have h1 : (l.take k).all okPart = true := by
              refine List.all_eq_true.mpr fun x hx => List.all_eq_true.mp hall x (List.mem_of_mem_take hx)
            have h2 := catS_size h1
            have h3 : okPart l[k] = true := List.all_eq_true.mp hall _ (List.getElem_mem hlt)
            have h3 : (l[k]).size ≤ 16 := of_decide_eq_true h3
            rw [List.length_take] at h2
            omega
          · unfold hasS at hik ⊢
            rw [take_any5 _ l k hlt, hik]; exact hx
          · rw [w64 (by omega)]; rfl
          · rw [List.take_succ_eq_append_getElem hlt, catS_app, catS_one]
        · have hge := of_decide_eq_false hge
          have hl : l.take k = l := List.take_of_length_le (by omega)
          rw [hl] at hik ⊢
          have hB : wholeB ⟨i, sq, l⟩ = true := by
            unfold wholeB
            show (gatherM ⟨i, sq, l⟩ && !decide (l.length = 0) && !hasS l .empty) = true
            rw [hM, hik, decide_eq_false (by omega)]; rfl
          unfold wholeS
          rw [hB]; rfl
    · cases hg

end Go.Proofs.Ytelpblhhpdonkaa.X
