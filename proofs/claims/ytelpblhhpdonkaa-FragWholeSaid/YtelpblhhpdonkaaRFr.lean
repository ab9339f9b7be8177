/- Pieces of texts, and what was gathered: which may be, as the document and the program have it. -/
import Derived.Test.YtelpblhhpdonkaaRPrint
namespace Go.Proofs.Ytelpblhhpdonkaa.X
open Go Go.RX Go.RowKit Go.Proofs
set_option linter.unusedVariables false
set_option linter.unusedSimpArgs false
/-- Is a number within bounds. -/
def btw (n l m : Int) : Bool := decide (l ≤ n) && decide (n ≤ m)
theorem btw_iff {n l m : Int} : btw n l m = true ↔ l ≤ n ∧ n ≤ m := by simp [btw]
theorem btw_not {n l m : Int} : btw n l m = false ↔ ¬ (l ≤ n ∧ n ≤ m) := by rw [← btw_iff]; simp
def pieceR (p : Piece) : Bool := btw p.seq 1 65535 && btw p.of_ 1 20 && btw p.at_ 0 (p.of_ - 1) && btw (p.bytes.size : Int) 1 16
def okPart (s : ByteArray) : Bool := decide (s.size ≤ 16)
def anyS (l : List ByteArray) : Bool := l.any fun s => s != .empty
def gatherM (g : Gather) : Bool := if g.inc = 0 ∧ g.seq = 0 then decide (g.parts.length = 0) else btw g.inc 1 65535 && btw g.seq 1 65535 && decide (g.parts.length ≤ 20) && g.parts.all okPart && anyS g.parts
def hasS (l : List ByteArray) (s : ByteArray) : Bool := l.any fun x => x == s
def strsEq (l m : List ByteArray) : Bool := decide (l = m)
def piecesEq (l m : List Piece) : Bool := decide (l = m)
def er1 (b : Bool) : Int := if b = true then 0 else 1
theorem pieceR_is {p : Piece} (h : pieceR p = true) : (1 ≤ p.seq ∧ p.seq ≤ 65535) ∧ (1 ≤ p.of_ ∧ p.of_ ≤ 20) ∧ (0 ≤ p.at_ ∧ p.at_ ≤ p.of_ - 1) ∧ (1 ≤ (p.bytes.size : Int) ∧ (p.bytes.size : Int) ≤ 16) := by
  simp only [pieceR, Bool.and_eq_true, btw_iff] at h
  obtain ⟨⟨⟨a, b⟩, c⟩, d⟩ := h
  exact ⟨a, b, c, d⟩
def fbtw_S : RX.Spec U := fun
  | [⟨false, [.v (.int .i64 n)]⟩, ⟨false, [.v (.int .i64 l)]⟩, ⟨false, [.v (.int .i64 m)]⟩] => some ⟨none, (.one ⟨false, [.v (.bool (btw n l m))]⟩)⟩
  | _ => none

theorem fbtw_ok : ConOk Try.prog U GV 32 fbtw_S :=
  fn_go gs ty glok conNil Try.func32 (by kernel_rfl) fun ds r hg hp => by
    unfold fbtw_S at hg
    split at hg
    · rename_i n l m
      cases hg
      refine ⟨fun _ _ => none, Out.one (U := U) (D.mk false [CV.v (Value.bool (decide (l ≤ n) && decide (n ≤ m)))]) = Out.one (U := U) (D.mk false [CV.v (Value.bool (btw n l m))]), by kernel_rfl, ?_⟩
      simp only [Out.one.injEq, Out.tup.injEq, D.mk.injEq, List.cons.injEq, CV.v.injEq, CV.sl.injEq, Value.bool.injEq, Value.int.injEq, Value.string.injEq, and_true, true_and, heq_eq_eq]
      rfl
    · cases hg

def fsmall_S : RX.Spec U := fun
  | [⟨false, [.v (.int .i64 n)]⟩] => some ⟨none, (.one ⟨false, [.v (.bool (btw n 1 65535))]⟩)⟩
  | _ => none

theorem fsmall_ok : ConOk Try.prog U GV 31 fsmall_S :=
  fn_go gs ty glok (conCons fbtw_ok conNil) Try.func31 (by kernel_rfl) fun ds r hg hp => by
    unfold fsmall_S at hg
    split at hg
    · rename_i n
      cases hg
      refine ⟨fun _ _ => none, Out.one (U := U) (D.mk false [CV.v (Value.bool (btw n (1 : Int) (65535 : Int)))]) = Out.one (U := U) (D.mk false [CV.v (Value.bool (btw n (1 : Int) (65535 : Int)))]), by kernel_rfl, ?_⟩
      simp only [Out.one.injEq, Out.tup.injEq, D.mk.injEq, List.cons.injEq, CV.v.injEq, CV.sl.injEq, Value.bool.injEq, Value.int.injEq, Value.string.injEq, and_true, true_and, heq_eq_eq]
    · cases hg

def r5small_S : RX.Spec U := fun
  | [⟨false, [.v (.int .i64 n)]⟩] => some ⟨none, (.one ⟨false, [.v (.bool (btw n 1 65535))]⟩)⟩
  | _ => none

theorem r5small_ok : ConOk Try.prog U GV 34 r5small_S :=
  fn_go gs ty glok conNil Try.func34 (by kernel_rfl) fun ds r hg hp => by
    unfold r5small_S at hg
    split at hg
    · rename_i n
      cases hg
      refine ⟨fun _ _ => none, Out.one (U := U) (D.mk false [CV.v (Value.bool (decide ((1 : Int) ≤ n) && decide (n ≤ (65535 : Int))))]) = Out.one (U := U) (D.mk false [CV.v (Value.bool (btw n (1 : Int) (65535 : Int)))]), by kernel_rfl, ?_⟩
      simp only [Out.one.injEq, Out.tup.injEq, D.mk.injEq, List.cons.injEq, CV.v.injEq, CV.sl.injEq, Value.bool.injEq, Value.int.injEq, Value.string.injEq, and_true, true_and, heq_eq_eq]
      rfl
    · cases hg

def fRight_S : RX.Spec U := fun
  | [⟨true, [.v (.int .i64 sq), .v (.int .i64 a), .v (.int .i64 o), .v (.string s)]⟩] => some ⟨none, (.one ⟨false, [.v (.bool (pieceR ⟨sq, a, o, s⟩))]⟩)⟩
  | _ => none

theorem fRight_ok : ConOk Try.prog U GV 18 fRight_S :=
  fn_go gs ty glok (conCons fbtw_ok (conCons fsmall_ok conNil)) Try.func18 (by kernel_rfl) fun ds r hg hp => by
    unfold fRight_S at hg
    split at hg
    · rename_i sq a o s
      cases hg
      refine ⟨fun _ _ => none, Out.one (U := U) (D.mk false [CV.v (Value.bool (btw sq (1 : Int) (65535 : Int) && btw o (1 : Int) (20 : Int) && btw a (0 : Int) (wrap64 (o - (1 : Int))) && btw (↑(ByteArray.size s) : Int) (1 : Int) (16 : Int)))]) = Out.one (U := U) (D.mk false [CV.v (Value.bool (pieceR (Piece.mk sq a o s)))]), by kernel_rfl, ?_⟩
      simp only [Out.one.injEq, Out.tup.injEq, D.mk.injEq, List.cons.injEq, CV.v.injEq, CV.sl.injEq, Value.bool.injEq, Value.int.injEq, Value.string.injEq, and_true, true_and, heq_eq_eq]
      unfold pieceR
      cases h : btw o 1 20 with
      | false => simp
      | true =>
        have h := btw_iff.mp h
        rw [w64 (by omega)]
    · cases hg

def r5Right_S : RX.Spec U := fun
  | [⟨true, [.v (.int .i64 sq), .v (.int .i64 a), .v (.int .i64 o), .v (.string s)]⟩] => some ⟨none, (.one ⟨false, [.v (.bool (pieceR ⟨sq, a, o, s⟩))]⟩)⟩
  | _ => none

theorem r5Right_ok : ConOk Try.prog U GV 19 r5Right_S :=
  fn_go gs ty glok (conCons r5small_ok conNil) Try.func19 (by kernel_rfl) fun ds r hg hp => by
    unfold r5Right_S at hg
    split at hg
    · rename_i sq a o s
      cases hg
      refine ⟨fun _ _ => none, Out.one (U := U) (D.mk false [CV.v (Value.bool (btw sq (1 : Int) (65535 : Int) && decide ((1 : Int) ≤ o) && decide (o ≤ (20 : Int)) && decide ((0 : Int) ≤ a) && decide (a < o) && decide ((1 : Int) ≤ (↑(ByteArray.size s) : Int)) && decide ((↑(ByteArray.size s) : Int) ≤ (16 : Int))))]) = Out.one (U := U) (D.mk false [CV.v (Value.bool (pieceR (Piece.mk sq a o s)))]), by kernel_rfl, ?_⟩
      simp only [Out.one.injEq, Out.tup.injEq, D.mk.injEq, List.cons.injEq, CV.v.injEq, CV.sl.injEq, Value.bool.injEq, Value.int.injEq, Value.string.injEq, and_true, true_and, heq_eq_eq]
      have e : decide (a < o) = decide (a ≤ o - 1) := decide_eq_decide.mpr (by omega)
      simp only [pieceR, btw, e, Bool.and_assoc]
    · cases hg

end Go.Proofs.Ytelpblhhpdonkaa.X
