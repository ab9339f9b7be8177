/- A piece of a newer message takes the place of all that there is. -/
import Derived.Test.YtelpblhhpdonkaaRFwh
namespace Go.Proofs.Ytelpblhhpdonkaa.X
open Go Go.RX Go.RowKit Go.Proofs
set_option linter.unusedVariables false
set_option linter.unusedSimpArgs false
set_option maxHeartbeats 4000000
def one5 (p : Piece) (k : Nat) : Int := if p.at_ < (k : Int) then 1 else 0
theorem new_get (p : Piece) (k : Nat) (hk : k < p.of_.toNat) : ((List.replicate p.of_.toNat ByteArray.empty).set p.at_.toNat p.bytes).getD k .empty = if p.at_.toNat = k then p.bytes else .empty := by
  rw [List.getD_eq_getElem?_getD]
  by_cases c : p.at_.toNat = k
  · rw [if_pos c, c, List.getElem?_set_self (by rw [List.length_replicate]; exact hk), Option.getD_some]
  · rw [if_neg c, List.getElem?_set_ne c, ← List.getD_eq_getElem?_getD, rep_get]
def Newer5_S : RX.Spec U := fun
  | [⟨false, [.sl .a4 raw]⟩, ⟨true, [.v (.int .i64 a), .v (.int .i64 b), .v (.int .i64 c), .v (.int .i64 d)]⟩, ⟨true, [.v (.int .i64 a2), .v (.int .i64 b2), .v (.int .i64 c2), .v (.int .i64 d2)]⟩] => some ⟨some (((∀ r ∈ raw, okA4 r) ∧ okA4 ⟨a, b, c, d⟩ ∧ okA4 ⟨a2, b2, c2, d2⟩)), (.one ⟨false, [.v (.bool true)]⟩)⟩
  | _ => none

theorem Newer5_ok : ConOk Try.prog U GV 8 Newer5_S :=
  fn_go gs ty glok (conCons awake05_ok (conCons gather05_ok (conCons piece05_ok (conCons fPut_ok (conCons r5Same_ok conNil))))) Try.func8 (by kernel_rfl) fun ds r hg hp => by
    unfold Newer5_S at hg
    split at hg
    · rename_i raw a b c d a2 b2 c2 d2
      obtain ⟨raw, rfl⟩ : ∃ q_ : List A4, q_ = raw := ⟨raw, rfl⟩
      cases hg
      replace hp : (((∀ r ∈ raw, okA4 r) ∧ okA4 ⟨a, b, c, d⟩ ∧ okA4 ⟨a2, b2, c2, d2⟩)) := hp
      refine ⟨fun st key => if key = 13 then some { N := (pcP ⟨a, b, c, d⟩).of_.toNat, mods := fun k => [.tv 20 (.int .i64 (k : Int)), .tv 19 (.int .i64 (one5 (pcP ⟨a, b, c, d⟩) k))] } else none, (∀ (r : Uni.T U Kind.a4), List.Mem r raw → ((-9223372036854775808 : Int) ≤ A4.a r ∧ A4.a r ≤ (9223372036854775807 : Int)) ∧ ((-9223372036854775808 : Int) ≤ A4.b r ∧ A4.b r ≤ (9223372036854775807 : Int)) ∧ ((-9223372036854775808 : Int) ≤ A4.c r ∧ A4.c r ≤ (9223372036854775807 : Int)) ∧ (-9223372036854775808 : Int) ≤ A4.d r ∧ A4.d r ≤ (9223372036854775807 : Int)) ∧ (((-9223372036854775808 : Int) ≤ a ∧ a ≤ (9223372036854775807 : Int)) ∧ ((-9223372036854775808 : Int) ≤ b ∧ b ≤ (9223372036854775807 : Int)) ∧ ((-9223372036854775808 : Int) ≤ c ∧ c ≤ (9223372036854775807 : Int)) ∧ (-9223372036854775808 : Int) ≤ d ∧ d ≤ (9223372036854775807 : Int)) ∧ (((-9223372036854775808 : Int) ≤ a2 ∧ a2 ≤ (9223372036854775807 : Int)) ∧ ((-9223372036854775808 : Int) ≤ b2 ∧ b2 ≤ (9223372036854775807 : Int)) ∧ ((-9223372036854775808 : Int) ≤ c2 ∧ c2 ≤ (9223372036854775807 : Int)) ∧ (-9223372036854775808 : Int) ≤ d2 ∧ d2 ≤ (9223372036854775807 : Int)) ∧ List.length (Gather.parts (gatL raw)) ≤ (1000000 : Nat) ∧ List.length (Gather.parts (putG (gatL raw) (wrap64 (pcI (A4.mk a b c d) + (5 : Int))) (pcP (A4.mk a b c d)))) ≤ (1000000 : Nat) ∧ List.length (Gather.parts (putG (gatL raw) (wrap64 (pcI (A4.mk a b c d) + (5 : Int))) (pcP (A4.mk a b c d)))) ≤ (1000000 : Nat) ∧ ((er1 (putB (gatL raw) (wrap64 (pcI (A4.mk a b c d) + (5 : Int))) (pcP (A4.mk a b c d))) != (0 : Int) || er1 (putB (putG (gatL raw) (wrap64 (pcI (A4.mk a b c d) + (5 : Int))) (pcP (A4.mk a b c d))) (pcI (A4.mk a2 b2 c2 d2)) (pcP (A4.mk a2 b2 c2 d2))) != (0 : Int) || er1 (putB (putG (gatL raw) (wrap64 (pcI (A4.mk a b c d) + (5 : Int))) (pcP (A4.mk a b c d))) (wrap64 (pcI (A4.mk a b c d) + (5 : Int))) (Piece.mk (wrap64 (Piece.seq (pcP (A4.mk a b c d)) + (9 : Int))) (Piece.at_ (pcP (A4.mk a b c d))) (Piece.of_ (pcP (A4.mk a b c d))) (Piece.bytes (pcP (A4.mk a b c d))))) != (0 : Int) || (↑(List.length (Gather.parts (putG (gatL raw) (wrap64 (pcI (A4.mk a b c d) + (5 : Int))) (pcP (A4.mk a b c d))))) : Int) != Piece.of_ (pcP (A4.mk a b c d)) || (↑(List.length (Gather.parts (putG (putG (gatL raw) (wrap64 (pcI (A4.mk a b c d) + (5 : Int))) (pcP (A4.mk a b c d))) (wrap64 (pcI (A4.mk a b c d) + (5 : Int))) (Piece.mk (wrap64 (Piece.seq (pcP (A4.mk a b c d)) + (9 : Int))) (Piece.at_ (pcP (A4.mk a b c d))) (Piece.of_ (pcP (A4.mk a b c d))) (Piece.bytes (pcP (A4.mk a b c d))))))) : Int) != Piece.of_ (pcP (A4.mk a b c d))) = true → Out.one (U := U) (D.mk false [CV.v (Value.bool false)]) = Out.one (U := U) (D.mk false [CV.v (Value.bool true)])) ∧ ((er1 (putB (gatL raw) (wrap64 (pcI (A4.mk a b c d) + (5 : Int))) (pcP (A4.mk a b c d))) != (0 : Int) || er1 (putB (putG (gatL raw) (wrap64 (pcI (A4.mk a b c d) + (5 : Int))) (pcP (A4.mk a b c d))) (pcI (A4.mk a2 b2 c2 d2)) (pcP (A4.mk a2 b2 c2 d2))) != (0 : Int) || er1 (putB (putG (gatL raw) (wrap64 (pcI (A4.mk a b c d) + (5 : Int))) (pcP (A4.mk a b c d))) (wrap64 (pcI (A4.mk a b c d) + (5 : Int))) (Piece.mk (wrap64 (Piece.seq (pcP (A4.mk a b c d)) + (9 : Int))) (Piece.at_ (pcP (A4.mk a b c d))) (Piece.of_ (pcP (A4.mk a b c d))) (Piece.bytes (pcP (A4.mk a b c d))))) != (0 : Int) || (↑(List.length (Gather.parts (putG (gatL raw) (wrap64 (pcI (A4.mk a b c d) + (5 : Int))) (pcP (A4.mk a b c d))))) : Int) != Piece.of_ (pcP (A4.mk a b c d)) || (↑(List.length (Gather.parts (putG (putG (gatL raw) (wrap64 (pcI (A4.mk a b c d) + (5 : Int))) (pcP (A4.mk a b c d))) (wrap64 (pcI (A4.mk a b c d) + (5 : Int))) (Piece.mk (wrap64 (Piece.seq (pcP (A4.mk a b c d)) + (9 : Int))) (Piece.at_ (pcP (A4.mk a b c d))) (Piece.of_ (pcP (A4.mk a b c d))) (Piece.bytes (pcP (A4.mk a b c d))))))) : Int) != Piece.of_ (pcP (A4.mk a b c d))) = false → True ∧ (Value.int IntKind.i64 (0 : Int) = Value.int IntKind.i64 (0 : Int) ∧ Value.int IntKind.i64 (0 : Int) = Value.int IntKind.i64 (one5 (pcP (A4.mk a b c d)) (0 : Nat))) ∧ ∀ (k : Nat), k ≤ Int.toNat (Piece.of_ (pcP (A4.mk a b c d))) → True → (decide ((↑k : Int) < (↑(List.length (Gather.parts (putG (putG (gatL raw) (wrap64 (pcI (A4.mk a b c d) + (5 : Int))) (pcP (A4.mk a b c d))) (wrap64 (pcI (A4.mk a b c d) + (5 : Int))) (Piece.mk (wrap64 (Piece.seq (pcP (A4.mk a b c d)) + (9 : Int))) (Piece.at_ (pcP (A4.mk a b c d))) (Piece.of_ (pcP (A4.mk a b c d))) (Piece.bytes (pcP (A4.mk a b c d))))))) : Int)) = true → ((0 : Int) ≤ (↑k : Int) ∧ (↑k : Int) < (↑(List.length (Gather.parts (putG (putG (gatL raw) (wrap64 (pcI (A4.mk a b c d) + (5 : Int))) (pcP (A4.mk a b c d))) (wrap64 (pcI (A4.mk a b c d) + (5 : Int))) (Piece.mk (wrap64 (Piece.seq (pcP (A4.mk a b c d)) + (9 : Int))) (Piece.at_ (pcP (A4.mk a b c d))) (Piece.of_ (pcP (A4.mk a b c d))) (Piece.bytes (pcP (A4.mk a b c d))))))) : Int)) ∧ ((!List.getD (Gather.parts (putG (putG (gatL raw) (wrap64 (pcI (A4.mk a b c d) + (5 : Int))) (pcP (A4.mk a b c d))) (wrap64 (pcI (A4.mk a b c d) + (5 : Int))) (Piece.mk (wrap64 (Piece.seq (pcP (A4.mk a b c d)) + (9 : Int))) (Piece.at_ (pcP (A4.mk a b c d))) (Piece.of_ (pcP (A4.mk a b c d))) (Piece.bytes (pcP (A4.mk a b c d)))))) (Int.toNat (↑k : Int)) (d_str) == ByteArray.mk (Array.mk [])) = true → k < Int.toNat (Piece.of_ (pcP (A4.mk a b c d))) ∧ True ∧ Value.int IntKind.i64 (wrap64 ((↑k : Int) + (1 : Int))) = Value.int IntKind.i64 (↑(k + (1 : Nat)) : Int) ∧ Value.int IntKind.i64 (wrap64 (one5 (pcP (A4.mk a b c d)) k + (1 : Int))) = Value.int IntKind.i64 (one5 (pcP (A4.mk a b c d)) (k + (1 : Nat)))) ∧ ((!List.getD (Gather.parts (putG (putG (gatL raw) (wrap64 (pcI (A4.mk a b c d) + (5 : Int))) (pcP (A4.mk a b c d))) (wrap64 (pcI (A4.mk a b c d) + (5 : Int))) (Piece.mk (wrap64 (Piece.seq (pcP (A4.mk a b c d)) + (9 : Int))) (Piece.at_ (pcP (A4.mk a b c d))) (Piece.of_ (pcP (A4.mk a b c d))) (Piece.bytes (pcP (A4.mk a b c d)))))) (Int.toNat (↑k : Int)) (d_str) == ByteArray.mk (Array.mk [])) = false → k < Int.toNat (Piece.of_ (pcP (A4.mk a b c d))) ∧ True ∧ Value.int IntKind.i64 (wrap64 ((↑k : Int) + (1 : Int))) = Value.int IntKind.i64 (↑(k + (1 : Nat)) : Int) ∧ Value.int IntKind.i64 (one5 (pcP (A4.mk a b c d)) k) = Value.int IntKind.i64 (one5 (pcP (A4.mk a b c d)) (k + (1 : Nat))))) ∧ (decide ((↑k : Int) < (↑(List.length (Gather.parts (putG (putG (gatL raw) (wrap64 (pcI (A4.mk a b c d) + (5 : Int))) (pcP (A4.mk a b c d))) (wrap64 (pcI (A4.mk a b c d) + (5 : Int))) (Piece.mk (wrap64 (Piece.seq (pcP (A4.mk a b c d)) + (9 : Int))) (Piece.at_ (pcP (A4.mk a b c d))) (Piece.of_ (pcP (A4.mk a b c d))) (Piece.bytes (pcP (A4.mk a b c d))))))) : Int)) = false → ((true && Gather.inc (putG (gatL raw) (wrap64 (pcI (A4.mk a b c d) + (5 : Int))) (pcP (A4.mk a b c d))) == wrap64 (pcI (A4.mk a b c d) + (5 : Int))) = true → List.length (Gather.parts (putG (gatL raw) (wrap64 (pcI (A4.mk a b c d) + (5 : Int))) (pcP (A4.mk a b c d)))) ≤ (1000000 : Nat)) ∧ ((true && Gather.inc (putG (gatL raw) (wrap64 (pcI (A4.mk a b c d) + (5 : Int))) (pcP (A4.mk a b c d))) == wrap64 (pcI (A4.mk a b c d) + (5 : Int)) && (Gather.inc (putG (gatL raw) (wrap64 (pcI (A4.mk a b c d) + (5 : Int))) (pcP (A4.mk a b c d))) == Gather.inc (putG (putG (gatL raw) (wrap64 (pcI (A4.mk a b c d) + (5 : Int))) (pcP (A4.mk a b c d))) (pcI (A4.mk a2 b2 c2 d2)) (pcP (A4.mk a2 b2 c2 d2))) && Gather.seq (putG (gatL raw) (wrap64 (pcI (A4.mk a b c d) + (5 : Int))) (pcP (A4.mk a b c d))) == Gather.seq (putG (putG (gatL raw) (wrap64 (pcI (A4.mk a b c d) + (5 : Int))) (pcP (A4.mk a b c d))) (pcI (A4.mk a2 b2 c2 d2)) (pcP (A4.mk a2 b2 c2 d2))) && strsEq (Gather.parts (putG (gatL raw) (wrap64 (pcI (A4.mk a b c d) + (5 : Int))) (pcP (A4.mk a b c d)))) (Gather.parts (putG (putG (gatL raw) (wrap64 (pcI (A4.mk a b c d) + (5 : Int))) (pcP (A4.mk a b c d))) (pcI (A4.mk a2 b2 c2 d2)) (pcP (A4.mk a2 b2 c2 d2))))) && one5 (pcP (A4.mk a b c d)) k == (1 : Int)) = true → (0 : Int) ≤ Piece.at_ (pcP (A4.mk a b c d)) ∧ Piece.at_ (pcP (A4.mk a b c d)) < (↑(List.length (Gather.parts (putG (putG (gatL raw) (wrap64 (pcI (A4.mk a b c d) + (5 : Int))) (pcP (A4.mk a b c d))) (wrap64 (pcI (A4.mk a b c d) + (5 : Int))) (Piece.mk (wrap64 (Piece.seq (pcP (A4.mk a b c d)) + (9 : Int))) (Piece.at_ (pcP (A4.mk a b c d))) (Piece.of_ (pcP (A4.mk a b c d))) (Piece.bytes (pcP (A4.mk a b c d))))))) : Int)) ∧ Out.one (U := U) (D.mk false [CV.v (Value.bool (true && Gather.inc (putG (gatL raw) (wrap64 (pcI (A4.mk a b c d) + (5 : Int))) (pcP (A4.mk a b c d))) == wrap64 (pcI (A4.mk a b c d) + (5 : Int)) && (Gather.inc (putG (gatL raw) (wrap64 (pcI (A4.mk a b c d) + (5 : Int))) (pcP (A4.mk a b c d))) == Gather.inc (putG (putG (gatL raw) (wrap64 (pcI (A4.mk a b c d) + (5 : Int))) (pcP (A4.mk a b c d))) (pcI (A4.mk a2 b2 c2 d2)) (pcP (A4.mk a2 b2 c2 d2))) && Gather.seq (putG (gatL raw) (wrap64 (pcI (A4.mk a b c d) + (5 : Int))) (pcP (A4.mk a b c d))) == Gather.seq (putG (putG (gatL raw) (wrap64 (pcI (A4.mk a b c d) + (5 : Int))) (pcP (A4.mk a b c d))) (pcI (A4.mk a2 b2 c2 d2)) (pcP (A4.mk a2 b2 c2 d2))) && strsEq (Gather.parts (putG (gatL raw) (wrap64 (pcI (A4.mk a b c d) + (5 : Int))) (pcP (A4.mk a b c d)))) (Gather.parts (putG (putG (gatL raw) (wrap64 (pcI (A4.mk a b c d) + (5 : Int))) (pcP (A4.mk a b c d))) (pcI (A4.mk a2 b2 c2 d2)) (pcP (A4.mk a2 b2 c2 d2))))) && one5 (pcP (A4.mk a b c d)) k == (1 : Int) && List.getD (Gather.parts (putG (putG (gatL raw) (wrap64 (pcI (A4.mk a b c d) + (5 : Int))) (pcP (A4.mk a b c d))) (wrap64 (pcI (A4.mk a b c d) + (5 : Int))) (Piece.mk (wrap64 (Piece.seq (pcP (A4.mk a b c d)) + (9 : Int))) (Piece.at_ (pcP (A4.mk a b c d))) (Piece.of_ (pcP (A4.mk a b c d))) (Piece.bytes (pcP (A4.mk a b c d)))))) (Int.toNat (Piece.at_ (pcP (A4.mk a b c d)))) (d_str) == Piece.bytes (pcP (A4.mk a b c d)) && Gather.seq (putG (putG (gatL raw) (wrap64 (pcI (A4.mk a b c d) + (5 : Int))) (pcP (A4.mk a b c d))) (wrap64 (pcI (A4.mk a b c d) + (5 : Int))) (Piece.mk (wrap64 (Piece.seq (pcP (A4.mk a b c d)) + (9 : Int))) (Piece.at_ (pcP (A4.mk a b c d))) (Piece.of_ (pcP (A4.mk a b c d))) (Piece.bytes (pcP (A4.mk a b c d))))) == wrap64 (Piece.seq (pcP (A4.mk a b c d)) + (9 : Int))))]) = Out.one (U := U) (D.mk false [CV.v (Value.bool true)]))), by kernel_rfl, ?_⟩
      obtain ⟨pR, pr, pr2⟩ := hp
      have pr' := pr
      have pr2' := pr2
      unfold okA4 in64 at pr pr2
      have e0 : ByteArray.mk (Array.mk []) = ByteArray.empty := rfl
      have e1 : d_str = ByteArray.empty := rfl
      simp only [e0, e1]
      have hI := pcI_rng ⟨a, b, c, d⟩
      have hI2 := pcI_rng ⟨a2, b2, c2, d2⟩
      have hP := pcP_right ⟨a, b, c, d⟩
      have hP2 := pcP_right ⟨a2, b2, c2, d2⟩
      have hQ := pcP_seq_rng ⟨a, b, c, d⟩
      have hg := gat_small raw (gatN raw)
      have hM := gatK_may raw (gatN raw)
      have hG : gatK raw (gatN raw) = gatL raw := rfl
      rw [hG] at hg hM
      generalize pcI ⟨a, b, c, d⟩ = i at hI
      generalize pcI ⟨a2, b2, c2, d2⟩ = j at hI2
      generalize pcP ⟨a2, b2, c2, d2⟩ = q at hP2
      generalize pcP ⟨a, b, c, d⟩ = p at hP hQ
      generalize gatL raw = g at hg hM
      rw [w64 (x := i + 5) (by omega), w64 (x := p.seq + 9) (by omega)]
      obtain ⟨h1, h2, h3, h4⟩ := pieceR_is hP
      have hP9 : pieceR ⟨p.seq + 9, p.at_, p.of_, p.bytes⟩ = true := by
        unfold pieceR
        show (btw (p.seq + 9) 1 65535 && btw p.of_ 1 20 && btw p.at_ 0 (p.of_ - 1) && btw (p.bytes.size : Int) 1 16) = true
        rw [btw_iff.mpr (by omega), btw_iff.mpr h2, btw_iff.mpr h3, btw_iff.mpr h4]; rfl
      have b1 := putB_on hM hP (inc := i + 5) (by omega)
      have hA := put_fresh b1 (.inl (by omega))
      have hMA : gatherM (putG g (i + 5) p) = true := put_may hM
      generalize putG g (i + 5) p = A at hA hMA
      have a1 : A.inc = i + 5 := by rw [hA]
      have a2' : A.seq = p.seq := by rw [hA]
      have b2' := putB_on hMA hP2 (inc := j) (by omega)
      have hB : putG A j q = A := put_old (putOld_on (.inl (by omega)))
      have b3 := putB_on hMA hP9 (inc := i + 5) (by omega)
      have hC := put_fresh b3 (.inr ⟨a1, by
        show A.seq < p.seq + 9
        omega⟩)
      rw [hB]
      generalize putG A (i + 5) ⟨p.seq + 9, p.at_, p.of_, p.bytes⟩ = C at hC
      have c1 : C.parts = (List.replicate p.of_.toNat ByteArray.empty).set p.at_.toNat p.bytes := by rw [hC]
      have c2' : C.seq = p.seq + 9 := by rw [hC]
      have a3 : A.parts = (List.replicate p.of_.toNat ByteArray.empty).set p.at_.toNat p.bytes := by rw [hA]
      have hl : ((List.replicate p.of_.toNat ByteArray.empty).set p.at_.toNat p.bytes).length = p.of_.toNat := by rw [List.length_set, List.length_replicate]
      have hget := new_get p
      rw [er_zero b1, er_zero b2', er_zero b3, c1, c2', a1, a2', a3]
      generalize (List.replicate p.of_.toNat ByteArray.empty).set p.at_.toNat p.bytes = L at hl hget
      have gl : g.parts.length ≤ 1000000 := Nat.le_trans (gatherM_parts hM).1 (by decide)
      have hsz : (p.bytes == .empty) = false := by
        rw [ba_beq]
        refine decide_eq_false fun c => ?_
        rw [c] at h4
        have : (ByteArray.empty).size = 0 := rfl
        omega
      have hLo : (L.length : Int) = p.of_ := by omega
      rw [hLo]
      refine ⟨pR, pr, pr2, gl, by omega, by omega, fun h => ?_, fun _ => ⟨trivial, ⟨by trivial, ?_⟩, fun k hk _ => ⟨fun hlt => ?_, fun hge => ?_⟩⟩⟩
      · simp only [bne_self_eq_false, Bool.or_false, Bool.false_eq_true] at h
      · unfold one5; rw [if_neg (by omega)]
      · have hlt := of_decide_eq_true hlt
        rw [Int.toNat_natCast, hget k (by omega)]
        refine ⟨⟨by omega, hlt⟩, fun h => ?_, fun h => ?_⟩
        · by_cases c : p.at_.toNat = k
          · refine ⟨by omega, trivial, by rw [w64 (by omega)]; rfl, ?_⟩
            unfold one5
            rw [if_neg (by omega), if_pos (by omega), w64 (x := (0 : Int) + 1) (by omega)]; rfl
          · rw [if_neg c, ba_self] at h; cases h
        · by_cases c : p.at_.toNat = k
          · rw [if_pos c, hsz] at h; cases h
          · refine ⟨by omega, trivial, by rw [w64 (by omega)]; rfl, ?_⟩
            unfold one5
            by_cases c2 : p.at_ < (k : Int)
            · rw [if_pos c2, if_pos (by omega)]
            · rw [if_neg c2, if_neg (by omega)]
      · have hge := of_decide_eq_false hge
        have ho : one5 p k = 1 := by unfold one5; rw [if_pos (by omega)]
        rw [ho, hget p.at_.toNat (by omega), if_pos rfl]
        refine ⟨fun _ => by omega, fun _ => by omega, ?_⟩
        simp only [beq_self_eq_true, ba_self, strs_self]
        rfl
    · cases hg

end Go.Proofs.Ytelpblhhpdonkaa.X
