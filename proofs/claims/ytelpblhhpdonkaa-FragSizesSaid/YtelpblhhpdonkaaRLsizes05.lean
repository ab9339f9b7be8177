/- With greater pieces there are no more of them. -/
import Derived.Test.YtelpblhhpdonkaaRFact05
namespace Go.Proofs.Ytelpblhhpdonkaa.X
open Go Go.RX Go.RowKit Go.Proofs
set_option linter.unusedVariables false
set_option linter.unusedSimpArgs false
set_option maxHeartbeats 4000000
def Sizes5_S : RX.Spec U := fun
  | [⟨false, [.v (.string s)]⟩, ⟨false, [.v (.int .i64 one)]⟩, ⟨false, [.v (.int .i64 two)]⟩] => some ⟨some ((in64 one ∧ in64 two)), (.one ⟨false, [.v (.bool true)]⟩)⟩
  | _ => none

theorem Sizes5_ok : ConOk Try.prog U GV 7 Sizes5_S :=
  fn_go gs ty glok (conCons awake05_ok (conCons text05_ok (conCons pick05_ok (conCons fSplit_ok conNil)))) Try.func7 (by kernel_rfl) fun ds r hg hp => by
    unfold Sizes5_S at hg
    split at hg
    · rename_i s one two
      cases hg
      replace hp : ((in64 one ∧ in64 two)) := hp
      refine ⟨fun st key => if key = 10 then some { N := (txtS s).size, mods := fun k => [.tv 19 (.int .i64 (k : Int))] } else none, (((-9223372036854775808 : Int) ≤ one ∧ one ≤ (9223372036854775807 : Int)) ∧ (0 : Int) < (16 : Int) ∧ (16 : Int) ≤ (1000000000 : Int)) ∧ (((-9223372036854775808 : Int) ≤ two ∧ two ≤ (9223372036854775807 : Int)) ∧ (0 : Int) < (16 : Int) ∧ (16 : Int) ≤ (1000000000 : Int)) ∧ True ∧ Value.int IntKind.i64 (0 : Int) = Value.int IntKind.i64 (0 : Int) ∧ ∀ (k : Nat), k ≤ ByteArray.size (txtS s) → True → (decide ((↑k : Int) < (↑(List.length (splitL (3 : Int) (txtS s) (1 : Int))) : Int)) = true → ((0 : Int) ≤ (↑k : Int) ∧ (↑k : Int) < (↑(List.length (splitL (3 : Int) (txtS s) (1 : Int))) : Int)) ∧ ((0 : Int) ≤ (↑k : Int) ∧ (↑k : Int) ≤ wrap64 ((↑k : Int) + (1 : Int)) ∧ wrap64 ((↑k : Int) + (1 : Int)) ≤ (↑(ByteArray.size (txtS s)) : Int)) ∧ ((!Piece.bytes (List.getD (splitL (3 : Int) (txtS s) (1 : Int)) (Int.toNat (↑k : Int)) (d_piece)) == ByteArray.extract (txtS s) (Int.toNat (↑k : Int)) (Int.toNat (wrap64 ((↑k : Int) + (1 : Int))))) = true → Out.one (U := U) (D.mk false [CV.v (Value.bool false)]) = Out.one (U := U) (D.mk false [CV.v (Value.bool true)])) ∧ ((!Piece.bytes (List.getD (splitL (3 : Int) (txtS s) (1 : Int)) (Int.toNat (↑k : Int)) (d_piece)) == ByteArray.extract (txtS s) (Int.toNat (↑k : Int)) (Int.toNat (wrap64 ((↑k : Int) + (1 : Int))))) = false → k < ByteArray.size (txtS s) ∧ True ∧ Value.int IntKind.i64 (wrap64 ((↑k : Int) + (1 : Int))) = Value.int IntKind.i64 (↑(k + (1 : Nat)) : Int))) ∧ (decide ((↑k : Int) < (↑(List.length (splitL (3 : Int) (txtS s) (1 : Int))) : Int)) = false → Out.one (U := U) (D.mk false [CV.v (Value.bool (true && er1 (splitB (3 : Int) (txtS s) (if wrap64 ((1 : Int) + pickI two (16 : Int)) < wrap64 ((1 : Int) + pickI one (16 : Int)) then wrap64 ((1 : Int) + pickI two (16 : Int)) else wrap64 ((1 : Int) + pickI one (16 : Int)))) == (0 : Int) && er1 (splitB (3 : Int) (txtS s) (if wrap64 ((1 : Int) + pickI two (16 : Int)) > wrap64 ((1 : Int) + pickI one (16 : Int)) then wrap64 ((1 : Int) + pickI two (16 : Int)) else wrap64 ((1 : Int) + pickI one (16 : Int)))) == (0 : Int) && er1 (splitB (3 : Int) (txtS s) (1 : Int)) == (0 : Int) && er1 (splitB (3 : Int) (txtS s) (17 : Int)) == (1 : Int) && decide ((↑(List.length (splitL (3 : Int) (txtS s) (if wrap64 ((1 : Int) + pickI two (16 : Int)) > wrap64 ((1 : Int) + pickI one (16 : Int)) then wrap64 ((1 : Int) + pickI two (16 : Int)) else wrap64 ((1 : Int) + pickI one (16 : Int))))) : Int) ≤ (↑(List.length (splitL (3 : Int) (txtS s) (if wrap64 ((1 : Int) + pickI two (16 : Int)) < wrap64 ((1 : Int) + pickI one (16 : Int)) then wrap64 ((1 : Int) + pickI two (16 : Int)) else wrap64 ((1 : Int) + pickI one (16 : Int))))) : Int)) && (↑(List.length (splitL (3 : Int) (txtS s) (1 : Int))) : Int) == (↑(ByteArray.size (txtS s)) : Int) && decide ((1 : Int) ≤ (↑(List.length (splitL (3 : Int) (txtS s) (if wrap64 ((1 : Int) + pickI two (16 : Int)) > wrap64 ((1 : Int) + pickI one (16 : Int)) then wrap64 ((1 : Int) + pickI two (16 : Int)) else wrap64 ((1 : Int) + pickI one (16 : Int))))) : Int))))]) = Out.one (U := U) (D.mk false [CV.v (Value.bool true)])), by kernel_rfl, ?_⟩
      obtain ⟨p1, p2⟩ := hp
      have r1 := pickI_rng one 16 (by decide)
      have r2 := pickI_rng two 16 (by decide)
      rw [w64 (x := 1 + pickI one 16) (by omega), w64 (x := 1 + pickI two 16) (by omega)]
      have hs := txt_size s
      generalize txtS s = x at hs
      generalize hm : 1 + pickI one 16 = m
      generalize hn : 1 + pickI two 16 = n
      have hlo : 1 ≤ (if n < m then n else m) ∧ (if n < m then n else m) ≤ 16 := by split <;> omega
      have hhi : 1 ≤ (if n > m then n else m) ∧ (if n > m then n else m) ≤ 16 := by split <;> omega
      have hlh : (if n < m then n else m) ≤ (if n > m then n else m) := by split <;> split <;> omega
      generalize (if n < m then n else m) = lo at hlo hlh
      generalize (if n > m then n else m) = hi at hhi hlh
      have c1 : splitB 3 x 1 = true := split_on (by decide) hs (by decide)
      have cl : splitB 3 x lo = true := split_on (by decide) hs hlo
      have ch : splitB 3 x hi = true := split_on (by decide) hs hhi
      have c17 : splitB 3 x 17 = false := by
        cases h : splitB 3 x 17 with
        | false => rfl
        | true => have := (splitB_is h).2.2; omega
      have l1 : (splitL 3 x 1).length = x.size := (splitL_len c1).trans (ofN_one x)
      refine ⟨⟨p1, by decide⟩, ⟨p2, by decide⟩, trivial, rfl, fun k hk _ => ⟨fun hlt => ?_, fun hge => ?_⟩⟩
      · have hlt := of_decide_eq_true hlt
        rw [l1] at hlt ⊢
        have e2 : ((splitL 3 x 1).getD k d_piece).bytes = x.extract k (k + 1) := by
          rw [splitL_get c1 k (by have := ofN_one x; show k < ofN x 1; omega) d_piece]
          show chunk x 1 k = _
          unfold chunk
          congr 1 <;> omega
        rw [w64 (x := (k : Int) + 1) (by omega), Int.toNat_natCast, show ((k : Int) + 1).toNat = k + 1 by omega, e2]
        refine ⟨⟨by omega, hlt⟩, ⟨by omega, by omega, by omega⟩, fun h => ?_, fun _ => ⟨by omega, trivial, rfl⟩⟩
        rw [ba_self] at h; cases h
      · have ll : (splitL 3 x hi).length ≤ (splitL 3 x lo).length := by
          rw [splitL_len ch, splitL_len cl]
          exact ofN_mono x (by omega) (by omega)
        have lp : 1 ≤ (splitL 3 x hi).length := by
          rw [splitL_len ch]
          exact ofN_pos (by omega) hs.1
        rw [er_zero c1, er_zero cl, er_zero ch, er_one c17, l1, decide_eq_true (p := (_ : Int) ≤ ((splitL 3 x lo).length : Int)) (by omega), decide_eq_true (p := (1 : Int) ≤ _) (by omega)]
        simp only [beq_self_eq_true]
        rfl
    · cases hg

end Go.Proofs.Ytelpblhhpdonkaa.X
