/- Put together in whatever order, what was split is whole again. -/
import Derived.Test.YtelpblhhpdonkaaRFwh
namespace Go.Proofs.Ytelpblhhpdonkaa.X
open Go Go.RX Go.RowKit Go.Proofs
set_option linter.unusedVariables false
set_option linter.unusedSimpArgs false
set_option maxHeartbeats 4000000
theorem cond_W {B : Bool} {S x : ByteArray} {m n : Nat} (h1 : B = decide (m = n)) (h2 : m = n → S = x) : (!(B == ((m : Int) == (n : Int))) || B && !(S == x)) = false := by
  by_cases c : m = n
  · rw [h1, decide_eq_true c, h2 c, c, beq_self_eq_true, ba_self]; rfl
  · have hb : ((m : Int) == (n : Int)) = false := beq_eq_false_iff_ne.mpr (by omega)
    rw [h1, decide_eq_false c, hb]; rfl
theorem e1W (s : ByteArray) (size : Int) (order : List Int) (raw : List A4) (k : Nat) : g1W s size order raw (k + 1) = gW (gatL raw) (txtS s) (zW size) true ((hadW order (nW s size) k).set (iW order (nW s size) k) true) := by
  unfold g1W; rw [decide_eq_true (Nat.succ_pos k)]; rfl
theorem e2W (s : ByteArray) (size : Int) (order : List Int) (raw : List A4) (k : Nat) : g2W s size order raw (k + 1) = gW (gatL raw) (txtS s) (zW size) true ((had2W (hadW order (nW s size) (ordN order)) k).set k true) := by
  unfold g2W; rw [decide_eq_true (show 0 < ordN order + (k + 1) by omega)]; rfl
theorem zW_rng (size : Int) : 1 ≤ zW size ∧ zW size ≤ 16 ∧ 1 + pickI size 16 = (zW size : Int) := by
  have := pickI_rng size 16 (by decide)
  unfold zW; omega
theorem split_W (s : ByteArray) (size : Int) : splitB 9 (txtS s) (zW size : Int) = true := by
  have := zW_rng size
  exact split_on (by decide) (txt_size s) (by omega)
theorem len_W (s : ByteArray) (size : Int) : (splitL 9 (txtS s) (zW size : Int)).length = nW s size := by
  rw [splitL_len (split_W s size), Int.toNat_natCast]; rfl
theorem get_W (s : ByteArray) (size : Int) (k : Nat) (hk : k < nW s size) : (splitL 9 (txtS s) (zW size : Int)).getD k d_piece = pW (txtS s) (zW size) k := by
  have := splitL_get (split_W s size) k (by rw [Int.toNat_natCast]; exact hk) d_piece
  rw [Int.toNat_natCast] at this
  exact this
theorem right_W (s : ByteArray) (size : Int) (k : Nat) (hk : k < nW s size) : pieceR (pW (txtS s) (zW size) k) = true := by
  rw [← get_W s size k hk]
  exact splitL_right (split_W s size) k (by rw [Int.toNat_natCast]; exact hk) d_piece
theorem nW_rng (s : ByteArray) (size : Int) : 1 ≤ nW s size ∧ nW s size ≤ 20 := by
  have h := zW_rng size
  have hx := txt_size s
  have h1 := ofN_pos (s := txtS s) (z := zW size) h.1 hx.1
  have h2 := ofN_le (s := txtS s) (z := zW size) h.1
  unfold nW; omega
theorem F1W (s : ByteArray) (size : Int) (order : List Int) (raw : List A4) : ∀ k, gatherM (g1W s size order raw k) = true ∧ putG (g1W s size order raw k) 2 (pW (txtS s) (zW size) (iW order (nW s size) k)) = g1W s size order raw (k + 1) ∧ putB (g1W s size order raw k) 2 (pW (txtS s) (zW size) (iW order (nW s size) k)) = true := fun k => by
  have hn := nW_rng s size
  have step : gatherM (g1W s size order raw k) = true → putG (g1W s size order raw k) 2 (pW (txtS s) (zW size) (iW order (nW s size) k)) = g1W s size order raw (k + 1) ∧ putB (g1W s size order raw k) 2 (pW (txtS s) (zW size) (iW order (nW s size) k)) = true ∧ gatherM (g1W s size order raw (k + 1)) = true := fun hM => by
    rw [e1W]
    have hi := iW_lt order (nW s size) k (by omega)
    exact step_W (zW_rng size).1 (gat_small raw (gatN raw)) hM (hadW_length order (nW s size) k) (fun h => by
      have h := of_decide_eq_false h
      have : k = 0 := by omega
      subst this; rfl) hi (right_W s size _ hi)
  have hM : ∀ j, gatherM (g1W s size order raw j) = true → True := fun _ _ => trivial
  have inv : gatherM (g1W s size order raw k) = true := by
    clear step hM
    induction k with
    | zero => exact gatK_may raw (gatN raw)
    | succ k ih =>
      rw [e1W]
      have hi := iW_lt order (nW s size) k (by omega)
      exact (step_W (zW_rng size).1 (gat_small raw (gatN raw)) ih (hadW_length order (nW s size) k) (fun h => by
        have h := of_decide_eq_false h
        have : k = 0 := by omega
        subst this; rfl) hi (right_W s size _ hi)).2.2
  exact ⟨inv, (step inv).1, (step inv).2.1⟩
theorem F2W (s : ByteArray) (size : Int) (order : List Int) (raw : List A4) (k : Nat) (hk : k ≤ nW s size) : gatherM (g2W s size order raw k) = true ∧ (k < nW s size → putG (g2W s size order raw k) 2 (pW (txtS s) (zW size) k) = g2W s size order raw (k + 1) ∧ putB (g2W s size order raw k) 2 (pW (txtS s) (zW size) k) = true) := by
  have step : ∀ j, j < nW s size → gatherM (g2W s size order raw j) = true → putG (g2W s size order raw j) 2 (pW (txtS s) (zW size) j) = g2W s size order raw (j + 1) ∧ putB (g2W s size order raw j) 2 (pW (txtS s) (zW size) j) = true ∧ gatherM (g2W s size order raw (j + 1)) = true := fun j hj hM => by
    rw [e2W]
    exact step_W (zW_rng size).1 (gat_small raw (gatN raw)) hM ((had2W_length _ _).trans (hadW_length order (nW s size) _)) (fun h => by
      have h := of_decide_eq_false h
      have h1 : j = 0 := by omega
      have h2 : ordN order = 0 := by omega
      subst h1
      rw [h2]; rfl) hj (right_W s size _ hj)
  have inv : gatherM (g2W s size order raw k) = true := by
    induction k with
    | zero => exact (F1W s size order raw (ordN order)).1
    | succ k ih => exact (step k (by omega) (ih (by omega))).2.2
  exact ⟨inv, fun h => ⟨(step k h inv).1, (step k h inv).2.1⟩⟩
theorem one1W (s : ByteArray) (size : Int) (order : List Int) (raw : List A4) (k : Nat) : wholeB (g1W s size order raw (k + 1)) = decide (manyW (hadW order (nW s size) (k + 1)) = nW s size) ∧ (manyW (hadW order (nW s size) (k + 1)) = nW s size → wholeS (g1W s size order raw (k + 1)) = txtS s) := by
  have h := (F1W s size order raw (k + 1)).1
  have hl := hadW_length order (nW s size) (k + 1)
  rw [e1W] at h ⊢
  exact whole_W (zW_rng size).1 (txt_size s).1 h hl
theorem last_W (s : ByteArray) (size : Int) (order : List Int) (raw : List A4) : g2W s size order raw (nW s size) = gW (gatL raw) (txtS s) (zW size) true (had2W (hadW order (nW s size) (ordN order)) (nW s size)) := by
  have := nW_rng s size
  unfold g2W
  rw [decide_eq_true (show 0 < ordN order + nW s size by omega)]
theorem end_W (s : ByteArray) (size : Int) (order : List Int) (raw : List A4) : wholeB (g2W s size order raw (nW s size)) = true ∧ wholeS (g2W s size order raw (nW s size)) = txtS s := by
  have h := (F2W s size order raw (nW s size) (Nat.le_refl _)).1
  have hl0 := hadW_length order (nW s size) (ordN order)
  have hl : (had2W (hadW order (nW s size) (ordN order)) (nW s size)).length = nW s size := (had2W_length _ _).trans hl0
  rw [last_W] at h ⊢
  have hw := whole_W (zW_rng size).1 (txt_size s).1 h hl
  have hm : manyW (had2W (hadW order (nW s size) (ordN order)) (nW s size)) = nW s size := by
    rw [← hl]
    refine Eq.trans ?_ (many_all.mpr fun i hi => had2W_get _ _ (by omega) i (by omega))
    rw [hl]
  exact ⟨hw.1.trans (decide_eq_true hm), hw.2 hm⟩
theorem old_W (s : ByteArray) (size : Int) (order : List Int) (raw : List A4) (r : A4) : putG (g2W s size order raw (nW s size)) (pcI r) (pcP r) = g2W s size order raw (nW s size) ∧ putB (g2W s size order raw (nW s size)) (pcI r) (pcP r) = true := by
  have h := (F2W s size order raw (nW s size) (Nat.le_refl _)).1
  have h1 := pcI_rng r
  have h2 := pcP_seq_rng r
  refine ⟨put_old (putOld_on ?_), putB_on h (pcP_right r) (by omega)⟩
  rw [last_W]
  show pcI r < 2 ∨ 2 = pcI r ∧ (pcP r).seq < 9
  omega
def Whole5_S : RX.Spec U := fun
  | [⟨false, [.v (.string s)]⟩, ⟨false, [.v (.int .i64 size)]⟩, ⟨false, [.sl .int order]⟩, ⟨false, [.sl .a4 raw]⟩] => some ⟨some ((in64 size ∧ (∀ i ∈ order, in64 i) ∧ (∀ r ∈ raw, okA4 r))), (.one ⟨false, [.v (.bool true)]⟩)⟩
  | _ => none

set_option maxHeartbeats 8000000 in
set_option maxRecDepth 100000 in
theorem Whole5_ok : ConOk Try.prog U GV 5 Whole5_S :=
  fn_go gs ty (RX.glX_ok glok) (conCons awake05_ok (conCons text05_ok (conCons pick05_ok (conCons gather05_ok (conCons piece05_ok (conCons fSplit_ok (conCons fPut_ok (conCons fWhole_ok (conCons r5Same_ok conNil))))))))) Try.func5 (by kernel_rfl) fun ds r hg hp => by
    unfold Whole5_S at hg
    split at hg
    · rename_i s size order raw
      obtain ⟨order, rfl⟩ : ∃ q_ : List Int, q_ = order := ⟨order, rfl⟩
      obtain ⟨raw, rfl⟩ : ∃ q_ : List A4, q_ = raw := ⟨raw, rfl⟩
      cases hg
      replace hp : ((in64 size ∧ (∀ i ∈ order, in64 i) ∧ (∀ r ∈ raw, okA4 r))) := hp
      refine ⟨fun st key => if key = 10 then some { N := ordN order, mods := fun k => [.tv 16 (.int .i64 (k : Int)), .tv 15 (.int .i64 (manyW (hadW order (nW s size) k) : Int)), .xt 14 .bool (hadW order (nW s size) k), .cv 13 0 (.int .i64 (g1W s size order raw k).inc), .cv 13 1 (.int .i64 (g1W s size order raw k).seq), .cr 13 2 .str (g1W s size order raw k).parts false] } else if key = 24 then some { N := nW s size, mods := fun k => [.tv 22 (.int .i64 (k : Int)), .cv 13 0 (.int .i64 (g2W s size order raw k).inc), .cv 13 1 (.int .i64 (g2W s size order raw k).seq), .cr 13 2 .str (g2W s size order raw k).parts false] } else if key = 32 then some { N := gatN raw, mods := fun k => [.tv 27 (.int .i64 (k : Int))] } else none, (((-9223372036854775808 : Int) ≤ size ∧ size ≤ (9223372036854775807 : Int)) ∧ (0 : Int) < (16 : Int) ∧ (16 : Int) ≤ (1000000000 : Int)) ∧ ((er1 (splitB (9 : Int) (txtS s) (wrap64 ((1 : Int) + pickI size (16 : Int)))) != (0 : Int) || (↑(List.length (splitL (9 : Int) (txtS s) (wrap64 ((1 : Int) + pickI size (16 : Int))))) : Int) == (0 : Int)) = true → Out.one (U := U) (D.mk false [CV.v (Value.bool false)]) = Out.one (U := U) (D.mk false [CV.v (Value.bool true)])) ∧ ((er1 (splitB (9 : Int) (txtS s) (wrap64 ((1 : Int) + pickI size (16 : Int)))) != (0 : Int) || (↑(List.length (splitL (9 : Int) (txtS s) (wrap64 ((1 : Int) + pickI size (16 : Int))))) : Int) == (0 : Int)) = false → (∀ (r : Uni.T U Kind.a4), List.Mem r raw → ((-9223372036854775808 : Int) ≤ A4.a r ∧ A4.a r ≤ (9223372036854775807 : Int)) ∧ ((-9223372036854775808 : Int) ≤ A4.b r ∧ A4.b r ≤ (9223372036854775807 : Int)) ∧ ((-9223372036854775808 : Int) ≤ A4.c r ∧ A4.c r ≤ (9223372036854775807 : Int)) ∧ (-9223372036854775808 : Int) ≤ A4.d r ∧ A4.d r ≤ (9223372036854775807 : Int)) ∧ ((↑(List.length (splitL (9 : Int) (txtS s) (wrap64 ((1 : Int) + pickI size (16 : Int))))) : Int) = (↑(List.length (splitL (9 : Int) (txtS s) (wrap64 ((1 : Int) + pickI size (16 : Int))))) : Int) ∧ (0 : Int) ≤ (↑(List.length (splitL (9 : Int) (txtS s) (wrap64 ((1 : Int) + pickI size (16 : Int))))) : Int) ∧ (↑(List.length (splitL (9 : Int) (txtS s) (wrap64 ((1 : Int) + pickI size (16 : Int))))) : Int) ≤ (1000000 : Int)) ∧ True ∧ (Value.int IntKind.i64 (0 : Int) = Value.int IntKind.i64 (0 : Int) ∧ Value.int IntKind.i64 (0 : Int) = Value.int IntKind.i64 (↑(manyW (hadW order (nW s size) (0 : Nat))) : Int) ∧ List.replicate (Int.toNat (↑(List.length (splitL (9 : Int) (txtS s) (wrap64 ((1 : Int) + pickI size (16 : Int))))) : Int)) false = hadW order (nW s size) (0 : Nat) ∧ Value.int IntKind.i64 (Gather.inc (gatL raw)) = Value.int IntKind.i64 (Gather.inc (g1W s size order raw (0 : Nat))) ∧ Value.int IntKind.i64 (Gather.seq (gatL raw)) = Value.int IntKind.i64 (Gather.seq (g1W s size order raw (0 : Nat))) ∧ True ∧ Gather.parts (gatL raw) = Gather.parts (g1W s size order raw (0 : Nat))) ∧ ∀ (k : Nat), k ≤ ordN order → True → ((decide ((↑k : Int) < (↑(List.length order) : Int)) && decide ((↑k : Int) < (40 : Int))) = true → ((0 : Int) ≤ (↑k : Int) ∧ (↑k : Int) < (↑(List.length order) : Int)) ∧ (((-9223372036854775808 : Int) ≤ List.getD order (Int.toNat (↑k : Int)) (d_int) ∧ List.getD order (Int.toNat (↑k : Int)) (d_int) ≤ (9223372036854775807 : Int)) ∧ (0 : Int) < (↑(List.length (splitL (9 : Int) (txtS s) (wrap64 ((1 : Int) + pickI size (16 : Int))))) : Int) ∧ (↑(List.length (splitL (9 : Int) (txtS s) (wrap64 ((1 : Int) + pickI size (16 : Int))))) : Int) ≤ (1000000000 : Int)) ∧ ((0 : Int) ≤ pickI (List.getD order (Int.toNat (↑k : Int)) (d_int)) (↑(List.length (splitL (9 : Int) (txtS s) (wrap64 ((1 : Int) + pickI size (16 : Int))))) : Int) ∧ pickI (List.getD order (Int.toNat (↑k : Int)) (d_int)) (↑(List.length (splitL (9 : Int) (txtS s) (wrap64 ((1 : Int) + pickI size (16 : Int))))) : Int) < (↑(List.length (splitL (9 : Int) (txtS s) (wrap64 ((1 : Int) + pickI size (16 : Int))))) : Int)) ∧ List.length (Gather.parts (g1W s size order raw k)) ≤ (1000000 : Nat) ∧ ((er1 (putB (g1W s size order raw k) (2 : Int) (List.getD (splitL (9 : Int) (txtS s) (wrap64 ((1 : Int) + pickI size (16 : Int)))) (Int.toNat (pickI (List.getD order (Int.toNat (↑k : Int)) (d_int)) (↑(List.length (splitL (9 : Int) (txtS s) (wrap64 ((1 : Int) + pickI size (16 : Int))))) : Int))) (d_piece))) != (0 : Int)) = true → Out.one (U := U) (D.mk false [CV.v (Value.bool false)]) = Out.one (U := U) (D.mk false [CV.v (Value.bool true)])) ∧ ((er1 (putB (g1W s size order raw k) (2 : Int) (List.getD (splitL (9 : Int) (txtS s) (wrap64 ((1 : Int) + pickI size (16 : Int)))) (Int.toNat (pickI (List.getD order (Int.toNat (↑k : Int)) (d_int)) (↑(List.length (splitL (9 : Int) (txtS s) (wrap64 ((1 : Int) + pickI size (16 : Int))))) : Int))) (d_piece))) != (0 : Int)) = false → ((0 : Int) ≤ pickI (List.getD order (Int.toNat (↑k : Int)) (d_int)) (↑(List.length (splitL (9 : Int) (txtS s) (wrap64 ((1 : Int) + pickI size (16 : Int))))) : Int) ∧ pickI (List.getD order (Int.toNat (↑k : Int)) (d_int)) (↑(List.length (splitL (9 : Int) (txtS s) (wrap64 ((1 : Int) + pickI size (16 : Int))))) : Int) < (↑(List.length (hadW order (nW s size) k)) : Int)) ∧ ((!List.getD (hadW order (nW s size) k) (Int.toNat (pickI (List.getD order (Int.toNat (↑k : Int)) (d_int)) (↑(List.length (splitL (9 : Int) (txtS s) (wrap64 ((1 : Int) + pickI size (16 : Int))))) : Int))) (d_bool)) = true → ((0 : Int) ≤ pickI (List.getD order (Int.toNat (↑k : Int)) (d_int)) (↑(List.length (splitL (9 : Int) (txtS s) (wrap64 ((1 : Int) + pickI size (16 : Int))))) : Int) ∧ pickI (List.getD order (Int.toNat (↑k : Int)) (d_int)) (↑(List.length (splitL (9 : Int) (txtS s) (wrap64 ((1 : Int) + pickI size (16 : Int))))) : Int) < (↑(List.length (hadW order (nW s size) k)) : Int)) ∧ List.length (Gather.parts (putG (g1W s size order raw k) (2 : Int) (List.getD (splitL (9 : Int) (txtS s) (wrap64 ((1 : Int) + pickI size (16 : Int)))) (Int.toNat (pickI (List.getD order (Int.toNat (↑k : Int)) (d_int)) (↑(List.length (splitL (9 : Int) (txtS s) (wrap64 ((1 : Int) + pickI size (16 : Int))))) : Int))) (d_piece)))) ≤ (1000000 : Nat) ∧ ((!wholeB (putG (g1W s size order raw k) (2 : Int) (List.getD (splitL (9 : Int) (txtS s) (wrap64 ((1 : Int) + pickI size (16 : Int)))) (Int.toNat (pickI (List.getD order (Int.toNat (↑k : Int)) (d_int)) (↑(List.length (splitL (9 : Int) (txtS s) (wrap64 ((1 : Int) + pickI size (16 : Int))))) : Int))) (d_piece))) == (wrap64 ((↑(manyW (hadW order (nW s size) k)) : Int) + (1 : Int)) == (↑(List.length (splitL (9 : Int) (txtS s) (wrap64 ((1 : Int) + pickI size (16 : Int))))) : Int)) || wholeB (putG (g1W s size order raw k) (2 : Int) (List.getD (splitL (9 : Int) (txtS s) (wrap64 ((1 : Int) + pickI size (16 : Int)))) (Int.toNat (pickI (List.getD order (Int.toNat (↑k : Int)) (d_int)) (↑(List.length (splitL (9 : Int) (txtS s) (wrap64 ((1 : Int) + pickI size (16 : Int))))) : Int))) (d_piece))) && !wholeS (putG (g1W s size order raw k) (2 : Int) (List.getD (splitL (9 : Int) (txtS s) (wrap64 ((1 : Int) + pickI size (16 : Int)))) (Int.toNat (pickI (List.getD order (Int.toNat (↑k : Int)) (d_int)) (↑(List.length (splitL (9 : Int) (txtS s) (wrap64 ((1 : Int) + pickI size (16 : Int))))) : Int))) (d_piece))) == txtS s) = true → Out.one (U := U) (D.mk false [CV.v (Value.bool false)]) = Out.one (U := U) (D.mk false [CV.v (Value.bool true)])) ∧ ((!wholeB (putG (g1W s size order raw k) (2 : Int) (List.getD (splitL (9 : Int) (txtS s) (wrap64 ((1 : Int) + pickI size (16 : Int)))) (Int.toNat (pickI (List.getD order (Int.toNat (↑k : Int)) (d_int)) (↑(List.length (splitL (9 : Int) (txtS s) (wrap64 ((1 : Int) + pickI size (16 : Int))))) : Int))) (d_piece))) == (wrap64 ((↑(manyW (hadW order (nW s size) k)) : Int) + (1 : Int)) == (↑(List.length (splitL (9 : Int) (txtS s) (wrap64 ((1 : Int) + pickI size (16 : Int))))) : Int)) || wholeB (putG (g1W s size order raw k) (2 : Int) (List.getD (splitL (9 : Int) (txtS s) (wrap64 ((1 : Int) + pickI size (16 : Int)))) (Int.toNat (pickI (List.getD order (Int.toNat (↑k : Int)) (d_int)) (↑(List.length (splitL (9 : Int) (txtS s) (wrap64 ((1 : Int) + pickI size (16 : Int))))) : Int))) (d_piece))) && !wholeS (putG (g1W s size order raw k) (2 : Int) (List.getD (splitL (9 : Int) (txtS s) (wrap64 ((1 : Int) + pickI size (16 : Int)))) (Int.toNat (pickI (List.getD order (Int.toNat (↑k : Int)) (d_int)) (↑(List.length (splitL (9 : Int) (txtS s) (wrap64 ((1 : Int) + pickI size (16 : Int))))) : Int))) (d_piece))) == txtS s) = false → k < ordN order ∧ True ∧ Value.int IntKind.i64 (wrap64 ((↑k : Int) + (1 : Int))) = Value.int IntKind.i64 (↑(k + (1 : Nat)) : Int) ∧ Value.int IntKind.i64 (wrap64 ((↑(manyW (hadW order (nW s size) k)) : Int) + (1 : Int))) = Value.int IntKind.i64 (↑(manyW (hadW order (nW s size) (k + (1 : Nat)))) : Int) ∧ List.set (hadW order (nW s size) k) (Int.toNat (pickI (List.getD order (Int.toNat (↑k : Int)) (d_int)) (↑(List.length (splitL (9 : Int) (txtS s) (wrap64 ((1 : Int) + pickI size (16 : Int))))) : Int))) true = hadW order (nW s size) (k + (1 : Nat)) ∧ Value.int IntKind.i64 (Gather.inc (putG (g1W s size order raw k) (2 : Int) (List.getD (splitL (9 : Int) (txtS s) (wrap64 ((1 : Int) + pickI size (16 : Int)))) (Int.toNat (pickI (List.getD order (Int.toNat (↑k : Int)) (d_int)) (↑(List.length (splitL (9 : Int) (txtS s) (wrap64 ((1 : Int) + pickI size (16 : Int))))) : Int))) (d_piece)))) = Value.int IntKind.i64 (Gather.inc (g1W s size order raw (k + (1 : Nat)))) ∧ Value.int IntKind.i64 (Gather.seq (putG (g1W s size order raw k) (2 : Int) (List.getD (splitL (9 : Int) (txtS s) (wrap64 ((1 : Int) + pickI size (16 : Int)))) (Int.toNat (pickI (List.getD order (Int.toNat (↑k : Int)) (d_int)) (↑(List.length (splitL (9 : Int) (txtS s) (wrap64 ((1 : Int) + pickI size (16 : Int))))) : Int))) (d_piece)))) = Value.int IntKind.i64 (Gather.seq (g1W s size order raw (k + (1 : Nat)))) ∧ True ∧ Gather.parts (putG (g1W s size order raw k) (2 : Int) (List.getD (splitL (9 : Int) (txtS s) (wrap64 ((1 : Int) + pickI size (16 : Int)))) (Int.toNat (pickI (List.getD order (Int.toNat (↑k : Int)) (d_int)) (↑(List.length (splitL (9 : Int) (txtS s) (wrap64 ((1 : Int) + pickI size (16 : Int))))) : Int))) (d_piece))) = Gather.parts (g1W s size order raw (k + (1 : Nat))))) ∧ ((!List.getD (hadW order (nW s size) k) (Int.toNat (pickI (List.getD order (Int.toNat (↑k : Int)) (d_int)) (↑(List.length (splitL (9 : Int) (txtS s) (wrap64 ((1 : Int) + pickI size (16 : Int))))) : Int))) (d_bool)) = false → List.length (Gather.parts (putG (g1W s size order raw k) (2 : Int) (List.getD (splitL (9 : Int) (txtS s) (wrap64 ((1 : Int) + pickI size (16 : Int)))) (Int.toNat (pickI (List.getD order (Int.toNat (↑k : Int)) (d_int)) (↑(List.length (splitL (9 : Int) (txtS s) (wrap64 ((1 : Int) + pickI size (16 : Int))))) : Int))) (d_piece)))) ≤ (1000000 : Nat) ∧ ((!wholeB (putG (g1W s size order raw k) (2 : Int) (List.getD (splitL (9 : Int) (txtS s) (wrap64 ((1 : Int) + pickI size (16 : Int)))) (Int.toNat (pickI (List.getD order (Int.toNat (↑k : Int)) (d_int)) (↑(List.length (splitL (9 : Int) (txtS s) (wrap64 ((1 : Int) + pickI size (16 : Int))))) : Int))) (d_piece))) == ((↑(manyW (hadW order (nW s size) k)) : Int) == (↑(List.length (splitL (9 : Int) (txtS s) (wrap64 ((1 : Int) + pickI size (16 : Int))))) : Int)) || wholeB (putG (g1W s size order raw k) (2 : Int) (List.getD (splitL (9 : Int) (txtS s) (wrap64 ((1 : Int) + pickI size (16 : Int)))) (Int.toNat (pickI (List.getD order (Int.toNat (↑k : Int)) (d_int)) (↑(List.length (splitL (9 : Int) (txtS s) (wrap64 ((1 : Int) + pickI size (16 : Int))))) : Int))) (d_piece))) && !wholeS (putG (g1W s size order raw k) (2 : Int) (List.getD (splitL (9 : Int) (txtS s) (wrap64 ((1 : Int) + pickI size (16 : Int)))) (Int.toNat (pickI (List.getD order (Int.toNat (↑k : Int)) (d_int)) (↑(List.length (splitL (9 : Int) (txtS s) (wrap64 ((1 : Int) + pickI size (16 : Int))))) : Int))) (d_piece))) == txtS s) = true → Out.one (U := U) (D.mk false [CV.v (Value.bool false)]) = Out.one (U := U) (D.mk false [CV.v (Value.bool true)])) ∧ ((!wholeB (putG (g1W s size order raw k) (2 : Int) (List.getD (splitL (9 : Int) (txtS s) (wrap64 ((1 : Int) + pickI size (16 : Int)))) (Int.toNat (pickI (List.getD order (Int.toNat (↑k : Int)) (d_int)) (↑(List.length (splitL (9 : Int) (txtS s) (wrap64 ((1 : Int) + pickI size (16 : Int))))) : Int))) (d_piece))) == ((↑(manyW (hadW order (nW s size) k)) : Int) == (↑(List.length (splitL (9 : Int) (txtS s) (wrap64 ((1 : Int) + pickI size (16 : Int))))) : Int)) || wholeB (putG (g1W s size order raw k) (2 : Int) (List.getD (splitL (9 : Int) (txtS s) (wrap64 ((1 : Int) + pickI size (16 : Int)))) (Int.toNat (pickI (List.getD order (Int.toNat (↑k : Int)) (d_int)) (↑(List.length (splitL (9 : Int) (txtS s) (wrap64 ((1 : Int) + pickI size (16 : Int))))) : Int))) (d_piece))) && !wholeS (putG (g1W s size order raw k) (2 : Int) (List.getD (splitL (9 : Int) (txtS s) (wrap64 ((1 : Int) + pickI size (16 : Int)))) (Int.toNat (pickI (List.getD order (Int.toNat (↑k : Int)) (d_int)) (↑(List.length (splitL (9 : Int) (txtS s) (wrap64 ((1 : Int) + pickI size (16 : Int))))) : Int))) (d_piece))) == txtS s) = false → k < ordN order ∧ True ∧ Value.int IntKind.i64 (wrap64 ((↑k : Int) + (1 : Int))) = Value.int IntKind.i64 (↑(k + (1 : Nat)) : Int) ∧ Value.int IntKind.i64 (↑(manyW (hadW order (nW s size) k)) : Int) = Value.int IntKind.i64 (↑(manyW (hadW order (nW s size) (k + (1 : Nat)))) : Int) ∧ hadW order (nW s size) k = hadW order (nW s size) (k + (1 : Nat)) ∧ Value.int IntKind.i64 (Gather.inc (putG (g1W s size order raw k) (2 : Int) (List.getD (splitL (9 : Int) (txtS s) (wrap64 ((1 : Int) + pickI size (16 : Int)))) (Int.toNat (pickI (List.getD order (Int.toNat (↑k : Int)) (d_int)) (↑(List.length (splitL (9 : Int) (txtS s) (wrap64 ((1 : Int) + pickI size (16 : Int))))) : Int))) (d_piece)))) = Value.int IntKind.i64 (Gather.inc (g1W s size order raw (k + (1 : Nat)))) ∧ Value.int IntKind.i64 (Gather.seq (putG (g1W s size order raw k) (2 : Int) (List.getD (splitL (9 : Int) (txtS s) (wrap64 ((1 : Int) + pickI size (16 : Int)))) (Int.toNat (pickI (List.getD order (Int.toNat (↑k : Int)) (d_int)) (↑(List.length (splitL (9 : Int) (txtS s) (wrap64 ((1 : Int) + pickI size (16 : Int))))) : Int))) (d_piece)))) = Value.int IntKind.i64 (Gather.seq (g1W s size order raw (k + (1 : Nat)))) ∧ True ∧ Gather.parts (putG (g1W s size order raw k) (2 : Int) (List.getD (splitL (9 : Int) (txtS s) (wrap64 ((1 : Int) + pickI size (16 : Int)))) (Int.toNat (pickI (List.getD order (Int.toNat (↑k : Int)) (d_int)) (↑(List.length (splitL (9 : Int) (txtS s) (wrap64 ((1 : Int) + pickI size (16 : Int))))) : Int))) (d_piece))) = Gather.parts (g1W s size order raw (k + (1 : Nat))))))) ∧ ((decide ((↑k : Int) < (↑(List.length order) : Int)) && decide ((↑k : Int) < (40 : Int))) = false → True ∧ (Value.int IntKind.i64 (0 : Int) = Value.int IntKind.i64 (0 : Int) ∧ Value.int IntKind.i64 (Gather.inc (g1W s size order raw k)) = Value.int IntKind.i64 (Gather.inc (g2W s size order raw (0 : Nat))) ∧ Value.int IntKind.i64 (Gather.seq (g1W s size order raw k)) = Value.int IntKind.i64 (Gather.seq (g2W s size order raw (0 : Nat))) ∧ True ∧ Gather.parts (g1W s size order raw k) = Gather.parts (g2W s size order raw (0 : Nat))) ∧ ∀ (k_1 : Nat), k_1 ≤ nW s size → True → (decide ((↑k_1 : Int) < (↑(List.length (splitL (9 : Int) (txtS s) (wrap64 ((1 : Int) + pickI size (16 : Int))))) : Int)) = true → ((0 : Int) ≤ (↑k_1 : Int) ∧ (↑k_1 : Int) < (↑(List.length (splitL (9 : Int) (txtS s) (wrap64 ((1 : Int) + pickI size (16 : Int))))) : Int)) ∧ List.length (Gather.parts (g2W s size order raw k_1)) ≤ (1000000 : Nat) ∧ ((er1 (putB (g2W s size order raw k_1) (2 : Int) (List.getD (splitL (9 : Int) (txtS s) (wrap64 ((1 : Int) + pickI size (16 : Int)))) (Int.toNat (↑k_1 : Int)) (d_piece))) != (0 : Int)) = true → Out.one (U := U) (D.mk false [CV.v (Value.bool false)]) = Out.one (U := U) (D.mk false [CV.v (Value.bool true)])) ∧ ((er1 (putB (g2W s size order raw k_1) (2 : Int) (List.getD (splitL (9 : Int) (txtS s) (wrap64 ((1 : Int) + pickI size (16 : Int)))) (Int.toNat (↑k_1 : Int)) (d_piece))) != (0 : Int)) = false → k_1 < nW s size ∧ True ∧ hadW order (nW s size) k = hadW order (nW s size) k ∧ Value.int IntKind.i64 (wrap64 ((↑k_1 : Int) + (1 : Int))) = Value.int IntKind.i64 (↑(k_1 + (1 : Nat)) : Int) ∧ Value.int IntKind.i64 (Gather.inc (putG (g2W s size order raw k_1) (2 : Int) (List.getD (splitL (9 : Int) (txtS s) (wrap64 ((1 : Int) + pickI size (16 : Int)))) (Int.toNat (↑k_1 : Int)) (d_piece)))) = Value.int IntKind.i64 (Gather.inc (g2W s size order raw (k_1 + (1 : Nat)))) ∧ Value.int IntKind.i64 (Gather.seq (putG (g2W s size order raw k_1) (2 : Int) (List.getD (splitL (9 : Int) (txtS s) (wrap64 ((1 : Int) + pickI size (16 : Int)))) (Int.toNat (↑k_1 : Int)) (d_piece)))) = Value.int IntKind.i64 (Gather.seq (g2W s size order raw (k_1 + (1 : Nat)))) ∧ True ∧ Gather.parts (putG (g2W s size order raw k_1) (2 : Int) (List.getD (splitL (9 : Int) (txtS s) (wrap64 ((1 : Int) + pickI size (16 : Int)))) (Int.toNat (↑k_1 : Int)) (d_piece))) = Gather.parts (g2W s size order raw (k_1 + (1 : Nat))))) ∧ (decide ((↑k_1 : Int) < (↑(List.length (splitL (9 : Int) (txtS s) (wrap64 ((1 : Int) + pickI size (16 : Int))))) : Int)) = false → List.length (Gather.parts (g2W s size order raw k_1)) ≤ (1000000 : Nat) ∧ True ∧ Value.int IntKind.i64 (0 : Int) = Value.int IntKind.i64 (0 : Int) ∧ ∀ (k_2 : Nat), k_2 ≤ gatN raw → True → ((decide ((↑k_2 : Int) < (↑(List.length raw) : Int)) && decide ((↑k_2 : Int) < (10 : Int))) = true → ((0 : Int) ≤ (↑k_2 : Int) ∧ (↑k_2 : Int) < (↑(List.length raw) : Int)) ∧ (((-9223372036854775808 : Int) ≤ A4.a (List.getD raw (Int.toNat (↑k_2 : Int)) (d_a4)) ∧ A4.a (List.getD raw (Int.toNat (↑k_2 : Int)) (d_a4)) ≤ (9223372036854775807 : Int)) ∧ ((-9223372036854775808 : Int) ≤ A4.b (List.getD raw (Int.toNat (↑k_2 : Int)) (d_a4)) ∧ A4.b (List.getD raw (Int.toNat (↑k_2 : Int)) (d_a4)) ≤ (9223372036854775807 : Int)) ∧ ((-9223372036854775808 : Int) ≤ A4.c (List.getD raw (Int.toNat (↑k_2 : Int)) (d_a4)) ∧ A4.c (List.getD raw (Int.toNat (↑k_2 : Int)) (d_a4)) ≤ (9223372036854775807 : Int)) ∧ (-9223372036854775808 : Int) ≤ A4.d (List.getD raw (Int.toNat (↑k_2 : Int)) (d_a4)) ∧ A4.d (List.getD raw (Int.toNat (↑k_2 : Int)) (d_a4)) ≤ (9223372036854775807 : Int)) ∧ List.length (Gather.parts (g2W s size order raw k_1)) ≤ (1000000 : Nat) ∧ ((!er1 (putB (g2W s size order raw k_1) (pcI (List.getD raw (Int.toNat (↑k_2 : Int)) (d_a4))) (pcP (List.getD raw (Int.toNat (↑k_2 : Int)) (d_a4)))) != (0 : Int)) = true → List.length (Gather.parts (putG (g2W s size order raw k_1) (pcI (List.getD raw (Int.toNat (↑k_2 : Int)) (d_a4))) (pcP (List.getD raw (Int.toNat (↑k_2 : Int)) (d_a4))))) ≤ (1000000 : Nat)) ∧ ((er1 (putB (g2W s size order raw k_1) (pcI (List.getD raw (Int.toNat (↑k_2 : Int)) (d_a4))) (pcP (List.getD raw (Int.toNat (↑k_2 : Int)) (d_a4)))) != (0 : Int) || !(Gather.inc (putG (g2W s size order raw k_1) (pcI (List.getD raw (Int.toNat (↑k_2 : Int)) (d_a4))) (pcP (List.getD raw (Int.toNat (↑k_2 : Int)) (d_a4)))) == Gather.inc (g2W s size order raw k_1) && Gather.seq (putG (g2W s size order raw k_1) (pcI (List.getD raw (Int.toNat (↑k_2 : Int)) (d_a4))) (pcP (List.getD raw (Int.toNat (↑k_2 : Int)) (d_a4)))) == Gather.seq (g2W s size order raw k_1) && strsEq (Gather.parts (putG (g2W s size order raw k_1) (pcI (List.getD raw (Int.toNat (↑k_2 : Int)) (d_a4))) (pcP (List.getD raw (Int.toNat (↑k_2 : Int)) (d_a4))))) (Gather.parts (g2W s size order raw k_1)))) = true → Out.one (U := U) (D.mk false [CV.v (Value.bool false)]) = Out.one (U := U) (D.mk false [CV.v (Value.bool true)])) ∧ ((er1 (putB (g2W s size order raw k_1) (pcI (List.getD raw (Int.toNat (↑k_2 : Int)) (d_a4))) (pcP (List.getD raw (Int.toNat (↑k_2 : Int)) (d_a4)))) != (0 : Int) || !(Gather.inc (putG (g2W s size order raw k_1) (pcI (List.getD raw (Int.toNat (↑k_2 : Int)) (d_a4))) (pcP (List.getD raw (Int.toNat (↑k_2 : Int)) (d_a4)))) == Gather.inc (g2W s size order raw k_1) && Gather.seq (putG (g2W s size order raw k_1) (pcI (List.getD raw (Int.toNat (↑k_2 : Int)) (d_a4))) (pcP (List.getD raw (Int.toNat (↑k_2 : Int)) (d_a4)))) == Gather.seq (g2W s size order raw k_1) && strsEq (Gather.parts (putG (g2W s size order raw k_1) (pcI (List.getD raw (Int.toNat (↑k_2 : Int)) (d_a4))) (pcP (List.getD raw (Int.toNat (↑k_2 : Int)) (d_a4))))) (Gather.parts (g2W s size order raw k_1)))) = false → k_2 < gatN raw ∧ True ∧ hadW order (nW s size) k = hadW order (nW s size) k ∧ Value.int IntKind.i64 (wrap64 ((↑k_2 : Int) + (1 : Int))) = Value.int IntKind.i64 (↑(k_2 + (1 : Nat)) : Int))) ∧ ((decide ((↑k_2 : Int) < (↑(List.length raw) : Int)) && decide ((↑k_2 : Int) < (10 : Int))) = false → Out.one (U := U) (D.mk false [CV.v (Value.bool (true && wholeB (g2W s size order raw k_1) && wholeS (g2W s size order raw k_1) == txtS s))]) = Out.one (U := U) (D.mk false [CV.v (Value.bool true)]))))), by kernel_rfl, ?_⟩
      obtain ⟨pz, pO, pR⟩ := hp
      unfold in64 at pz
      have ed : d_int = (0 : Int) := rfl
      have eb : d_bool = false := rfl
      have hz := zW_rng size
      have hn := nW_rng s size
      rw [w64 (x := 1 + pickI size 16) (by omega), hz.2.2, len_W, er_zero (split_W s size)]
      have hget := get_W s size
      generalize splitL 9 (txtS s) (zW size : Int) = L at hget
      have bnd : ∀ {g : Gather}, gatherM g = true → g.parts.length ≤ 1000000 := fun h => Nat.le_trans (gatherM_parts h).1 (by decide)
      have F1 := F1W s size order raw
      have F2 := F2W s size order raw
      have O1 := one1W s size order raw
      have E1 := end_W s size order raw
      have E2 := old_W s size order raw
      refine ⟨⟨pz, by decide⟩, fun h => ?_, fun _ => ⟨pR, ⟨rfl, by omega, by omega⟩, trivial, ⟨rfl, ?_, ?_, rfl, rfl, trivial, rfl⟩, fun k hk _ => ⟨fun hlt => ?_, fun hge => ?_⟩⟩⟩
      · exfalso
        simp only [bne_self_eq_false, Bool.false_or] at h
        have := eq_of_beq h
        omega
      · have : manyW (List.replicate (nW s size) false) = 0 := by
          unfold manyW
          rw [List.count_replicate, if_neg (by decide)]
        show Value.int IntKind.i64 0 = Value.int IntKind.i64 ((manyW (List.replicate (nW s size) false) : Nat) : Int)
        rw [this]; rfl
      · rw [Int.toNat_natCast]; rfl
      · simp only [Bool.and_eq_true, decide_eq_true_eq] at hlt
        have hko : k < order.length := by omega
        have hkN : k < ordN order := by unfold ordN; split <;> omega
        have hg0 : order.getD k 0 = order[k] := by rw [List.getD_eq_getElem?_getD, List.getElem?_eq_getElem hko]; rfl
        have in0 : -9223372036854775808 ≤ order.getD k 0 ∧ order.getD k 0 ≤ 9223372036854775807 := by
          rw [hg0]; exact pO _ (List.getElem_mem hko)
        have rp := pickI_rng (order.getD k 0) (nW s size : Int) (by omega)
        have hiw : (pickI (order.getD k 0) (nW s size : Int)).toNat = iW order (nW s size) k := rfl
        have hi := iW_lt order (nW s size) k (by omega)
        obtain ⟨f1, f2, f3⟩ := F1 k
        obtain ⟨f4, _, _⟩ := F1 (k + 1)
        obtain ⟨o1, o2⟩ := O1 k
        have hl := hadW_length order (nW s size) k
        have hml := many_le (hadW order (nW s size) k)
        rw [Int.toNat_natCast, ed, hiw, hget _ hi, f2, er_zero f3, hl, eb]
        refine ⟨⟨by omega, by omega⟩, ⟨in0, by omega, by omega⟩, rp, bnd f1, fun h => (by cases h), fun _ => ⟨rp, fun hh => ?_, fun hh => ?_⟩⟩
        · have hh : (hadW order (nW s size) k).getD (iW order (nW s size) k) false = false := by
            rw [Bool.not_eq_true'] at hh; exact hh
          have hm : manyW (hadW order (nW s size) (k + 1)) = manyW (hadW order (nW s size) k) + 1 := many_set _ _ (by rw [hl]; exact hi) hh
          have hm2 : wrap64 ((manyW (hadW order (nW s size) k) : Int) + 1) = (manyW (hadW order (nW s size) (k + 1)) : Int) := by
            rw [hm, w64 (by omega)]; rfl
          rw [hm2, cond_W o1 o2]
          exact ⟨rp, bnd f4, fun h => (by cases h), fun _ => ⟨hkN, trivial, by rw [w64 (by omega)]; rfl, rfl, rfl, rfl, rfl, trivial, rfl⟩⟩
        · have hh : (hadW order (nW s size) k).getD (iW order (nW s size) k) false = true := by
            rw [Bool.not_eq_false'] at hh; exact hh
          have hs : hadW order (nW s size) k = hadW order (nW s size) (k + 1) := (set_same _ _ hh).symm
          rw [hs, cond_W o1 o2]
          exact ⟨bnd f4, fun h => (by cases h), fun _ => ⟨hkN, trivial, by rw [w64 (by omega)]; rfl, rfl, rfl, rfl, rfl, trivial, rfl⟩⟩
      · have hkN : k = ordN order := by
          simp only [Bool.and_eq_false_iff, decide_eq_false_iff_not] at hge
          unfold ordN at hk ⊢
          split at hk <;> split <;> omega
        have e0 : g1W s size order raw k = g2W s size order raw 0 := by subst hkN; rfl
        rw [e0]
        refine ⟨trivial, ⟨rfl, rfl, rfl, trivial, rfl⟩, fun j hj _ => ⟨fun hlj => ?_, fun hgj => ?_⟩⟩
        · have hlj := of_decide_eq_true hlj
          have hjN : j < nW s size := by omega
          obtain ⟨f1, f2⟩ := F2 j hj
          obtain ⟨f2, f3⟩ := f2 hjN
          rw [Int.toNat_natCast, hget _ hjN, f2, er_zero f3]
          exact ⟨⟨by omega, hlj⟩, bnd f1, fun h => (by cases h), fun _ => ⟨hjN, trivial, rfl, by rw [w64 (by omega)]; rfl, rfl, rfl, trivial, rfl⟩⟩
        · have hgj := of_decide_eq_false hgj
          have hjN : j = nW s size := by omega
          subst hjN
          obtain ⟨f1, _⟩ := F2 _ hj
          refine ⟨bnd f1, trivial, rfl, fun i hi _ => ⟨fun hli => ?_, fun _ => ?_⟩⟩
          · simp only [Bool.and_eq_true, decide_eq_true_eq] at hli
            have hir : i < raw.length := by omega
            have hiN : i < gatN raw := by unfold gatN; split <;> omega
            rw [Int.toNat_natCast]
            have e1 : raw.getD i d_a4 = raw[i] := by rw [List.getD_eq_getElem?_getD, List.getElem?_eq_getElem hir]; rfl
            have ok : okA4 (raw.getD i d_a4) := by rw [e1]; exact pR _ (List.getElem_mem hir)
            generalize raw.getD i d_a4 = r at ok
            obtain ⟨q1, q2⟩ := E2 r
            rw [q1, er_zero q2]
            refine ⟨⟨by omega, by omega⟩, ok, bnd f1, fun _ => bnd f1, fun h => ?_, fun _ => ⟨hiN, trivial, rfl, by rw [w64 (by omega)]; rfl⟩⟩
            simp only [strs_self, beq_self_eq_true, bne_self_eq_false, Bool.and_self, Bool.not_true, Bool.or_false, Bool.false_eq_true] at h
          · rw [E1.1, E1.2, ba_self]; rfl
    · cases hg

end Go.Proofs.Ytelpblhhpdonkaa.X
