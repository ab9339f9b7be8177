/- The law's own words: raw pieces, what was gathered of them, and its first calls. -/
import Derived.Test.YtelpblhhpdonkaaRJoin05
import Derived.Test.YtelpblhhpdonkaaRFdec
namespace Go.Proofs.Ytelpblhhpdonkaa.X
open Go Go.RX Go.RowKit Go.Proofs
set_option linter.unusedVariables false
set_option linter.unusedSimpArgs false
theorem pickI_rng (c n : Int) (h : 0 < n) : 0 ≤ pickI c n ∧ pickI c n < n := ⟨Int.emod_nonneg _ (by omega), Int.emod_lt_of_pos _ h⟩
def okA4 (r : A4) : Prop := in64 r.a ∧ in64 r.b ∧ in64 r.c ∧ in64 r.d
def txtS (s : ByteArray) : ByteArray := if s.size = 0 then ⟨#[120]⟩ else s.extract 0 (min s.size 20)
def abcS : ByteArray := ⟨#[97, 98, 99, 100, 101, 102, 103, 104, 105, 106]⟩
def pcI (r : A4) : Int := 1 + pickI r.a 2
def pcT (r : A4) : ByteArray := abcS.extract 0 (1 + pickI r.c 9).toNat
def pcL (r : A4) : List Piece := splitL (1 + pickI r.b 3) (pcT r) (1 + pickI r.c 4)
def pcP (r : A4) : Piece := (pcL r).getD (pickI r.d ((pcL r).length : Int)).toNat d_piece
def gatK (raw : List A4) : Nat → Gather
  | 0 => ⟨0, 0, []⟩
  | k + 1 => putG (gatK raw k) (pcI (raw.getD k d_a4)) (pcP (raw.getD k d_a4))
def gatN (raw : List A4) : Nat := if raw.length < 10 then raw.length else 10
def gatL (raw : List A4) : Gather := gatK raw (gatN raw)
/-! ### What pieces are -/
theorem abc_size : abcS.size = 10 := rfl
theorem chunk_size {s : ByteArray} {z k : Nat} : (chunk s z k).size = min (k * z + z) s.size - k * z := by
  unfold chunk; rw [ByteArray.size_extract]; omega
theorem ofN_pos {s : ByteArray} {z : Nat} (hz : 1 ≤ z) (hs : 1 ≤ s.size) : 1 ≤ ofN s z := by
  have := (ofN_lt (s := s) hz 0).mpr (by omega); omega
theorem ofN_le {s : ByteArray} {z : Nat} (hz : 1 ≤ z) : ofN s z ≤ s.size := by
  have h1 := (ofN_lt (s := s) (z := z) hz s.size).mp
  have h2 : s.size * 1 ≤ s.size * z := Nat.mul_le_mul_left _ hz
  rcases Nat.lt_or_ge s.size (ofN s z) with q | q
  · have := h1 q; omega
  · exact q
theorem splitB_is {sq : Int} {s : ByteArray} {z : Int} (h : splitB sq s z = true) : (1 ≤ sq ∧ sq ≤ 65535) ∧ (1 ≤ s.size ∧ s.size ≤ 20) ∧ 1 ≤ z ∧ z ≤ 16 := by
  unfold splitB at h
  simp only [Bool.and_eq_true, btw_iff] at h
  omega
theorem splitL_len {sq : Int} {s : ByteArray} {z : Int} (h : splitB sq s z = true) : (splitL sq s z).length = ofN s z.toNat := by
  unfold splitL; rw [if_pos h]; exact mixK_length ..
theorem splitL_get {sq : Int} {s : ByteArray} {z : Int} (h : splitB sq s z = true) (k : Nat) (hk : k < ofN s z.toNat) (d : Piece) : (splitL sq s z).getD k d = ⟨sq, (k : Int), (ofN s z.toNat : Int), chunk s z.toNat k⟩ := by
  unfold splitL splitP; rw [if_pos h]
  have hl : k < (mixK sq s z.toNat (ofN s z.toNat) (ofN s z.toNat) (ofN s z.toNat : Int)).length := by rw [mixK_length]; exact hk
  rw [List.getD_eq_getElem?_getD, List.getElem?_eq_getElem hl, Option.getD_some, mixK_get, if_pos hk]
theorem splitL_right {sq : Int} {s : ByteArray} {z : Int} (h : splitB sq s z = true) (k : Nat) (hk : k < ofN s z.toNat) (d : Piece) : pieceR ((splitL sq s z).getD k d) = true := by
  rw [splitL_get h k hk]
  obtain ⟨h1, h2, h3, h4⟩ := splitB_is h
  have hz : 1 ≤ z.toNat := by omega
  have hc := (ofN_lt (s := s) hz k).mp hk
  have hle := ofN_le (s := s) hz
  unfold pieceR
  simp only [Bool.and_eq_true, btw_iff, chunk_size]
  omega
theorem pcT_size (r : A4) : (pcT r).size = (1 + pickI r.c 9).toNat ∧ 1 ≤ (pcT r).size ∧ (pcT r).size ≤ 9 := by
  have h := pickI_rng r.c 9 (by decide)
  have h2 : (pcT r).size = (1 + pickI r.c 9).toNat := by unfold pcT; rw [ByteArray.size_extract, abc_size]; omega
  omega
theorem pc_split (r : A4) : splitB (1 + pickI r.b 3) (pcT r) (1 + pickI r.c 4) = true := by
  have h1 := pickI_rng r.b 3 (by decide)
  have h2 := pcT_size r
  have h3 := pickI_rng r.c 4 (by decide)
  unfold splitB
  simp only [Bool.and_eq_true, btw_iff]
  omega
theorem pcL_len (r : A4) : (pcL r).length = ofN (pcT r) (1 + pickI r.c 4).toNat ∧ 1 ≤ (pcL r).length ∧ (pcL r).length ≤ 9 := by
  have h1 : (pcL r).length = _ := splitL_len (pc_split r)
  have h3 := pickI_rng r.c 4 (by decide)
  have h2 := pcT_size r
  have h4 := ofN_pos (s := pcT r) (z := (1 + pickI r.c 4).toNat) (by omega) h2.2.1
  have h5 := ofN_le (s := pcT r) (z := (1 + pickI r.c 4).toNat) (by omega)
  omega
theorem pcP_right (r : A4) : pieceR (pcP r) = true := by
  have h1 := pcL_len r
  have h2 := pickI_rng r.d ((pcL r).length : Int) (by omega)
  exact splitL_right (pc_split r) _ (by rw [← h1.1]; omega) _
theorem pcP_seq (r : A4) : (pcP r).seq = 1 + pickI r.b 3 := by
  have h1 := pcL_len r
  have h2 := pickI_rng r.d ((pcL r).length : Int) (by omega)
  have h3 : (pickI r.d ((pcL r).length : Int)).toNat < ofN (pcT r) (1 + pickI r.c 4).toNat := by rw [← h1.1]; omega
  have h4 := splitL_get (pc_split r) _ h3 d_piece
  show ((splitL (1 + pickI r.b 3) (pcT r) (1 + pickI r.c 4)).getD (pickI r.d ((pcL r).length : Int)).toNat d_piece).seq = _
  rw [h4]
/-! ### What was gathered may be -/
theorem put_may {g : Gather} {inc : Int} {p : Piece} (h : gatherM g = true) : gatherM (putG g inc p) = true := by
  cases hB : putB g inc p with
  | false => rw [put_no hB]; exact h
  | true =>
    cases ho : putOld g inc p with
    | true => rw [put_old ho]; exact h
    | false =>
      rw [put_new hB ho]
      have hb := hB
      unfold putB at hb
      simp only [Bool.and_eq_true] at hb
      obtain ⟨⟨_, hp⟩, hi⟩ := hb
      have hi := btw_iff.mp hi
      obtain ⟨q1, q2, q3, q4⟩ := pieceR_is hp
      -- the row ahead
      have key : ∀ l : List ByteArray, l.length = p.of_.toNat → l.all okPart = true → l.all okPart = true ∧ (putL l p).length = l.length ∧ (putL l p).all okPart = true ∧ anyS (putL l p) = true := fun l hl ha => by
        have hat : p.at_.toNat < l.length := by omega
        have hpb : okPart p.bytes = true := decide_eq_true (by omega)
        cases hg : (l.getD p.at_.toNat .empty == .empty) with
        | true =>
          rw [putL_set hg]
          refine ⟨ha, List.length_set .., ?_, ?_⟩
          · refine List.all_eq_true.mpr fun x hx => ?_
            rcases List.mem_or_eq_of_mem_set hx with q | q
            · exact List.all_eq_true.mp ha x q
            · rw [q]; exact hpb
          · refine List.any_eq_true.mpr ⟨p.bytes, List.mem_iff_getElem.mpr ⟨p.at_.toNat, by rw [List.length_set]; exact hat, by rw [List.getElem_set_self]⟩, ?_⟩
            rw [bne, ba_beq, Bool.not_eq_true', decide_eq_false_iff_not]
            intro c
            rw [c] at q4
            have : (ByteArray.empty).size = 0 := rfl
            omega
        | false =>
          rw [putL_not hg]
          refine ⟨ha, rfl, ha, ?_⟩
          rw [List.getD_eq_getElem?_getD, List.getElem?_eq_getElem hat, Option.getD_some] at hg
          exact List.any_eq_true.mpr ⟨l[p.at_.toNat], List.getElem_mem hat, by rw [bne, hg]; rfl⟩
      have mk : ∀ (a b : Int) (l : List ByteArray), 1 ≤ a ∧ a ≤ 65535 → 1 ≤ b ∧ b ≤ 65535 → l.length ≤ 20 → l.all okPart = true → anyS l = true → gatherM ⟨a, b, l⟩ = true := fun a b l h1 h2 h3 h4 h5 => by
        unfold gatherM
        rw [if_neg (by rintro ⟨c, _⟩; have c : a = 0 := c; omega)]
        show (btw a 1 65535 && btw b 1 65535 && decide (l.length ≤ 20) && l.all okPart && anyS l) = true
        rw [btw_iff.mpr h1, btw_iff.mpr h2, decide_eq_true h3, h4, h5]; rfl
      by_cases hc : g.inc = inc ∧ g.seq = p.seq ∧ (g.parts.length : Int) = p.of_
      · rw [putO_same hc]
        obtain ⟨k1, k2, k3, k4⟩ := key g.parts (by omega) (gatherM_parts h).2
        exact mk _ _ _ (by rw [hc.1]; exact hi) (by rw [hc.2.1]; exact q1) (by rw [k2]; omega) k3 k4
      · rw [putO_new hc]
        obtain ⟨k1, k2, k3, k4⟩ := key (List.replicate p.of_.toNat .empty) (List.length_replicate ..) (List.all_eq_true.mpr fun x hx => by rw [(List.mem_replicate.mp hx).2]; rfl)
        exact mk _ _ _ hi q1 (by rw [k2, List.length_replicate]; omega) k3 k4
theorem gatK_may (raw : List A4) : ∀ k, gatherM (gatK raw k) = true
  | 0 => rfl
  | k + 1 => put_may (gatK_may raw k)
theorem gatK_len (raw : List A4) (k : Nat) : (gatK raw k).parts.length ≤ 20 := (gatherM_parts (gatK_may raw k)).1
def pick05_S : RX.Spec U := fun
  | [⟨false, [.v (.int .i64 c)]⟩, ⟨false, [.v (.int .i64 n)]⟩] => some ⟨some ((in64 c ∧ 0 < n ∧ n ≤ 1000000000)), (.one ⟨false, [.v (.int .i64 (pickI c n))]⟩)⟩
  | _ => none

theorem pick05_ok : ConOk Try.prog U GV 11 pick05_S :=
  fn_go gs ty glok conNil Try.func11 (by kernel_rfl) fun ds r hg hp => by
    unfold pick05_S at hg
    split at hg
    · rename_i c n
      cases hg
      replace hp : ((in64 c ∧ 0 < n ∧ n ≤ 1000000000)) := hp
      refine ⟨fun _ _ => none, (decide (c < (0 : Int)) = true → n ≠ (0 : Int) ∧ Out.one (U := U) (D.mk false [CV.v (Value.int IntKind.i64 (Int.tmod (wrap64 ((0 : Int) - wrap64 (c + (1 : Int)))) n))]) = Out.one (U := U) (D.mk false [CV.v (Value.int IntKind.i64 (pickI c n))])) ∧ (decide (c < (0 : Int)) = false → n ≠ (0 : Int) ∧ Out.one (U := U) (D.mk false [CV.v (Value.int IntKind.i64 (Int.tmod c n))]) = Out.one (U := U) (D.mk false [CV.v (Value.int IntKind.i64 (pickI c n))])), by kernel_rfl, ?_⟩
      unfold in64 at hp
      refine ⟨fun h => ⟨by omega, ?_⟩, fun h => ⟨by omega, ?_⟩⟩
      · have h' := of_decide_eq_true h
        simp only [Out.one.injEq, Out.tup.injEq, D.mk.injEq, List.cons.injEq, CV.v.injEq, CV.sl.injEq, Value.bool.injEq, Value.int.injEq, Value.string.injEq, and_true, true_and, heq_eq_eq]
        rw [pickI, if_pos h', w64 (x := c + 1) (by omega), w64 (by omega), Int.tmod_eq_emod_of_nonneg (by omega)]
        congr 1; omega
      · have h' := of_decide_eq_false h
        simp only [Out.one.injEq, Out.tup.injEq, D.mk.injEq, List.cons.injEq, CV.v.injEq, CV.sl.injEq, Value.bool.injEq, Value.int.injEq, Value.string.injEq, and_true, true_and, heq_eq_eq]
        rw [pickI, if_neg h', Int.tmod_eq_emod_of_nonneg (by omega)]
    · cases hg

def text05_S : RX.Spec U := fun
  | [⟨false, [.v (.string s)]⟩] => some ⟨none, (.one ⟨false, [.v (.string (txtS s))]⟩)⟩
  | _ => none

theorem text05_ok : ConOk Try.prog U GV 10 text05_S :=
  fn_go gs ty glok conNil Try.func10 (by kernel_rfl) fun ds r hg hp => by
    unfold text05_S at hg
    split at hg
    · rename_i s
      cases hg
      refine ⟨fun _ _ => none, ((s == ByteArray.mk (Array.mk [])) = true → Out.one (U := U) (D.mk false [CV.v (Value.string (ByteArray.mk (Array.mk [(120 : UInt8)])))]) = Out.one (U := U) (D.mk false [CV.v (Value.string (txtS s))])) ∧ ((s == ByteArray.mk (Array.mk [])) = false → (((0 : Int) ≤ if (20 : Int) < (↑(ByteArray.size s) : Int) then (20 : Int) else (↑(ByteArray.size s) : Int)) ∧ (if (20 : Int) < (↑(ByteArray.size s) : Int) then (20 : Int) else (↑(ByteArray.size s) : Int)) ≤ (↑(ByteArray.size s) : Int)) ∧ Out.one (U := U) (D.mk false [CV.v (Value.string (ByteArray.extract s (0 : Nat) (Int.toNat (if (20 : Int) < (↑(ByteArray.size s) : Int) then (20 : Int) else (↑(ByteArray.size s) : Int)))))]) = Out.one (U := U) (D.mk false [CV.v (Value.string (txtS s))])), by kernel_rfl, ?_⟩
      have e0 : ByteArray.mk (Array.mk []) = ByteArray.empty := rfl
      simp only [e0, ba_beq]
      refine ⟨fun h => ?_, fun h => ⟨by omega, ?_⟩⟩
      · have h := of_decide_eq_true h
        subst h
        rfl
      · have h := of_decide_eq_false h
        have hs : ¬ s.size = 0 := fun c => h (by
          apply ByteArray.ext
          have : s.data.size = 0 := c
          exact Array.eq_empty_of_size_eq_zero this)
        simp only [Out.one.injEq, Out.tup.injEq, D.mk.injEq, List.cons.injEq, CV.v.injEq, CV.sl.injEq, Value.bool.injEq, Value.int.injEq, Value.string.injEq, and_true, true_and, heq_eq_eq]
        unfold txtS
        rw [if_neg hs]
        congr 1
        omega
    · cases hg

def piece05_S : RX.Spec U := fun
  | [⟨true, [.v (.int .i64 a), .v (.int .i64 b), .v (.int .i64 c), .v (.int .i64 d)]⟩] => some ⟨some (okA4 ⟨a, b, c, d⟩), (.tup [⟨false, [.v (.int .i64 (pcI ⟨a, b, c, d⟩))]⟩, ⟨true, [.v (.int .i64 ((pcP ⟨a, b, c, d⟩).seq)), .v (.int .i64 ((pcP ⟨a, b, c, d⟩).at_)), .v (.int .i64 ((pcP ⟨a, b, c, d⟩).of_)), .v (.string ((pcP ⟨a, b, c, d⟩).bytes))]⟩])⟩
  | _ => none

theorem piece05_ok : ConOk Try.prog U GV 15 piece05_S :=
  fn_go gs ty glok (conCons pick05_ok (conCons r5Split_ok conNil)) Try.func15 (by kernel_rfl) fun ds r hg hp => by
    unfold piece05_S at hg
    split at hg
    · rename_i a b c d
      cases hg
      replace hp : (okA4 ⟨a, b, c, d⟩) := hp
      refine ⟨fun _ _ => none, ((0 : Int) ≤ (2 : Int) ∧ (2 : Int) < (4 : Int)) ∧ (((-9223372036854775808 : Int) ≤ c ∧ c ≤ (9223372036854775807 : Int)) ∧ (0 : Int) < (9 : Int) ∧ (9 : Int) ≤ (1000000000 : Int)) ∧ ((0 : Int) ≤ wrap64 ((1 : Int) + pickI c (9 : Int)) ∧ wrap64 ((1 : Int) + pickI c (9 : Int)) ≤ (10 : Int)) ∧ ((0 : Int) ≤ (1 : Int) ∧ (1 : Int) < (4 : Int)) ∧ (((-9223372036854775808 : Int) ≤ b ∧ b ≤ (9223372036854775807 : Int)) ∧ (0 : Int) < (3 : Int) ∧ (3 : Int) ≤ (1000000000 : Int)) ∧ ((0 : Int) ≤ (2 : Int) ∧ (2 : Int) < (4 : Int)) ∧ (((-9223372036854775808 : Int) ≤ c ∧ c ≤ (9223372036854775807 : Int)) ∧ (0 : Int) < (4 : Int) ∧ (4 : Int) ≤ (1000000000 : Int)) ∧ ((0 : Int) ≤ (0 : Int) ∧ (0 : Int) < (4 : Int)) ∧ (((-9223372036854775808 : Int) ≤ a ∧ a ≤ (9223372036854775807 : Int)) ∧ (0 : Int) < (2 : Int) ∧ (2 : Int) ≤ (1000000000 : Int)) ∧ ((0 : Int) ≤ (3 : Int) ∧ (3 : Int) < (4 : Int)) ∧ (((-9223372036854775808 : Int) ≤ d ∧ d ≤ (9223372036854775807 : Int)) ∧ (0 : Int) < (↑(List.length (splitL (wrap64 ((1 : Int) + pickI b (3 : Int))) (ByteArray.extract (ByteArray.mk (Array.mk [(97 : UInt8), (98 : UInt8), (99 : UInt8), (100 : UInt8), (101 : UInt8), (102 : UInt8), (103 : UInt8), (104 : UInt8), (105 : UInt8), (106 : UInt8)])) (0 : Nat) (Int.toNat (wrap64 ((1 : Int) + pickI c (9 : Int))))) (wrap64 ((1 : Int) + pickI c (4 : Int))))) : Int) ∧ (↑(List.length (splitL (wrap64 ((1 : Int) + pickI b (3 : Int))) (ByteArray.extract (ByteArray.mk (Array.mk [(97 : UInt8), (98 : UInt8), (99 : UInt8), (100 : UInt8), (101 : UInt8), (102 : UInt8), (103 : UInt8), (104 : UInt8), (105 : UInt8), (106 : UInt8)])) (0 : Nat) (Int.toNat (wrap64 ((1 : Int) + pickI c (9 : Int))))) (wrap64 ((1 : Int) + pickI c (4 : Int))))) : Int) ≤ (1000000000 : Int)) ∧ ((0 : Int) ≤ pickI d (↑(List.length (splitL (wrap64 ((1 : Int) + pickI b (3 : Int))) (ByteArray.extract (ByteArray.mk (Array.mk [(97 : UInt8), (98 : UInt8), (99 : UInt8), (100 : UInt8), (101 : UInt8), (102 : UInt8), (103 : UInt8), (104 : UInt8), (105 : UInt8), (106 : UInt8)])) (0 : Nat) (Int.toNat (wrap64 ((1 : Int) + pickI c (9 : Int))))) (wrap64 ((1 : Int) + pickI c (4 : Int))))) : Int) ∧ pickI d (↑(List.length (splitL (wrap64 ((1 : Int) + pickI b (3 : Int))) (ByteArray.extract (ByteArray.mk (Array.mk [(97 : UInt8), (98 : UInt8), (99 : UInt8), (100 : UInt8), (101 : UInt8), (102 : UInt8), (103 : UInt8), (104 : UInt8), (105 : UInt8), (106 : UInt8)])) (0 : Nat) (Int.toNat (wrap64 ((1 : Int) + pickI c (9 : Int))))) (wrap64 ((1 : Int) + pickI c (4 : Int))))) : Int) < (↑(List.length (splitL (wrap64 ((1 : Int) + pickI b (3 : Int))) (ByteArray.extract (ByteArray.mk (Array.mk [(97 : UInt8), (98 : UInt8), (99 : UInt8), (100 : UInt8), (101 : UInt8), (102 : UInt8), (103 : UInt8), (104 : UInt8), (105 : UInt8), (106 : UInt8)])) (0 : Nat) (Int.toNat (wrap64 ((1 : Int) + pickI c (9 : Int))))) (wrap64 ((1 : Int) + pickI c (4 : Int))))) : Int)) ∧ Out.tup (U := U) [D.mk false [CV.v (Value.int IntKind.i64 (wrap64 ((1 : Int) + pickI a (2 : Int))))], D.mk true [CV.v (Value.int IntKind.i64 (Piece.seq (List.getD (splitL (wrap64 ((1 : Int) + pickI b (3 : Int))) (ByteArray.extract (ByteArray.mk (Array.mk [(97 : UInt8), (98 : UInt8), (99 : UInt8), (100 : UInt8), (101 : UInt8), (102 : UInt8), (103 : UInt8), (104 : UInt8), (105 : UInt8), (106 : UInt8)])) (0 : Nat) (Int.toNat (wrap64 ((1 : Int) + pickI c (9 : Int))))) (wrap64 ((1 : Int) + pickI c (4 : Int)))) (Int.toNat (pickI d (↑(List.length (splitL (wrap64 ((1 : Int) + pickI b (3 : Int))) (ByteArray.extract (ByteArray.mk (Array.mk [(97 : UInt8), (98 : UInt8), (99 : UInt8), (100 : UInt8), (101 : UInt8), (102 : UInt8), (103 : UInt8), (104 : UInt8), (105 : UInt8), (106 : UInt8)])) (0 : Nat) (Int.toNat (wrap64 ((1 : Int) + pickI c (9 : Int))))) (wrap64 ((1 : Int) + pickI c (4 : Int))))) : Int))) (d_piece)))), CV.v (Value.int IntKind.i64 (Piece.at_ (List.getD (splitL (wrap64 ((1 : Int) + pickI b (3 : Int))) (ByteArray.extract (ByteArray.mk (Array.mk [(97 : UInt8), (98 : UInt8), (99 : UInt8), (100 : UInt8), (101 : UInt8), (102 : UInt8), (103 : UInt8), (104 : UInt8), (105 : UInt8), (106 : UInt8)])) (0 : Nat) (Int.toNat (wrap64 ((1 : Int) + pickI c (9 : Int))))) (wrap64 ((1 : Int) + pickI c (4 : Int)))) (Int.toNat (pickI d (↑(List.length (splitL (wrap64 ((1 : Int) + pickI b (3 : Int))) (ByteArray.extract (ByteArray.mk (Array.mk [(97 : UInt8), (98 : UInt8), (99 : UInt8), (100 : UInt8), (101 : UInt8), (102 : UInt8), (103 : UInt8), (104 : UInt8), (105 : UInt8), (106 : UInt8)])) (0 : Nat) (Int.toNat (wrap64 ((1 : Int) + pickI c (9 : Int))))) (wrap64 ((1 : Int) + pickI c (4 : Int))))) : Int))) (d_piece)))), CV.v (Value.int IntKind.i64 (Piece.of_ (List.getD (splitL (wrap64 ((1 : Int) + pickI b (3 : Int))) (ByteArray.extract (ByteArray.mk (Array.mk [(97 : UInt8), (98 : UInt8), (99 : UInt8), (100 : UInt8), (101 : UInt8), (102 : UInt8), (103 : UInt8), (104 : UInt8), (105 : UInt8), (106 : UInt8)])) (0 : Nat) (Int.toNat (wrap64 ((1 : Int) + pickI c (9 : Int))))) (wrap64 ((1 : Int) + pickI c (4 : Int)))) (Int.toNat (pickI d (↑(List.length (splitL (wrap64 ((1 : Int) + pickI b (3 : Int))) (ByteArray.extract (ByteArray.mk (Array.mk [(97 : UInt8), (98 : UInt8), (99 : UInt8), (100 : UInt8), (101 : UInt8), (102 : UInt8), (103 : UInt8), (104 : UInt8), (105 : UInt8), (106 : UInt8)])) (0 : Nat) (Int.toNat (wrap64 ((1 : Int) + pickI c (9 : Int))))) (wrap64 ((1 : Int) + pickI c (4 : Int))))) : Int))) (d_piece)))), CV.v (Value.string (Piece.bytes (List.getD (splitL (wrap64 ((1 : Int) + pickI b (3 : Int))) (ByteArray.extract (ByteArray.mk (Array.mk [(97 : UInt8), (98 : UInt8), (99 : UInt8), (100 : UInt8), (101 : UInt8), (102 : UInt8), (103 : UInt8), (104 : UInt8), (105 : UInt8), (106 : UInt8)])) (0 : Nat) (Int.toNat (wrap64 ((1 : Int) + pickI c (9 : Int))))) (wrap64 ((1 : Int) + pickI c (4 : Int)))) (Int.toNat (pickI d (↑(List.length (splitL (wrap64 ((1 : Int) + pickI b (3 : Int))) (ByteArray.extract (ByteArray.mk (Array.mk [(97 : UInt8), (98 : UInt8), (99 : UInt8), (100 : UInt8), (101 : UInt8), (102 : UInt8), (103 : UInt8), (104 : UInt8), (105 : UInt8), (106 : UInt8)])) (0 : Nat) (Int.toNat (wrap64 ((1 : Int) + pickI c (9 : Int))))) (wrap64 ((1 : Int) + pickI c (4 : Int))))) : Int))) (d_piece))))]] = Out.tup (U := U) [D.mk false [CV.v (Value.int IntKind.i64 (pcI (A4.mk a b c d)))], D.mk true [CV.v (Value.int IntKind.i64 (Piece.seq (pcP (A4.mk a b c d)))), CV.v (Value.int IntKind.i64 (Piece.at_ (pcP (A4.mk a b c d)))), CV.v (Value.int IntKind.i64 (Piece.of_ (pcP (A4.mk a b c d)))), CV.v (Value.string (Piece.bytes (pcP (A4.mk a b c d))))]], by kernel_rfl, ?_⟩
      unfold okA4 in64 at hp
      obtain ⟨p1, p2, p3, p4⟩ := hp
      have ra := pickI_rng a 2 (by decide)
      have rb := pickI_rng b 3 (by decide)
      have rc := pickI_rng c 4 (by decide)
      have rc9 := pickI_rng c 9 (by decide)
      rw [w64 (x := 1 + pickI a 2) (by omega), w64 (x := 1 + pickI b 3) (by omega), w64 (x := 1 + pickI c 4) (by omega), w64 (x := 1 + pickI c 9) (by omega)]
      have eL : splitL (1 + pickI b 3) (ByteArray.extract (ByteArray.mk (Array.mk [(97 : UInt8), (98 : UInt8), (99 : UInt8), (100 : UInt8), (101 : UInt8), (102 : UInt8), (103 : UInt8), (104 : UInt8), (105 : UInt8), (106 : UInt8)])) (0 : Nat) (Int.toNat (1 + pickI c 9))) (1 + pickI c 4) = pcL ⟨a, b, c, d⟩ := rfl
      rw [eL]
      have hl := pcL_len ⟨a, b, c, d⟩
      have rd := pickI_rng d ((pcL ⟨a, b, c, d⟩).length : Int) (by omega)
      exact ⟨by decide, ⟨p3, by decide⟩, by omega, by decide, ⟨p2, by decide⟩, by decide, ⟨p3, by decide⟩, by decide, ⟨p1, by decide⟩, by decide, ⟨p4, by omega⟩, rd, rfl⟩
    · cases hg

def gather05_S : RX.Spec U := fun
  | [⟨false, [.sl .a4 raw]⟩] => some ⟨some ((∀ r ∈ raw, okA4 r)), (.one ⟨true, [.v (.int .i64 ((gatL raw).inc)), .v (.int .i64 ((gatL raw).seq)), .sl .str ((gatL raw).parts)]⟩)⟩
  | _ => none

theorem gather05_ok : ConOk Try.prog U GV 22 gather05_S :=
  fn_go gs ty glok (conCons piece05_ok (conCons r5Put_ok conNil)) Try.func22 (by kernel_rfl) fun ds r hg hp => by
    unfold gather05_S at hg
    split at hg
    · rename_i raw
      obtain ⟨raw, rfl⟩ : ∃ q_ : List A4, q_ = raw := ⟨raw, rfl⟩
      cases hg
      replace hp : ((∀ r ∈ raw, okA4 r)) := hp
      refine ⟨fun st key => if key = 3 then some { N := gatN raw, mods := fun k => [.tv 4 (.int .i64 (k : Int)), .cv 3 0 (.int .i64 (gatK raw k).inc), .cv 3 1 (.int .i64 (gatK raw k).seq), .cr 3 2 .str (gatK raw k).parts false] } else none, True ∧ (Value.int IntKind.i64 (0 : Int) = Value.int IntKind.i64 (0 : Int) ∧ Value.int IntKind.i64 (0 : Int) = Value.int IntKind.i64 (Gather.inc (gatK raw (0 : Nat))) ∧ Value.int IntKind.i64 (0 : Int) = Value.int IntKind.i64 (Gather.seq (gatK raw (0 : Nat))) ∧ Gather.parts (gatK raw (0 : Nat)) = []) ∧ ∀ (k : Nat), k ≤ gatN raw → True → ((decide ((↑k : Int) < (↑(List.length raw) : Int)) && decide ((↑k : Int) < (10 : Int))) = true → ((0 : Int) ≤ (↑k : Int) ∧ (↑k : Int) < (↑(List.length raw) : Int)) ∧ (((-9223372036854775808 : Int) ≤ A4.a (List.getD raw (Int.toNat (↑k : Int)) (d_a4)) ∧ A4.a (List.getD raw (Int.toNat (↑k : Int)) (d_a4)) ≤ (9223372036854775807 : Int)) ∧ ((-9223372036854775808 : Int) ≤ A4.b (List.getD raw (Int.toNat (↑k : Int)) (d_a4)) ∧ A4.b (List.getD raw (Int.toNat (↑k : Int)) (d_a4)) ≤ (9223372036854775807 : Int)) ∧ ((-9223372036854775808 : Int) ≤ A4.c (List.getD raw (Int.toNat (↑k : Int)) (d_a4)) ∧ A4.c (List.getD raw (Int.toNat (↑k : Int)) (d_a4)) ≤ (9223372036854775807 : Int)) ∧ (-9223372036854775808 : Int) ≤ A4.d (List.getD raw (Int.toNat (↑k : Int)) (d_a4)) ∧ A4.d (List.getD raw (Int.toNat (↑k : Int)) (d_a4)) ≤ (9223372036854775807 : Int)) ∧ List.length (Gather.parts (gatK raw k)) ≤ (1000000 : Nat) ∧ k < gatN raw ∧ True ∧ Value.int IntKind.i64 (wrap64 ((↑k : Int) + (1 : Int))) = Value.int IntKind.i64 (↑(k + (1 : Nat)) : Int) ∧ Value.int IntKind.i64 (Gather.inc (putG (gatK raw k) (pcI (List.getD raw (Int.toNat (↑k : Int)) (d_a4))) (pcP (List.getD raw (Int.toNat (↑k : Int)) (d_a4))))) = Value.int IntKind.i64 (Gather.inc (gatK raw (k + (1 : Nat)))) ∧ Value.int IntKind.i64 (Gather.seq (putG (gatK raw k) (pcI (List.getD raw (Int.toNat (↑k : Int)) (d_a4))) (pcP (List.getD raw (Int.toNat (↑k : Int)) (d_a4))))) = Value.int IntKind.i64 (Gather.seq (gatK raw (k + (1 : Nat)))) ∧ True ∧ Gather.parts (putG (gatK raw k) (pcI (List.getD raw (Int.toNat (↑k : Int)) (d_a4))) (pcP (List.getD raw (Int.toNat (↑k : Int)) (d_a4)))) = Gather.parts (gatK raw (k + (1 : Nat)))) ∧ ((decide ((↑k : Int) < (↑(List.length raw) : Int)) && decide ((↑k : Int) < (10 : Int))) = false → Out.one (U := U) (D.mk true [CV.v (Value.int IntKind.i64 (Gather.inc (gatK raw k))), CV.v (Value.int IntKind.i64 (Gather.seq (gatK raw k))), CV.sl Kind.str (Gather.parts (gatK raw k))]) = Out.one (U := U) (D.mk true [CV.v (Value.int IntKind.i64 (Gather.inc (gatL raw))), CV.v (Value.int IntKind.i64 (Gather.seq (gatL raw))), CV.sl Kind.str (Gather.parts (gatL raw))])), by kernel_rfl, ?_⟩
      have hN : gatN raw ≤ 10 ∧ gatN raw ≤ raw.length := by unfold gatN; split <;> omega
      have hN2 : gatN raw = 10 ∨ gatN raw = raw.length := by unfold gatN; split <;> omega
      refine ⟨trivial, ⟨(by trivial), (by trivial), (by trivial), rfl⟩, fun k hk _ => ⟨fun hlt => ?_, fun hge => ?_⟩⟩
      · simp only [Bool.and_eq_true, decide_eq_true_eq] at hlt
        have hlt : k < raw.length ∧ k < gatN raw := by omega
        rw [getD_at raw k _ hlt.1]
        have ok := hp raw[k] (List.getElem_mem hlt.1)
        have e1 : raw.getD k d_a4 = raw[k] := by rw [List.getD_eq_getElem?_getD, List.getElem?_eq_getElem hlt.1]; rfl
        have e2 : gatK raw (k + 1) = putG (gatK raw k) (pcI raw[k]) (pcP raw[k]) := by rw [gatK, e1]
        have hl := gatK_len raw k
        rw [e2]
        refine ⟨by omega, ok, by omega, hlt.2, trivial, ?_, rfl, rfl, trivial, rfl⟩
        rw [w64 (by omega)]; rfl
      · simp only [Bool.and_eq_false_iff, decide_eq_false_iff_not] at hge
        have hkN : k = gatN raw := by omega
        subst hkN
        rfl
    · cases hg

def awake05_S : RX.Spec U := fun
  | [] => some ⟨none, (.one ⟨false, [.v (.bool true)]⟩)⟩
  | _ => none

theorem awake05_ok : ConOk Try.prog U GV 9 awake05_S :=
  fn_go gs ty glok (conCons fSplit_ok (conCons fPut_ok (conCons fWhole_ok (conCons fEncode_ok (conCons fDecode_ok (conCons fMay_ok (conCons fRight_ok conNil))))))) Try.func9 (by kernel_rfl) fun ds r hg hp => by
    unfold awake05_S at hg
    split at hg
    · cases hg
      refine ⟨fun _ _ => none, (false = true → Out.one (U := U) (D.mk false [CV.v (Value.bool false)]) = Out.one (U := U) (D.mk false [CV.v (Value.bool true)])) ∧ (false = false → ((0 : Int) ≤ (2 : Int) ∧ (2 : Int) < (3 : Int)) ∧ (0 : Nat) ≤ (1000000 : Nat) ∧ (3 : Nat) ≤ (1000000 : Nat) ∧ ((0 : Int) ≤ (0 : Int) ∧ (0 : Int) < (3 : Int)) ∧ (3 : Nat) ≤ (1000000 : Nat) ∧ ((0 : Int) ≤ (1 : Int) ∧ (1 : Int) < (3 : Int)) ∧ (3 : Nat) ≤ (1000000 : Nat) ∧ (3 : Nat) ≤ (1000000 : Nat) ∧ ((0 : Int) ≤ (2 : Int) ∧ (2 : Int) < (3 : Int)) ∧ (7 : Nat) ≤ (9223372036854775807 : Nat) ∧ ((0 : Int) ≤ (0 : Int) ∧ (0 : Int) < (3 : Int)) ∧ (3 : Nat) ≤ (1000000 : Nat) ∧ (true = true → (0 : Int) ≤ (2 : Int) ∧ (2 : Int) < (3 : Int)) ∧ (true = true → (0 : Int) ≤ (2 : Int) ∧ (2 : Int) < (3 : Int)) ∧ (true = true → (3 : Nat) ≤ (1000000 : Nat)) ∧ Out.one (U := U) (D.mk false [CV.v (Value.bool true)]) = Out.one (U := U) (D.mk false [CV.v (Value.bool true)])), by kernel_rfl, ?_⟩
      refine ⟨fun h => (by cases h), fun _ => ?_⟩
      exact ⟨by decide, by decide, by decide, by decide, by decide, by decide, by decide, by decide, by decide, by decide, by decide, by decide, fun _ => by decide, fun _ => by decide, fun _ => by decide, rfl⟩
    · cases hg

end Go.Proofs.Ytelpblhhpdonkaa.X
