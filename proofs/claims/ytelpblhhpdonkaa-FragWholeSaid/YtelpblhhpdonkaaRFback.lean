/- Decode undoes Encode; what is decoded, encoded again, is what was taken. -/
import Derived.Test.YtelpblhhpdonkaaRFact05
namespace Go.Proofs.Ytelpblhhpdonkaa.X
open Go Go.RX Go.RowKit Go.Proofs
set_option linter.unusedVariables false
set_option linter.unusedSimpArgs false
theorem btA5 (a b : ByteArray) (i : Nat) (h : i < a.size) : bt (a ++ b) (i : Int) = bt a (i : Int) := by
  have h1 : i < (a ++ b).size := by rw [ByteArray.size_append]; omega
  unfold bt
  rw [Int.toNat_natCast, dif_pos h1, dif_pos h, ByteArray.getElem_append_left h]
theorem extA5 (a b : ByteArray) (i j : Nat) : (a ++ b).extract (a.size + i) (a.size + j) = b.extract i j := by
  apply ByteArray.ext
  simp only [ByteArray.data_extract, ByteArray.data_append]
  have : a.size = a.data.size := rfl
  rw [this]
  simp
theorem extL5 (a b : ByteArray) : (a ++ b).extract 0 a.size = a := by
  apply ByteArray.ext
  simp only [ByteArray.data_extract, ByteArray.data_append]
  have : a.size = a.data.size := rfl
  rw [this]
  simp
theorem extR5 (a b : ByteArray) : (a ++ b).extract a.size (a ++ b).size = b := by
  have := extA5 a b 0 b.size
  rw [Nat.add_zero] at this
  rw [ByteArray.size_append, this, ByteArray.extract_zero_size]
theorem extT5 (a b : ByteArray) (i : Nat) : (a ++ b).extract (a.size + i) (a ++ b).size = b.extract i b.size := by
  rw [ByteArray.size_append]; exact extA5 a b i b.size
theorem ext_cat5 (s : ByteArray) (a b c : Nat) (h1 : a ≤ b) (h2 : b ≤ c) : s.extract a b ++ s.extract b c = s.extract a c := by
  apply ByteArray.ext
  simp only [ByteArray.data_extract, ByteArray.data_append, Array.extract_append_extract]
  rw [Nat.min_eq_left h1, Nat.max_eq_right h2]
theorem ext_nums5 (s : ByteArray) (k n : Nat) (h : k + n ≤ s.size) : s.extract k (k + n) = strOfNums ((List.range n).map fun (i : Nat) => bt s ((k + i : Nat) : Int)) := by
  apply ByteArray.ext
  apply Array.ext
  · have : s.data.size = s.size := rfl
    simp [strOfNums]
    omega
  · intro i h1 h2
    have hd : s.data.size = s.size := rfl
    simp only [ByteArray.data_extract, Array.size_extract] at h1
    have hk : k + i < s.size := by omega
    simp only [ByteArray.data_extract, Array.getElem_extract, strOfNums, List.map_map, List.getElem_toArray, List.getElem_map, List.getElem_range, Function.comp]
    unfold bt
    rw [Int.toNat_natCast, dif_pos hk]
    simp
    rfl
theorem bt_nums5 (l : List Int) (i : Nat) (h : i < l.length) (hr : 0 ≤ l.getD i 0 ∧ l.getD i 0 < 256) : bt (strOfNums l) (i : Int) = l.getD i 0 := by
  unfold bt
  rw [Int.toNat_natCast, dif_pos (by rw [strOfNums_size]; exact h)]
  have hg : l.getD i 0 = l[i] := by rw [List.getD_eq_getElem?_getD, List.getElem?_eq_getElem h]; rfl
  rw [hg] at hr ⊢
  have e : (strOfNums l)[i]'(by rw [strOfNums_size]; exact h) = UInt8.ofNat (l[i]).toNat := by
    show (strOfNums l).data[i]'_ = _
    simp [strOfNums]
  rw [e, UInt8.toNat_ofNat', Nat.mod_eq_of_lt (by omega)]
  omega
theorem ext_min5 (s : ByteArray) (a b : Nat) : s.extract a (min b s.size) = s.extract a b := by
  apply ByteArray.ext
  apply Array.ext
  · simp only [ByteArray.data_extract, Array.size_extract]; have : s.data.size = s.size := rfl; omega
  · intro i h1 h2; simp only [ByteArray.data_extract, Array.getElem_extract]
theorem ext_nil5 (s : ByteArray) (a : Nat) : s.extract a a = .empty := by
  apply ByteArray.ext
  apply Array.ext
  · simp only [ByteArray.data_extract, Array.size_extract]; show _ = 0; omega
  · intro i h1 h2; simp only [ByteArray.data_extract, Array.size_extract] at h1; omega
theorem ext_all5 (s : ByteArray) (b : Nat) (h : s.size ≤ b) : s.extract 0 b = s := by
  rw [← ext_min5, Nat.min_eq_right h, ByteArray.extract_zero_size]
theorem chunk_next (x : ByteArray) (z k : Nat) : x.extract 0 (k * z) ++ chunk x z k = x.extract 0 ((k + 1) * z) := by
  unfold chunk
  rw [ext_min5, ext_cat5 _ _ _ _ (Nat.zero_le _) (by omega), Nat.succ_mul]
theorem dec_enc5 {p : Piece} (hp : pieceR p = true) (y : ByteArray) : deE (encP p ++ y) = 0 ∧ deP (encP p ++ y) = p ∧ deR (encP p ++ y) = y := by
  obtain ⟨h1, h2, h3, h4⟩ := pieceR_is hp
  have hsz := encP_size hp
  have hS : (encP p ++ y).size = 5 + p.bytes.size + y.size := by rw [ByteArray.size_append, hsz]
  have e0 : encP p ++ y = strOfNums [p.seq / 256 % 256, p.seq % 256, p.at_ % 256, p.of_ % 256, (p.bytes.size : Int) % 256] ++ (p.bytes ++ y) := by
    unfold encP; rw [if_pos hp, ByteArray.append_assoc]
  have hH : (strOfNums [p.seq / 256 % 256, p.seq % 256, p.at_ % 256, p.of_ % 256, (p.bytes.size : Int) % 256]).size = 5 := by rw [strOfNums_size]; rfl
  have bn : ∀ (i : Nat) (v : Int), i < 5 → [p.seq / 256 % 256, p.seq % 256, p.at_ % 256, p.of_ % 256, (p.bytes.size : Int) % 256].getD i 0 = v → 0 ≤ v ∧ v < 256 → bt (encP p ++ y) (i : Int) = v := fun i v hi hv hr => by
    rw [e0, btA5 _ _ i (by omega), bt_nums5 [p.seq / 256 % 256, p.seq % 256, p.at_ % 256, p.of_ % 256, (p.bytes.size : Int) % 256] i hi (by rw [hv]; exact hr), hv]
  have b0 : bt (encP p ++ y) 0 = p.seq / 256 % 256 := bn 0 _ (by decide) rfl (by omega)
  have b1 : bt (encP p ++ y) 1 = p.seq % 256 := bn 1 _ (by decide) rfl (by omega)
  have b2 : bt (encP p ++ y) 2 = p.at_ % 256 := bn 2 _ (by decide) rfl (by omega)
  have b3 : bt (encP p ++ y) 3 = p.of_ % 256 := bn 3 _ (by decide) rfl (by omega)
  have b4 : bt (encP p ++ y) 4 = (p.bytes.size : Int) % 256 := bn 4 _ (by decide) rfl (by omega)
  have b4 : bt (encP p ++ y) 4 = (p.bytes.size : Int) := by omega
  have d5 : (encP p ++ y).extract 5 (5 + (bt (encP p ++ y) 4).toNat) = p.bytes := by
    rw [b4, Int.toNat_natCast, e0]
    have := extA5 (strOfNums [p.seq / 256 % 256, p.seq % 256, p.at_ % 256, p.of_ % 256, (p.bytes.size : Int) % 256]) (p.bytes ++ y) 0 p.bytes.size
    rw [hH] at this
    exact this.trans (extL5 _ _)
  have r5 : (encP p ++ y).extract (5 + (bt (encP p ++ y) 4).toNat) (encP p ++ y).size = y := by
    rw [b4, Int.toNat_natCast, e0]
    have := extT5 (strOfNums [p.seq / 256 % 256, p.seq % 256, p.at_ % 256, p.of_ % 256, (p.bytes.size : Int) % 256]) (p.bytes ++ y) p.bytes.size
    rw [hH] at this
    exact this.trans (extR5 _ _)
  have m0 : deP0 (encP p ++ y) = p := by
    unfold deP0
    rw [d5, b0, b1, b2, b3]
    obtain ⟨ps, pa, po, pb⟩ := p
    simp only [Piece.mk.injEq, and_true]
    dsimp only at h1 h2 h3
    omega
  have hE : deE (encP p ++ y) = 0 := by
    unfold deE
    rw [if_neg (by omega), if_neg (by omega), if_neg (by omega), m0, if_pos hp]
  refine ⟨hE, ?_, ?_⟩
  · unfold deP; rw [if_pos hE, m0]
  · unfold deR; rw [if_pos hE, r5]
theorem enc_dec5 {y : ByteArray} (h : deE y = 0) : pieceR (deP y) = true ∧ encP (deP y) ++ deR y = y := by
  have r0 := bt_range y 0
  have r1 := bt_range y 1
  have r2 := bt_range y 2
  have r3 := bt_range y 3
  have r4 := bt_range y 4
  have h' := h
  unfold deE at h'
  split at h'
  · cases h'
  · rename_i q1
    split at h'
    · cases h'
    · rename_i q2
      split at h'
      · cases h'
      · rename_i q3
        split at h'
        · rename_i q4
          have m1 : deP y = deP0 y := if_pos h
          have m2 : deR y = y.extract (5 + (bt y 4).toNat) y.size := if_pos h
          rw [m1, m2]
          refine ⟨q4, ?_⟩
          unfold encP
          rw [if_pos q4]
          have hb : (deP0 y).bytes.size = (bt y 4).toNat := by
            show (y.extract 5 (5 + (bt y 4).toNat)).size = _
            rw [ByteArray.size_extract]; omega
          have hl : [(deP0 y).seq / 256 % 256, (deP0 y).seq % 256, (deP0 y).at_ % 256, (deP0 y).of_ % 256, ((deP0 y).bytes.size : Int) % 256] = (List.range 5).map fun (i : Nat) => bt y ((0 + i : Nat) : Int) := by
            rw [hb]
            show [(256 * bt y 0 + bt y 1) / 256 % 256, (256 * bt y 0 + bt y 1) % 256, bt y 2 % 256, bt y 3 % 256, ((bt y 4).toNat : Int) % 256] = [bt y 0, bt y 1, bt y 2, bt y 3, bt y 4]
            rw [show (256 * bt y 0 + bt y 1) / 256 % 256 = bt y 0 by omega, show (256 * bt y 0 + bt y 1) % 256 = bt y 1 by omega, show bt y 2 % 256 = bt y 2 by omega, show bt y 3 % 256 = bt y 3 by omega, show ((bt y 4).toNat : Int) % 256 = bt y 4 by omega]
          rw [hl, ← ext_nums5 y 0 5 (by omega)]
          show y.extract 0 (0 + 5) ++ y.extract 5 (5 + (bt y 4).toNat) ++ _ = y
          rw [ext_cat5 _ _ _ _ (by omega) (by omega), ext_cat5 _ _ _ _ (by omega) (by omega), ByteArray.extract_zero_size]
        · cases h'
theorem ofN_wrap (s : ByteArray) (n : Nat) (hz : 1 ≤ n ∧ n ≤ 16) (hs : 1 ≤ s.size ∧ s.size ≤ 20) : wrap64 (Int.tdiv (wrap64 (wrap64 ((s.size : Int) + (n : Int)) - 1)) (n : Int)) = (ofN s n : Int) := by
  rw [w64 (x := (s.size : Int) + (n : Int)) (by omega), w64 (x := (s.size : Int) + (n : Int) - 1) (by omega), Int.tdiv_eq_ediv_of_nonneg (by omega)]
  have : ((s.size : Int) + (n : Int) - 1) = ((s.size + n - 1 : Nat) : Int) := by omega
  rw [this]
  have h2 : ((s.size + n - 1 : Nat) : Int) / (n : Int) = (((s.size + n - 1) / n : Nat) : Int) := by rw [Int.natCast_ediv]
  have h3 : (s.size + n - 1) / n ≤ s.size + n - 1 := Nat.div_le_self _ _
  rw [h2]
  generalize hq : (s.size + n - 1) / n = q at h3
  rw [w64 (by omega), ← hq]; rfl
theorem putG_few {g : Gather} {inc : Int} {p : Piece} (h : g.parts.length ≤ 1000000) : (putG g inc p).parts.length ≤ 1000000 := by
  cases hB : putB g inc p with
  | false => rw [put_no hB]; exact h
  | true =>
    cases ho : putOld g inc p with
    | true => rw [put_old ho]; exact h
    | false =>
      rw [put_new hB ho]
      have hb := hB
      unfold putB at hb
      simp only [Bool.and_eq_true] at hb
      obtain ⟨⟨_, hp⟩, hi⟩ := hb
      obtain ⟨q1, q2, q3, q4⟩ := pieceR_is hp
      have hL : ∀ l : List ByteArray, (putL l p).length = l.length := fun l => by
        unfold putL; split
        · exact List.length_set ..
        · rfl
      show (putL (putO g inc p).parts p).length ≤ _
      rw [hL]
      unfold putO
      split
      · exact h
      · show (List.replicate _ _).length ≤ _
        rw [List.length_replicate]; omega
end Go.Proofs.Ytelpblhhpdonkaa.X
