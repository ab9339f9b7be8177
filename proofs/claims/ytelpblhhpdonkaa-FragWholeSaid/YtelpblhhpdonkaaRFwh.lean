/- Put together in whatever order: the words. -/
import Derived.Test.YtelpblhhpdonkaaRFback
namespace Go.Proofs.Ytelpblhhpdonkaa.X
open Go Go.RX Go.RowKit Go.Proofs
set_option linter.unusedVariables false
set_option linter.unusedSimpArgs false
/-- The pieces that were had, in their places. -/
def partW (x : ByteArray) (z : Nat) (had : List Bool) : List ByteArray := (List.range had.length).map fun (i : Nat) => if had.getD i false = true then chunk x z i else .empty
def manyW (had : List Bool) : Nat := had.count true
def gW (g : Gather) (x : ByteArray) (z : Nat) (st : Bool) (had : List Bool) : Gather := if st = true then ⟨2, 9, partW x z had⟩ else g
def iW (order : List Int) (n : Nat) (k : Nat) : Nat := (pickI (order.getD k 0) (n : Int)).toNat
def hadW (order : List Int) (n : Nat) : Nat → List Bool
  | 0 => List.replicate n false
  | k + 1 => (hadW order n k).set (iW order n k) true
def ordN (order : List Int) : Nat := if order.length < 40 then order.length else 40
def had2W (had : List Bool) : Nat → List Bool
  | 0 => had
  | k + 1 => (had2W had k).set k true
def zW (size : Int) : Nat := (1 + pickI size 16).toNat
def nW (s : ByteArray) (size : Int) : Nat := ofN (txtS s) (zW size)
/-- What is gathered ahead of round k of the first loop, and of the second one. -/
def g1W (s : ByteArray) (size : Int) (order : List Int) (raw : List A4) (k : Nat) : Gather := gW (gatL raw) (txtS s) (zW size) (decide (0 < k)) (hadW order (nW s size) k)
def g2W (s : ByteArray) (size : Int) (order : List Int) (raw : List A4) (k : Nat) : Gather := gW (gatL raw) (txtS s) (zW size) (decide (0 < ordN order + k)) (had2W (hadW order (nW s size) (ordN order)) k)
theorem put_small {g : Gather} {inc : Int} {p : Piece} (hi : inc ≤ 2) (hs : p.seq ≤ 3) (hg : g.inc ≤ 2 ∧ g.seq ≤ 3) : (putG g inc p).inc ≤ 2 ∧ (putG g inc p).seq ≤ 3 := by
  cases hB : putB g inc p with
  | false => rw [put_no hB]; exact hg
  | true =>
    cases ho : putOld g inc p with
    | true => rw [put_old ho]; exact hg
    | false =>
      rw [put_new hB ho]
      show (putO g inc p).inc ≤ 2 ∧ (putO g inc p).seq ≤ 3
      unfold putO
      split
      · exact hg
      · exact ⟨hi, hs⟩
theorem pcI_rng (r : A4) : 1 ≤ pcI r ∧ pcI r ≤ 2 := by
  have := pickI_rng r.a 2 (by decide)
  unfold pcI; omega
theorem pcP_seq_rng (r : A4) : 1 ≤ (pcP r).seq ∧ (pcP r).seq ≤ 3 := by
  have := pickI_rng r.b 3 (by decide)
  rw [pcP_seq]; omega
theorem gat_small (raw : List A4) : ∀ k, (gatK raw k).inc ≤ 2 ∧ (gatK raw k).seq ≤ 3
  | 0 => ⟨show (0 : Int) ≤ 2 by decide, show (0 : Int) ≤ 3 by decide⟩
  | k + 1 => put_small (pcI_rng _).2 (pcP_seq_rng _).2 (gat_small raw k)
theorem rep_get (n i : Nat) : (List.replicate n ByteArray.empty).getD i .empty = .empty := by
  rw [List.getD_eq_getElem?_getD, List.getElem?_replicate]
  split <;> rfl
theorem putOld_not {g : Gather} {inc : Int} {p : Piece} (h : g.inc < inc ∨ g.inc = inc ∧ g.seq ≤ p.seq) : putOld g inc p = false := by
  unfold putOld
  rw [decide_eq_false (by omega), Bool.false_or]
  rcases h with h | h
  · rw [beq_eq_false_iff_ne.mpr (by omega), Bool.false_and]
  · rw [decide_eq_false (by omega), Bool.and_false]
theorem put_fresh {g : Gather} {inc : Int} {p : Piece} (hB : putB g inc p = true) (hn : g.inc < inc ∨ g.inc = inc ∧ g.seq < p.seq) : putG g inc p = ⟨inc, p.seq, (List.replicate p.of_.toNat .empty).set p.at_.toNat p.bytes⟩ := by
  rw [put_new hB (putOld_not (by omega)), putO_new (by omega)]
  show Gather.mk inc p.seq (putL (List.replicate p.of_.toNat .empty) p) = _
  rw [putL_set (by rw [rep_get]; exact ba_self _)]
theorem putB_on {g : Gather} {inc : Int} {p : Piece} (hg : gatherM g = true) (hp : pieceR p = true) (hi : 1 ≤ inc ∧ inc ≤ 65535) : putB g inc p = true := by
  unfold putB; rw [hg, hp, btw_iff.mpr hi]; rfl
theorem putOld_on {g : Gather} {inc : Int} {p : Piece} (h : inc < g.inc ∨ g.inc = inc ∧ p.seq < g.seq) : putOld g inc p = true := by
  unfold putOld
  rcases h with h | h
  · rw [decide_eq_true h, Bool.true_or]
  · rw [h.1, decide_eq_true h.2, beq_self_eq_true]; simp
/-! ### Places -/
theorem partW_length (x : ByteArray) (z : Nat) (had : List Bool) : (partW x z had).length = had.length := by
  unfold partW; rw [List.length_map, List.length_range]
theorem partW_get (x : ByteArray) (z : Nat) (had : List Bool) (i : Nat) (h : i < had.length) : (partW x z had)[i]'(by rw [partW_length]; exact h) = if had.getD i false = true then chunk x z i else .empty := by
  unfold partW; rw [List.getElem_map, List.getElem_range]
theorem partW_set (x : ByteArray) (z : Nat) (had : List Bool) (i : Nat) : partW x z (had.set i true) = (partW x z had).set i (chunk x z i) := by
  refine List.ext_getElem (by rw [List.length_set, partW_length, partW_length, List.length_set]) fun j h1 h2 => ?_
  rw [partW_length, List.length_set] at h1
  rw [partW_get _ _ _ _ (by rw [List.length_set]; exact h1), List.getElem_set]
  by_cases c : i = j
  · subst c
    rw [if_pos rfl, List.getD_eq_getElem?_getD, List.getElem?_set_self h1, Option.getD_some, if_pos rfl]
  · rw [if_neg c, partW_get _ _ _ _ h1, List.getD_eq_getElem?_getD, List.getD_eq_getElem?_getD, List.getElem?_set_ne c]
theorem partW_none (x : ByteArray) (z n : Nat) : partW x z (List.replicate n false) = List.replicate n .empty := by
  refine List.ext_getElem (by rw [partW_length, List.length_replicate, List.length_replicate]) fun j h1 h2 => ?_
  rw [partW_length, List.length_replicate] at h1
  rw [partW_get _ _ _ _ (by rw [List.length_replicate]; exact h1), List.getElem_replicate, List.getD_eq_getElem?_getD, List.getElem?_replicate, if_pos h1, Option.getD_some, if_neg (by decide)]
theorem set_same (had : List Bool) (i : Nat) (h : had.getD i false = true) : had.set i true = had := by
  refine List.ext_getElem (by rw [List.length_set]) fun j h1 h2 => ?_
  rw [List.getElem_set]
  split
  · rename_i c
    subst c
    rw [List.getD_eq_getElem?_getD, List.getElem?_eq_getElem h2, Option.getD_some] at h
    exact h.symm
  · rfl
theorem many_set (had : List Bool) (i : Nat) (hi : i < had.length) (h : had.getD i false = false) : manyW (had.set i true) = manyW had + 1 := by
  rw [List.getD_eq_getElem?_getD, List.getElem?_eq_getElem hi, Option.getD_some] at h
  unfold manyW
  rw [List.count_set hi, h]
  rfl
theorem many_le (had : List Bool) : manyW had ≤ had.length := List.count_le_length
theorem many_all {had : List Bool} : manyW had = had.length ↔ ∀ i, i < had.length → had.getD i false = true := by
  unfold manyW
  rw [List.count_eq_length]
  constructor
  · intro h i hi
    rw [List.getD_eq_getElem?_getD, List.getElem?_eq_getElem hi, Option.getD_some]
    exact (h _ (List.getElem_mem hi)).symm
  · intro h b hb
    obtain ⟨i, hi, e⟩ := List.mem_iff_getElem.mp hb
    have := h i hi
    rw [List.getD_eq_getElem?_getD, List.getElem?_eq_getElem hi, Option.getD_some] at this
    rw [← e, this]
theorem chunk_some {x : ByteArray} {z i : Nat} (hz : 1 ≤ z) (hi : i < ofN x z) : (chunk x z i == .empty) = false := by
  have h := (ofN_lt (s := x) hz i).mp hi
  have h2 := chunk_size (s := x) (z := z) (k := i)
  rw [ba_beq]
  refine decide_eq_false fun c => ?_
  rw [c] at h2
  have : (ByteArray.empty).size = 0 := rfl
  omega
def pW (x : ByteArray) (z i : Nat) : Piece := ⟨9, (i : Int), (ofN x z : Int), chunk x z i⟩
theorem step_W {g : Gather} {x : ByteArray} {z : Nat} {st : Bool} {had : List Bool} {i : Nat} (hz : 1 ≤ z) (hg : g.inc ≤ 2 ∧ g.seq ≤ 3) (hM : gatherM (gW g x z st had) = true) (hl : had.length = ofN x z) (h0 : st = false → had = List.replicate (ofN x z) false) (hi : i < ofN x z) (hp : pieceR (pW x z i) = true) :
    putG (gW g x z st had) 2 (pW x z i) = gW g x z true (had.set i true) ∧ putB (gW g x z st had) 2 (pW x z i) = true ∧ gatherM (gW g x z true (had.set i true)) = true := by
  have hB : putB (gW g x z st had) 2 (pW x z i) = true := putB_on hM hp (by decide)
  have key : putG (gW g x z st had) 2 (pW x z i) = gW g x z true (had.set i true) := by
    have eN : (pW x z i).of_.toNat = ofN x z := Int.toNat_natCast _
    have eI : (pW x z i).at_.toNat = i := Int.toNat_natCast _
    cases st with
    | false =>
      have e1 : gW g x z false had = g := rfl
      rw [e1] at hB ⊢
      rw [put_fresh hB (by
        show g.inc < 2 ∨ g.inc = 2 ∧ g.seq < 9
        omega), eN, eI, h0 rfl]
      show _ = Gather.mk 2 9 (partW x z _)
      rw [partW_set, partW_none]; rfl
    | true =>
      have e1 : gW g x z true had = ⟨2, 9, partW x z had⟩ := rfl
      rw [e1] at hB ⊢
      rw [put_new hB (putOld_not (.inr ⟨rfl, Int.le_refl 9⟩)), putO_same ⟨rfl, rfl, by
        show ((partW x z had).length : Int) = (ofN x z : Int)
        rw [partW_length, hl]⟩]
      show Gather.mk 2 9 (putL (partW x z had) (pW x z i)) = Gather.mk 2 9 (partW x z (had.set i true))
      have hg : (partW x z had).getD (pW x z i).at_.toNat .empty = if had.getD i false = true then chunk x z i else .empty := by
        rw [eI, List.getD_eq_getElem?_getD, List.getElem?_eq_getElem (by rw [partW_length, hl]; exact hi), Option.getD_some, partW_get _ _ _ _ (by rw [hl]; exact hi)]
      cases hh : had.getD i false with
      | true =>
        rw [hh, if_pos rfl] at hg
        rw [putL_not (by rw [hg]; exact chunk_some hz hi), set_same had i hh]
      | false =>
        rw [hh, if_neg (by decide)] at hg
        rw [putL_set (by rw [hg]; exact ba_self _), eI, partW_set]; rfl
  exact ⟨key, hB, key ▸ put_may hM⟩
theorem cat_chunks (x : ByteArray) (z : Nat) : ∀ k, catS ((List.range k).map fun i => chunk x z i) = x.extract 0 (k * z)
  | 0 => by rw [Nat.zero_mul, ext_nil5]; rfl
  | k + 1 => by rw [List.range_succ, List.map_append, List.map_singleton, catS_app, catS_one, cat_chunks x z k, chunk_next]
theorem part_all {x : ByteArray} {z : Nat} {had : List Bool} (h : manyW had = had.length) : partW x z had = (List.range had.length).map fun i => chunk x z i := by
  unfold partW
  refine List.map_congr_left fun i hi => ?_
  rw [if_pos (many_all.mp h i (List.mem_range.mp hi))]
theorem whole_W {g : Gather} {x : ByteArray} {z : Nat} {had : List Bool} (hz : 1 ≤ z) (hx : 1 ≤ x.size) (hM : gatherM (gW g x z true had) = true) (hl : had.length = ofN x z) :
    wholeB (gW g x z true had) = decide (manyW had = ofN x z) ∧ (manyW had = ofN x z → wholeS (gW g x z true had) = x) := by
  have hN := ofN_pos hz hx
  have e1 : gW g x z true had = ⟨2, 9, partW x z had⟩ := rfl
  have hW : wholeB (gW g x z true had) = decide (manyW had = ofN x z) := by
    unfold wholeB
    rw [hM, e1]
    show (true && !decide ((partW x z had).length = 0) && !hasS (partW x z had) .empty) = _
    rw [partW_length, decide_eq_false (by omega), Bool.not_false, Bool.and_self, Bool.true_and]
    by_cases c : manyW had = ofN x z
    · rw [decide_eq_true c]
      cases h : hasS (partW x z had) .empty with
      | false => rfl
      | true =>
        exfalso
        unfold hasS at h
        obtain ⟨y, hy, he⟩ := List.any_eq_true.mp h
        obtain ⟨i, hi, e⟩ := List.mem_iff_getElem.mp hy
        rw [partW_length] at hi
        rw [partW_get _ _ _ _ hi, if_pos (many_all.mp (c.trans hl.symm) i hi)] at e
        rw [← e, chunk_some hz (by omega)] at he
        cases he
    · rw [decide_eq_false c]
      cases h : hasS (partW x z had) .empty with
      | true => rfl
      | false =>
        exfalso
        refine c ((many_all.mpr fun i hi => ?_).trans hl)
        cases hb : had.getD i false with
        | true => rfl
        | false =>
          exfalso
          have : hasS (partW x z had) .empty = true := List.any_eq_true.mpr ⟨(partW x z had)[i]'(by rw [partW_length]; exact hi), List.getElem_mem _, by rw [partW_get _ _ _ _ hi, hb, if_neg (by decide)]; exact ba_self _⟩
          rw [this] at h; cases h
  refine ⟨hW, fun c => ?_⟩
  unfold wholeS
  rw [hW, if_pos (decide_eq_true c), e1]
  show catS (partW x z had) = x
  rw [part_all (c.trans hl.symm), hl, cat_chunks]
  refine ext_all5 _ _ ?_
  have := (ofN_lt (s := x) hz (ofN x z)).mpr
  rcases Nat.lt_or_ge (ofN x z * z) x.size with q | q
  · have := this q; omega
  · exact q
theorem hadW_length (order : List Int) (n : Nat) : ∀ k, (hadW order n k).length = n
  | 0 => List.length_replicate ..
  | k + 1 => by rw [hadW, List.length_set, hadW_length order n k]
theorem had2W_length (had : List Bool) : ∀ k, (had2W had k).length = had.length
  | 0 => rfl
  | k + 1 => by rw [had2W, List.length_set, had2W_length had k]
theorem had2W_get (had : List Bool) : ∀ k, k ≤ had.length → ∀ j, j < k → (had2W had k).getD j false = true
  | 0, _, j, h => absurd h (Nat.not_lt_zero _)
  | k + 1, hk, j, h => by
    rw [had2W]
    by_cases c : k = j
    · subst c
      rw [List.getD_eq_getElem?_getD, List.getElem?_set_self (by rw [had2W_length]; omega), Option.getD_some]
    · rw [List.getD_eq_getElem?_getD, List.getElem?_set_ne c, ← List.getD_eq_getElem?_getD]
      exact had2W_get had k (by omega) j (by omega)
theorem iW_lt (order : List Int) (n k : Nat) (hn : 0 < n) : iW order n k < n := by
  have := pickI_rng (order.getD k 0) (n : Int) (by omega)
  unfold iW; omega
end Go.Proofs.Ytelpblhhpdonkaa.X
