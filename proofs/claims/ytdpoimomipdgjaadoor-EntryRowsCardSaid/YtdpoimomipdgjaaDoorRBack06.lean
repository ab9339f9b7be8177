/- What is decoded, encoded again, is the bytes that were taken; what is cut is too short. -/
import Derived.Test.YtdpoimomipdgjaaDoorRRound06
namespace Go.Proofs.YtdpoimomipdgjaaDoor.X
open Go Go.RX Go.RowKit Go.Proofs
set_option linter.unusedVariables false
set_option linter.unusedSimpArgs false
theorem ext_cat (s : ByteArray) (a b c : Nat) (h1 : a ≤ b) (h2 : b ≤ c) : s.extract a b ++ s.extract b c = s.extract a c := by
  apply ByteArray.ext
  simp only [ByteArray.data_extract, ByteArray.data_append, Array.extract_append_extract]
  rw [Nat.min_eq_left h1, Nat.max_eq_right h2]
theorem ext_nums (s : ByteArray) (k n : Nat) (h : k + n ≤ s.size) : s.extract k (k + n) = strOfNums ((List.range n).map fun (i : Nat) => bt s ((k + i : Nat) : Int)) := by
  apply ByteArray.ext
  apply Array.ext
  · have : s.data.size = s.size := rfl
    simp [strOfNums]
    omega
  · intro i h1 h2
    have hd : s.data.size = s.size := rfl
    simp only [ByteArray.data_extract, Array.size_extract] at h1
    have hk : k + i < s.size := by omega
    simp only [ByteArray.data_extract, Array.getElem_extract, strOfNums, List.map_map, List.getElem_toArray, List.getElem_map, List.getElem_range, Function.comp]
    unfold bt
    rw [Int.toNat_natCast, dif_pos hk]
    simp
    rfl
theorem one_ext (s : ByteArray) (k : Nat) (h : k < s.size) : strOfNums [bt s (k : Int)] = s.extract k (k + 1) := by
  rw [ext_nums s k 1 h]; rfl
theorem two_ext (s : ByteArray) (k : Nat) (h : k + 1 < s.size) : twoB (toldI s (k : Int)) = s.extract k (k + 2) := by
  rw [ext_nums s k 2 h]
  have r1 := bt_range s (k : Int)
  have r2 := bt_range s ((k : Int) + 1)
  unfold twoB toldI
  have e1 : (256 * bt s (k : Int) + bt s ((k : Int) + 1)) / 256 % 256 = bt s (k : Int) := by omega
  have e2 : (256 * bt s (k : Int) + bt s ((k : Int) + 1)) % 256 = bt s ((k : Int) + 1) := by omega
  rw [e1, e2]; rfl
theorem print_parse (s : ByteArray) (h4 : s.size = 4) (h : parseX s = 0) : right (parseE s) (parseN s) = true ∧ printB (parseE s) (parseN s) = s := by
  have hr : right (parseE s) (parseN s) = true := by
    unfold parseX at h
    rw [if_neg (by omega), if_neg (by omega)] at h
    split at h
    · assumption
    · cases h
  refine ⟨hr, ?_⟩
  have r0 := bt_range s 0
  have r1 := bt_range s 1
  have r2 := bt_range s 2
  have r3 := bt_range s 3
  have hpv : pv s = 16777216 * bt s 0 + 65536 * bt s 1 + 256 * bt s 2 + bt s 3 := rfl
  have hv : printV (parseE s) (parseN s) = pv s := by
    unfold printV parseE parseN
    by_cases c : 2147483648 ≤ pv s
    · rw [decide_eq_true c, if_pos rfl]; omega
    · rw [decide_eq_false c, if_neg (by decide)]; omega
  unfold printB
  rw [if_pos hr, hv, hpv]
  have e : s = s.extract 0 (0 + 4) := by rw [show 0 + 4 = s.size by omega, ByteArray.extract_zero_size]
  rw [ext_nums s 0 4 (by omega)] at e
  conv => rhs; rw [e]
  have a0 : (16777216 * bt s 0 + 65536 * bt s 1 + 256 * bt s 2 + bt s 3) / 16777216 % 256 = bt s 0 := by omega
  have a1 : (16777216 * bt s 0 + 65536 * bt s 1 + 256 * bt s 2 + bt s 3) / 65536 % 256 = bt s 1 := by omega
  have a2 : (16777216 * bt s 0 + 65536 * bt s 1 + 256 * bt s 2 + bt s 3) / 256 % 256 = bt s 2 := by omega
  have a3 : (16777216 * bt s 0 + 65536 * bt s 1 + 256 * bt s 2 + bt s 3) % 256 = bt s 3 := by omega
  rw [a0, a1, a2, a3]; rfl
theorem enc_dec {s : ByteArray} (h : decE s = 0) : msgR (decM s) = true ∧ encB (decM s) ++ decR s = s := by
  have hM : decM s = decM0 s := if_pos h
  have hR : decR s = s.extract (12 + (bt s 11).toNat) s.size := if_pos h
  have r11 := bt_range s 11
  have r4 := bt_range s 4
  unfold decE at h
  split at h
  · cases h
  · rename_i c12
    split at h
    · cases h
    · rename_i c8
      split at h
      · cases h
      · rename_i cl
        split at h
        · cases h
        · rename_i ch
          have ch : (parseX (s.extract 0 4) != 0 || !msgR (decM0 s)) = false := by simpa using ch
          rw [Bool.or_eq_false_iff] at ch
          have hx : parseX (s.extract 0 4) = 0 := by simpa using ch.1
          have hm : msgR (decM0 s) = true := by simpa using ch.2
          have s4 : (s.extract 0 4).size = 4 := by rw [ByteArray.size_extract]; omega
          obtain ⟨q1, q2⟩ := print_parse (s.extract 0 4) s4 hx
          have hb : parseB (s.extract 0 4) = true := by unfold parseB; rw [hx]; rfl
          rw [hM, hR]
          refine ⟨hm, ?_⟩
          have hn : (s.extract 12 (12 + (bt s 11).toNat)).size = (bt s 11).toNat := by rw [ByteArray.size_extract]; omega
          have p1 : printB (decM0 s).ext (decM0 s).id = s.extract 0 4 := by
            show printB (parseB (s.extract 0 4) && parseE (s.extract 0 4)) (if parseB (s.extract 0 4) = true then parseN (s.extract 0 4) else 0) = _
            rw [hb, Bool.true_and, if_pos rfl, q2]
          have p2 : strOfNums [(decM0 s).sender % 256] = s.extract 4 5 := by
            show strOfNums [bt s 4 % 256] = _
            rw [show bt s 4 % 256 = bt s 4 by omega]
            exact one_ext s 4 (by omega)
          have p3 : twoB (decM0 s).inc = s.extract 5 7 := two_ext s 5 (by omega)
          have p4 : twoB (decM0 s).seq = s.extract 7 9 := two_ext s 7 (by omega)
          have p5 : twoB (decM0 s).number = s.extract 9 11 := two_ext s 9 (by omega)
          have p6 : strOfNums [((decM0 s).data.size : Int) % 256] = s.extract 11 12 := by
            show strOfNums [((s.extract 12 (12 + (bt s 11).toNat)).size : Int) % 256] = _
            rw [hn, show ((bt s 11).toNat : Int) % 256 = bt s 11 by omega]
            exact one_ext s 11 (by omega)
          have p7 : (decM0 s).data = s.extract 12 (12 + (bt s 11).toNat) := rfl
          rw [enc_parts hm, p1, p2, p3, p4, p5, p6, p7]
          simp only [ByteArray.append_assoc]
          rw [ext_cat s 12 _ s.size (by omega) (by omega), ext_cat s 11 12 s.size (by omega) (by omega), ext_cat s 9 11 s.size (by omega) (by omega), ext_cat s 7 9 s.size (by omega) (by omega), ext_cat s 5 7 s.size (by omega) (by omega), ext_cat s 4 5 s.size (by omega) (by omega), ext_cat s 0 4 s.size (by omega) (by omega), ByteArray.extract_zero_size]
theorem enc_ent {s : ByteArray} (h : edE s = 0) : entR (edT s 0) (edT s 2) (edT s 4) (edI s) (edL s) = true ∧ entB (edT s 0) (edT s 2) (edT s 4) (edI s) (edL s) ++ edR s = s := by
  have e1 : ∀ k, edT s k = toldI s k := fun k => if_pos h
  have e2 : edI s = edI0 s (edN s) := if_pos h
  have e3 : edL s = edSm s (edM s).toNat := if_pos h
  have e4 : edR s = edSr s (edM s).toNat := if_pos h
  have rM := bt_range s (6 + 2 * (edN s : Int))
  have rM : 0 ≤ edM s ∧ edM s < 256 := rM
  have hv : edN s ≤ 16 := vl_length _ 16
  rw [e1, e1, e1, e2, e3, e4]
  unfold edE at h
  split at h
  · cases h
  · rename_i c6
    split at h
    · cases h
    · rename_i c7
      split at h
      · cases h
      · rename_i c16
        split at h
        · rename_i cf; exact absurd h cf
        · rename_i cf
          split at h
          · rename_i hR
            have cf : firstN (edF s) = 0 := by omega
            have hall : ∀ j, j < (edM s).toNat → decE (edSr s j) = 0 := fun j hj => firstN_all cf _ (List.mem_map.mpr ⟨j, List.mem_range.mpr hj, rfl⟩)
            refine ⟨hR, ?_⟩
            have hI : ∀ k, k ≤ edN s → catI (edI0 s k) = s.extract 6 (6 + 2 * k) := by
              intro k
              induction k with
              | zero =>
                intro _
                apply ByteArray.ext
                show #[] = _
                symm
                apply Array.eq_empty_of_size_eq_zero
                simp
              | succ k ih =>
                intro hk
                have e : edI0 s (k + 1) = edI0 s k ++ [toldI s (6 + 2 * (k : Int))] := by unfold edI0; rw [List.range_succ, List.map_append]; rfl
                rw [e, catI_app, ih (by omega)]
                have : catI [toldI s (6 + 2 * (k : Int))] = s.extract (6 + 2 * k) (6 + 2 * k + 2) := by
                  show twoB _ ++ ByteArray.empty = _
                  rw [app_emp, show (6 : Int) + 2 * (k : Int) = ((6 + 2 * k : Nat) : Int) by omega]
                  exact two_ext s (6 + 2 * k) (by omega)
                rw [this]
                exact ext_cat s 6 (6 + 2 * k) (6 + 2 * k + 2) (by omega) (by omega)
            have hL : ∀ k, k ≤ (edM s).toNat → catB (edSm s k) ++ edSr s k = edSr s 0 := by
              intro k
              induction k with
              | zero => intro _; exact emp_app _
              | succ k ih =>
                intro hk
                have hd := hall k (by omega)
                obtain ⟨_, q⟩ := enc_dec hd
                have es : edSr s (k + 1) = decR (edSr s k) := rfl
                rw [edSm, catB_app, es]
                have : catB [decM (edSr s k)] = encB (decM (edSr s k)) := app_emp _
                rw [this, ByteArray.append_assoc, q]
                exact ih (by omega)
            rw [entB_parts hR]
            simp only [ByteArray.append_assoc]
            rw [hL _ (Nat.le_refl _), hI _ (Nat.le_refl _)]
            have hlen : (edSm s (edM s).toNat).length = (edM s).toNat := edSm_length s _
            have p1 : strOfNums [((edSm s (edM s).toNat).length : Int) % 256] = s.extract (6 + 2 * edN s) (7 + 2 * edN s) := by
              rw [hlen, show ((edM s).toNat : Int) % 256 = edM s by omega]
              unfold edM
              rw [show (6 : Int) + 2 * (edN s : Int) = ((6 + 2 * edN s : Nat) : Int) by omega, show 7 + 2 * edN s = 6 + 2 * edN s + 1 by omega]
              exact one_ext s _ (by omega)
            rw [p1]
            have t0 : twoB (toldI s 0) = s.extract 0 2 := two_ext s 0 (by omega)
            have t2 : twoB (toldI s 2) = s.extract 2 4 := two_ext s 2 (by omega)
            have t4 : twoB (toldI s 4) = s.extract 4 6 := two_ext s 4 (by omega)
            rw [t0, t2, t4]
            unfold edSr
            rw [ext_cat s (6 + 2 * edN s) _ s.size (by omega) (by omega), ext_cat s 6 _ s.size (by omega) (by omega), ext_cat s 4 6 s.size (by omega) (by omega), ext_cat s 2 4 s.size (by omega) (by omega), ext_cat s 0 2 s.size (by omega) (by omega), ByteArray.extract_zero_size]
          · cases h
/-! ### What is cut -/
theorem msg_short {x : Msg} (hx : msgR x = true) (q : Nat) (h : q < (encB x).size) : decE ((encB x).extract 0 q) = 3 := by
  have hs : ((encB x).extract 0 q).size = q := by rw [ByteArray.size_extract]; omega
  have hz := encB_size_is hx
  have hd := (msgR_is hx).2.2.2.2.2
  unfold decE
  by_cases c : q < 12
  · rw [if_pos (by omega)]
  · have hb : bt ((encB x).extract 0 q) 11 = (x.data.size : Int) := by
      have h1 := bt_ext (encB x) 0 q 11 (by omega) (by omega)
      rw [show (11 : Int) = ((11 : Nat) : Int) from rfl, h1]
      obtain ⟨_, d2, _⟩ := dec_enc hx .empty
      obtain ⟨d1, _, _⟩ := dec_enc hx .empty
      rw [app_emp] at d1 d2
      have e : decM (encB x) = decM0 (encB x) := if_pos d1
      have hsz : (decM0 (encB x)).data.size = x.data.size := by rw [← e, d2]
      have : ((encB x).extract 12 (12 + (bt (encB x) 11).toNat)).size = x.data.size := hsz
      rw [ByteArray.size_extract] at this
      have r11 := bt_range (encB x) 11
      have hnl : ¬ ((encB x).size : Int) < 12 + bt (encB x) 11 := fun cc => by
        unfold decE at d1
        rw [if_neg (by omega)] at d1
        split at d1
        · exact absurd d1 (by decide)
        · first
          | exact absurd d1 (by decide)
          | (rw [if_pos cc] at d1; exact absurd d1 (by decide))
      show bt (encB x) 11 = _
      omega
    rw [if_neg (by omega), hb, if_neg (by omega), if_pos (by omega)]
def itR (b : ByteArray) : Nat → ByteArray
  | 0 => b
  | k + 1 => decR (itR b k)
theorem itR_shift (b : ByteArray) : ∀ k, itR b (k + 1) = itR (decR b) k
  | 0 => rfl
  | k + 1 => by rw [itR, itR_shift b k, itR]
theorem cat_short : ∀ (l : List Msg) (q : Nat), (∀ x ∈ l, msgR x = true) → q < (catB l).size → firstN ((List.range l.length).map fun j => decE (itR ((catB l).extract 0 q) j)) = 3
  | [], q, _, h => by exact absurd h (Nat.not_lt_zero _)
  | x :: l, q, hl, h => by
    have hx := hl x (List.mem_cons_self ..)
    rw [List.length_cons, List.range_succ_eq_map, List.map_cons, List.map_map]
    by_cases c : q < (encB x).size
    · have e : (catB (x :: l)).extract 0 q = (encB x).extract 0 q := by
        rw [catB]
        have h1 : ((encB x ++ catB l).extract 0 (encB x).size).extract 0 q = (encB x ++ catB l).extract 0 q := by
          rw [ByteArray.extract_extract]
          congr 1
          omega
        rw [← h1, ext_app_l]
      have : decE (itR ((catB (x :: l)).extract 0 q) 0) = 3 := by
        show decE ((catB (x :: l)).extract 0 q) = 3
        rw [e]; exact msg_short hx q c
      rw [this]; rfl
    · have e : (catB (x :: l)).extract 0 q = encB x ++ (catB l).extract 0 (q - (encB x).size) := by
        have h1 := ext_app (encB x) (catB l) 0 (q - (encB x).size)
        have h2 := ext_cat (encB x ++ catB l) 0 (encB x).size q (by omega) (by omega)
        rw [Nat.add_zero, show (encB x).size + (q - (encB x).size) = q by omega] at h1
        rw [catB, ← h2, ext_app_l, h1]
      obtain ⟨d1, d2, d3⟩ := dec_enc hx ((catB l).extract 0 (q - (encB x).size))
      have z : decE (itR ((catB (x :: l)).extract 0 q) 0) = 0 := by
        show decE ((catB (x :: l)).extract 0 q) = 0
        rw [e]; exact d1
      rw [z]
      have hq : q - (encB x).size < (catB l).size := by
        rw [catB, ByteArray.size_append] at h; omega
      have ih := cat_short l (q - (encB x).size) (fun y hy => hl y (List.mem_cons_of_mem _ hy)) hq
      have : firstN (0 :: List.map ((fun j => decE (itR ((catB (x :: l)).extract 0 q) j)) ∘ Nat.succ) (List.range l.length)) = firstN (List.map ((fun j => decE (itR ((catB (x :: l)).extract 0 q) j)) ∘ Nat.succ) (List.range l.length)) := if_pos rfl
      rw [this, ← ih]
      congr 1
      refine List.map_congr_left fun j _ => ?_
      show decE (itR _ (j + 1)) = _
      rw [itR_shift, e, d3]
theorem ent_short {t ep mb : Int} {incs : List Int} {ms : List Msg} (h : entR t ep mb incs ms = true) (k : Nat) (hk : k < (entB t ep mb incs ms).size) : edE ((entB t ep mb incs ms).extract 0 k) = 3 := by
  obtain ⟨h1, h2, h3, h4, h5⟩ := entR_is h
  have hfew := entR_few h
  have hM : ∀ x ∈ ms, msgR x = true := fun x hx => by
    obtain ⟨i, hi, rfl⟩ := List.getElem_of_mem hx
    have hR := h
    unfold entR at hR
    have := entM_is (List.all_eq_true.mp (Bool.and_eq_true_iff.mp hR).2 i (List.mem_range.mpr hi))
    rwa [List.getD_eq_getElem?_getD, List.getElem?_eq_getElem hi] at this
  have o1 : ∀ y : Int, (strOfNums [y]).size = 1 := fun y => by rw [strOfNums_size]; rfl
  obtain ⟨B, hB1, hB⟩ : ∃ B : ByteArray, B.size = 7 + 2 * incs.length ∧ entB t ep mb incs ms = B ++ catB ms := by
    refine ⟨twoB t ++ (twoB ep ++ (twoB mb ++ (catI incs ++ strOfNums [(ms.length : Int) % 256]))), ?_, ?_⟩
    · simp only [ByteArray.size_append, twoB_size, o1, catI_size]; omega
    · rw [entB_parts h]; simp only [ByteArray.append_assoc]
  have hsz : ((entB t ep mb incs ms).extract 0 k).size = k := by rw [ByteArray.size_extract]; omega
  obtain ⟨d1, d2, d3, d4, d5, d6, d7⟩ := dec_ent h .empty _ (app_emp _).symm
  have bts : ∀ i : Nat, i < k → bt ((entB t ep mb incs ms).extract 0 k) (i : Int) = bt (entB t ep mb incs ms) (i : Int) := fun i hi => by
    have := bt_ext (entB t ep mb incs ms) 0 k i (by omega) (by omega)
    rw [this, Nat.zero_add]
  have hT4 : toldI (entB t ep mb incs ms) 4 = mb := by
    have : edT (entB t ep mb incs ms) 4 = toldI (entB t ep mb incs ms) 4 := if_pos d1
    rw [← this]; exact d4
  have hNs : edN (entB t ep mb incs ms) = incs.length := by unfold edN; rw [hT4, h4]
  have hMs : edM (entB t ep mb incs ms) = (ms.length : Int) := by
    have : edL (entB t ep mb incs ms) = edSm (entB t ep mb incs ms) (edM (entB t ep mb incs ms)).toNat := if_pos d1
    rw [d6] at this
    have hl := congrArg List.length this
    rw [edSm_length] at hl
    have rr := bt_range (entB t ep mb incs ms) (6 + 2 * (edN (entB t ep mb incs ms) : Int))
    have rr : 0 ≤ edM (entB t ep mb incs ms) ∧ _ := rr
    omega
  unfold edE
  by_cases c6 : k < 6
  · rw [if_pos (by omega)]
  · have T4 : toldI ((entB t ep mb incs ms).extract 0 k) 4 = mb := by
      unfold toldI at hT4 ⊢
      have b4 := bts 4 (by omega)
      have b5 := bts 5 (by omega)
      rw [show (4 : Int) + 1 = ((5 : Nat) : Int) from rfl, show (4 : Int) = ((4 : Nat) : Int) from rfl] at hT4 ⊢
      rw [b4, b5]; exact hT4
    have hN : edN ((entB t ep mb incs ms).extract 0 k) = incs.length := by unfold edN; rw [T4, h4]
    rw [if_neg (by omega)]
    by_cases c7 : k < 7 + 2 * incs.length
    · rw [if_pos (by rw [hN, hsz]; omega)]
    · have hMp : edM ((entB t ep mb incs ms).extract 0 k) = (ms.length : Int) := by
        have b6 := bts (6 + 2 * incs.length) (by omega)
        unfold edM at hMs ⊢
        rw [hNs] at hMs
        rw [hN]
        rw [show (6 : Int) + 2 * (incs.length : Int) = ((6 + 2 * incs.length : Nat) : Int) by omega] at hMs ⊢
        rw [b6]; exact hMs
      have h0 : edSr ((entB t ep mb incs ms).extract 0 k) 0 = (catB ms).extract 0 (k - (7 + 2 * incs.length)) := by
        unfold edSr
        rw [hN, hsz, ByteArray.extract_extract, hB]
        have := ext_app B (catB ms) 0 (k - (7 + 2 * incs.length))
        rw [hB1, Nat.add_zero, show 7 + 2 * incs.length + (k - (7 + 2 * incs.length)) = k by omega] at this
        rw [← this]
        congr 1 <;> omega
      have hit : ∀ j, edSr ((entB t ep mb incs ms).extract 0 k) j = itR ((catB ms).extract 0 (k - (7 + 2 * incs.length))) j := by
        intro j
        induction j with
        | zero => exact h0
        | succ j ih => rw [edSr, ih, itR]
      have hF : firstN (edF ((entB t ep mb incs ms).extract 0 k)) = 3 := by
        have hc := cat_short ms (k - (7 + 2 * incs.length)) hM (by rw [hB, ByteArray.size_append] at hk; omega)
        unfold edF
        rw [hMp, Int.toNat_natCast, ← hc]
        congr 1
        exact List.map_congr_left fun j _ => by rw [hit]
      rw [if_neg (by rw [hN, hsz]; omega), if_neg (by rw [hMp]; omega), hF, if_pos (by decide)]
end Go.Proofs.YtdpoimomipdgjaaDoor.X
