/- What is decoded of an entry's bytes is that entry. -/
import Derived.Test.YtdpoimomipdgjaaDoorREntb
import Derived.Test.YtdpoimomipdgjaaDoorREnte
import Derived.Test.YtdpoimomipdgjaaDoorRKeys
namespace Go.Proofs.YtdpoimomipdgjaaDoor.X
open Go Go.RX Go.RowKit Go.Proofs
set_option linter.unusedVariables false
set_option linter.unusedSimpArgs false
/-! ### Texts, one behind the other -/
theorem bt_app_l (a b : ByteArray) (i : Nat) (h : i < a.size) : bt (a ++ b) (i : Int) = bt a (i : Int) := by
  have h1 : i < (a ++ b).size := by rw [ByteArray.size_append]; omega
  unfold bt
  rw [Int.toNat_natCast, dif_pos h1, dif_pos h, ByteArray.getElem_append_left h]
theorem bt_app_r (a b : ByteArray) (i : Nat) : bt (a ++ b) ((a.size + i : Nat) : Int) = bt b (i : Int) := by
  unfold bt
  rw [Int.toNat_natCast, Int.toNat_natCast]
  by_cases h : i < b.size
  · have h1 : a.size + i < (a ++ b).size := by rw [ByteArray.size_append]; omega
    rw [dif_pos h1, dif_pos h, ByteArray.getElem_append_right (by omega)]
    simp
  · have h1 : ¬ a.size + i < (a ++ b).size := by rw [ByteArray.size_append]; omega
    rw [dif_neg h1, dif_neg h]
theorem ext_app (a b : ByteArray) (i j : Nat) : (a ++ b).extract (a.size + i) (a.size + j) = b.extract i j := by
  apply ByteArray.ext
  simp only [ByteArray.data_extract, ByteArray.data_append]
  have : a.size = a.data.size := rfl
  rw [this]
  simp
theorem ext_app_l (a b : ByteArray) : (a ++ b).extract 0 a.size = a := by
  apply ByteArray.ext
  simp only [ByteArray.data_extract, ByteArray.data_append]
  have : a.size = a.data.size := rfl
  rw [this]
  simp
theorem ext_app_r (a b : ByteArray) : (a ++ b).extract a.size (a ++ b).size = b := by
  have := ext_app a b 0 b.size
  rw [Nat.add_zero] at this
  rw [ByteArray.size_append, this, ByteArray.extract_zero_size]
theorem ext_app_tail (a b : ByteArray) (i : Nat) : (a ++ b).extract (a.size + i) (a ++ b).size = b.extract i b.size := by
  rw [ByteArray.size_append]; exact ext_app a b i b.size
theorem one_bt (x : Int) (h : 0 ≤ x ∧ x < 256) : bt (strOfNums [x % 256]) 0 = x := by
  have := bt_nums [x % 256] 0 (by simp) (by simp; omega)
  rw [show (0 : Int) = ((0 : Nat) : Int) from rfl, this]
  show x % 256 = x
  omega
theorem two_told (x : Int) (h : 0 ≤ x ∧ x ≤ 65535) (r : ByteArray) : toldI (twoB x ++ r) 0 = x := by
  have hs := twoB_size x
  have h0 := bt_app_l (twoB x) r 0 (by omega)
  have h1 := bt_app_l (twoB x) r 1 (by omega)
  have g0 := bt_nums [x / 256 % 256, x % 256] 0 (by simp) (by simp; omega)
  have g1 := bt_nums [x / 256 % 256, x % 256] 1 (by simp) (by simp; omega)
  unfold toldI
  rw [show ((0 : Int) + 1) = ((1 : Nat) : Int) from rfl, h1, show (0 : Int) = ((0 : Nat) : Int) from rfl, h0]
  unfold twoB
  rw [g0, g1]
  show 256 * (x / 256 % 256) + x % 256 = x
  omega
theorem told_app (a b : ByteArray) (i : Nat) : toldI (a ++ b) ((a.size + i : Nat) : Int) = toldI b (i : Int) := by
  have h0 := bt_app_r a b i
  have h1 := bt_app_r a b (i + 1)
  unfold toldI
  rw [h0, show ((a.size + i : Nat) : Int) + 1 = ((a.size + (i + 1) : Nat) : Int) by omega, h1]
  rfl
/-! ### A message -/
theorem enc_parts {x : Msg} (hx : msgR x = true) : encB x = printB x.ext x.id ++ (strOfNums [x.sender % 256] ++ (twoB x.inc ++ (twoB x.seq ++ (twoB x.number ++ (strOfNums [(x.data.size : Int) % 256] ++ x.data))))) := by
  unfold encB
  rw [if_pos hx]
  simp only [ByteArray.append_assoc]
theorem encB_size_is {x : Msg} (hx : msgR x = true) : (encB x).size = 12 + x.data.size := by
  have hp := (print_pv (msgR_is hx).1).2
  rw [enc_parts hx]
  simp only [ByteArray.size_append, twoB_size, strOfNums_size, hp, List.length_singleton]
  omega
theorem dec_enc {x : Msg} (hx : msgR x = true) (r : ByteArray) : decE (encB x ++ r) = 0 ∧ decM (encB x ++ r) = x ∧ decR (encB x ++ r) = r := by
  obtain ⟨h1, h2, h3, h4, h5, h6⟩ := msgR_is hx
  have hp := (print_pv h1).2
  have hsz := encB_size_is hx
  have hS : (encB x ++ r).size = 12 + x.data.size + r.size := by rw [ByteArray.size_append, hsz]
  have e0 : encB x ++ r = printB x.ext x.id ++ (strOfNums [x.sender % 256] ++ (twoB x.inc ++ (twoB x.seq ++ (twoB x.number ++ (strOfNums [(x.data.size : Int) % 256] ++ (x.data ++ r)))))) := by
    rw [enc_parts hx]; simp only [ByteArray.append_assoc]
  have o1 : ∀ y : Int, (strOfNums [y]).size = 1 := fun y => by rw [strOfNums_size]; rfl
  have p4 : (encB x ++ r).extract 0 4 = printB x.ext x.id := by
    rw [e0, ← hp]; exact ext_app_l _ _
  have b4 : bt (encB x ++ r) 4 = x.sender := by
    rw [e0]
    have := bt_app_r (printB x.ext x.id) (strOfNums [x.sender % 256] ++ (twoB x.inc ++ (twoB x.seq ++ (twoB x.number ++ (strOfNums [(x.data.size : Int) % 256] ++ (x.data ++ r)))))) 0
    rw [hp] at this
    rw [show (4 : Int) = ((4 + 0 : Nat) : Int) from rfl, this, bt_app_l _ _ 0 (by rw [o1]; omega)]
    exact one_bt x.sender (by omega)
  have t5 : toldI (encB x ++ r) 5 = x.inc := by
    rw [e0]
    have := told_app (printB x.ext x.id) (strOfNums [x.sender % 256] ++ (twoB x.inc ++ (twoB x.seq ++ (twoB x.number ++ (strOfNums [(x.data.size : Int) % 256] ++ (x.data ++ r)))))) 1
    rw [hp] at this
    rw [show (5 : Int) = ((4 + 1 : Nat) : Int) from rfl, this]
    have := told_app (strOfNums [x.sender % 256]) (twoB x.inc ++ (twoB x.seq ++ (twoB x.number ++ (strOfNums [(x.data.size : Int) % 256] ++ (x.data ++ r))))) 0
    rw [o1] at this
    rw [show ((1 : Nat) : Int) = ((1 + 0 : Nat) : Int) from rfl, this]
    exact two_told x.inc (by omega) _
  have t7 : toldI (encB x ++ r) 7 = x.seq := by
    rw [e0]
    have := told_app (printB x.ext x.id) (strOfNums [x.sender % 256] ++ (twoB x.inc ++ (twoB x.seq ++ (twoB x.number ++ (strOfNums [(x.data.size : Int) % 256] ++ (x.data ++ r)))))) 3
    rw [hp] at this
    rw [show (7 : Int) = ((4 + 3 : Nat) : Int) from rfl, this]
    have := told_app (strOfNums [x.sender % 256]) (twoB x.inc ++ (twoB x.seq ++ (twoB x.number ++ (strOfNums [(x.data.size : Int) % 256] ++ (x.data ++ r))))) 2
    rw [o1] at this
    rw [show ((3 : Nat) : Int) = ((1 + 2 : Nat) : Int) from rfl, this]
    have := told_app (twoB x.inc) (twoB x.seq ++ (twoB x.number ++ (strOfNums [(x.data.size : Int) % 256] ++ (x.data ++ r)))) 0
    rw [twoB_size] at this
    rw [show ((2 : Nat) : Int) = ((2 + 0 : Nat) : Int) from rfl, this]
    exact two_told x.seq (by omega) _
  have t9 : toldI (encB x ++ r) 9 = x.number := by
    rw [e0]
    have := told_app (printB x.ext x.id) (strOfNums [x.sender % 256] ++ (twoB x.inc ++ (twoB x.seq ++ (twoB x.number ++ (strOfNums [(x.data.size : Int) % 256] ++ (x.data ++ r)))))) 5
    rw [hp] at this
    rw [show (9 : Int) = ((4 + 5 : Nat) : Int) from rfl, this]
    have := told_app (strOfNums [x.sender % 256]) (twoB x.inc ++ (twoB x.seq ++ (twoB x.number ++ (strOfNums [(x.data.size : Int) % 256] ++ (x.data ++ r))))) 4
    rw [o1] at this
    rw [show ((5 : Nat) : Int) = ((1 + 4 : Nat) : Int) from rfl, this]
    have := told_app (twoB x.inc) (twoB x.seq ++ (twoB x.number ++ (strOfNums [(x.data.size : Int) % 256] ++ (x.data ++ r)))) 2
    rw [twoB_size] at this
    rw [show ((4 : Nat) : Int) = ((2 + 2 : Nat) : Int) from rfl, this]
    have := told_app (twoB x.seq) (twoB x.number ++ (strOfNums [(x.data.size : Int) % 256] ++ (x.data ++ r))) 0
    rw [twoB_size] at this
    rw [show ((2 : Nat) : Int) = ((2 + 0 : Nat) : Int) from rfl, this]
    exact two_told x.number (by omega) _
  have hA : ∃ A : ByteArray, A.size = 12 ∧ bt A 11 = (x.data.size : Int) ∧ encB x ++ r = A ++ (x.data ++ r) := by
    refine ⟨printB x.ext x.id ++ (strOfNums [x.sender % 256] ++ (twoB x.inc ++ (twoB x.seq ++ (twoB x.number ++ strOfNums [(x.data.size : Int) % 256])))), ?_, ?_, ?_⟩
    · simp only [ByteArray.size_append, twoB_size, o1, hp]
    · have g1 := bt_app_r (printB x.ext x.id) (strOfNums [x.sender % 256] ++ (twoB x.inc ++ (twoB x.seq ++ (twoB x.number ++ strOfNums [(x.data.size : Int) % 256])))) 7
      have g2 := bt_app_r (strOfNums [x.sender % 256]) (twoB x.inc ++ (twoB x.seq ++ (twoB x.number ++ strOfNums [(x.data.size : Int) % 256]))) 6
      have g3 := bt_app_r (twoB x.inc) (twoB x.seq ++ (twoB x.number ++ strOfNums [(x.data.size : Int) % 256])) 4
      have g4 := bt_app_r (twoB x.seq) (twoB x.number ++ strOfNums [(x.data.size : Int) % 256]) 2
      have g5 := bt_app_r (twoB x.number) (strOfNums [(x.data.size : Int) % 256]) 0
      rw [hp] at g1
      rw [o1] at g2
      rw [twoB_size] at g3 g4 g5
      rw [show (11 : Int) = ((4 + 7 : Nat) : Int) from rfl, g1, show ((7 : Nat) : Int) = ((1 + 6 : Nat) : Int) from rfl, g2, show ((6 : Nat) : Int) = ((2 + 4 : Nat) : Int) from rfl, g3, show ((4 : Nat) : Int) = ((2 + 2 : Nat) : Int) from rfl, g4, show ((2 : Nat) : Int) = ((2 + 0 : Nat) : Int) from rfl, g5]
      exact one_bt _ (by omega)
    · rw [e0]; simp only [ByteArray.append_assoc]
  obtain ⟨A, hA1, hA2, hA3⟩ := hA
  have b11 : bt (encB x ++ r) 11 = (x.data.size : Int) := by
    rw [hA3, show (11 : Int) = ((11 : Nat) : Int) from rfl, bt_app_l _ _ 11 (by omega)]; exact hA2
  have d12 : (encB x ++ r).extract 12 (12 + (bt (encB x ++ r) 11).toNat) = x.data := by
    rw [b11, Int.toNat_natCast, hA3]
    have := ext_app A (x.data ++ r) 0 x.data.size
    rw [hA1] at this
    rw [show (12 : Nat) = 12 + 0 from rfl, show 12 + 0 + x.data.size = 12 + x.data.size from rfl, this]
    exact ext_app_l _ _
  have r12 : (encB x ++ r).extract (12 + (bt (encB x ++ r) 11).toNat) (encB x ++ r).size = r := by
    rw [b11, Int.toNat_natCast, hA3]
    have := ext_app_tail A (x.data ++ r) x.data.size
    rw [hA1] at this
    rw [this]; exact ext_app_r _ _
  have m0 : decM0 (encB x ++ r) = x := by
    unfold decM0
    rw [p4, b4, t5, t7, t9, d12, parse_printB h1, parse_printE h1, parse_printN h1]
    rfl
  have hE : decE (encB x ++ r) = 0 := by
    unfold decE
    rw [if_neg (by omega), if_neg (by rw [b11]; omega), if_neg (by rw [b11, hS]; omega), m0, p4, parse_printX h1, hx, if_neg (by decide)]
  refine ⟨hE, ?_, ?_⟩
  · unfold decM; rw [if_pos hE, m0]
  · unfold decR; rw [if_pos hE, r12]
/-! ### An entry -/
def catB : List Msg → ByteArray
  | [] => .empty
  | x :: l => encB x ++ catB l
def catI : List Int → ByteArray
  | [] => .empty
  | x :: l => twoB x ++ catI l
theorem emp_app (b : ByteArray) : ByteArray.empty ++ b = b := by apply ByteArray.ext; simp
theorem app_emp (b : ByteArray) : b ++ ByteArray.empty = b := by apply ByteArray.ext; simp
theorem catB_app (l m : List Msg) : catB (l ++ m) = catB l ++ catB m := by
  induction l with
  | nil => exact (emp_app _).symm
  | cons x l ih => rw [List.cons_append, catB, ih, catB, ByteArray.append_assoc]
theorem catI_app (l m : List Int) : catI (l ++ m) = catI l ++ catI m := by
  induction l with
  | nil => exact (emp_app _).symm
  | cons x l ih => rw [List.cons_append, catI, ih, catI, ByteArray.append_assoc]
theorem catI_size (l : List Int) : (catI l).size = 2 * l.length := by
  induction l with
  | nil => rfl
  | cons x l ih => rw [catI, ByteArray.size_append, twoB_size, ih, List.length_cons]; omega
theorem encL_cat (b : ByteArray) (l : List Msg) : ∀ k, k ≤ l.length → encL b l k = b ++ catB (l.take k)
  | 0, _ => (app_emp b).symm
  | k + 1, h => by
    have hlt : k < l.length := by omega
    rw [encL, encL_cat b l k (by omega), List.take_succ_eq_append_getElem hlt, catB_app, List.getD_eq_getElem?_getD, List.getElem?_eq_getElem hlt, ByteArray.append_assoc]
    congr 2
    all_goals exact (app_emp _).symm
theorem encI_cat (b : ByteArray) (l : List Int) : ∀ k, k ≤ l.length → encI b l k = b ++ catI (l.take k)
  | 0, _ => (app_emp b).symm
  | k + 1, h => by
    have hlt : k < l.length := by omega
    rw [encI, encI_cat b l k (by omega), List.take_succ_eq_append_getElem hlt, catI_app, List.getD_eq_getElem?_getD, List.getElem?_eq_getElem hlt, ByteArray.append_assoc]
    congr 2
    all_goals exact (app_emp _).symm
/-- An entry's bytes, part by part. -/
theorem entB_parts {t ep mb : Int} {incs : List Int} {ms : List Msg} (h : entR t ep mb incs ms = true) : entB t ep mb incs ms = twoB t ++ (twoB ep ++ (twoB mb ++ (catI incs ++ (strOfNums [(ms.length : Int) % 256] ++ catB ms)))) := by
  unfold entB encH
  rw [if_pos h, encL_cat _ _ _ (Nat.le_refl _), encI_cat _ _ _ (Nat.le_refl _), List.take_length, List.take_length]
  simp only [ByteArray.append_assoc]
theorem told_cat : ∀ (l : List Int) (r : ByteArray) (i : Nat) (hi : i < l.length), (∀ x ∈ l, 0 ≤ x ∧ x ≤ 65535) → toldI (catI l ++ r) ((2 * i : Nat) : Int) = l[i]
  | x :: l, r, 0, hi, h => by
    rw [catI, ByteArray.append_assoc]
    exact two_told x (h x (List.mem_cons_self ..)) _
  | x :: l, r, i + 1, hi, h => by
    rw [catI, ByteArray.append_assoc]
    have := told_app (twoB x) (catI l ++ r) (2 * i)
    rw [twoB_size] at this
    rw [show ((2 * (i + 1) : Nat) : Int) = ((2 + 2 * i : Nat) : Int) by omega, this]
    exact told_cat l r i (Nat.lt_of_succ_lt_succ hi) fun y hy => h y (List.mem_cons_of_mem _ hy)
theorem map_range_is {α : Type} (l : List α) (f : Nat → α) (h : ∀ i (hi : i < l.length), f i = l[i]) : (List.range l.length).map f = l := by
  refine List.ext_getElem (by simp) fun i g1 g2 => ?_
  simp only [List.getElem_map, List.getElem_range]
  exact h i g2
theorem dec_ent {t ep mb : Int} {incs : List Int} {ms : List Msg} (h : entR t ep mb incs ms = true) (r : ByteArray) (s : ByteArray) (hs : s = entB t ep mb incs ms ++ r) :
    edE s = 0 ∧ edT s 0 = t ∧ edT s 2 = ep ∧ edT s 4 = mb ∧ edI s = incs ∧ edL s = ms ∧ edR s = r := by
  obtain ⟨h1, h2, h3, h4, h5⟩ := entR_is h
  have hfew := entR_few h
  have hM : ∀ k, k < ms.length → msgR (ms.getD k d_msg) = true := fun k hk => by
    have hR := h
    unfold entR at hR
    exact entM_is (List.all_eq_true.mp (Bool.and_eq_true_iff.mp hR).2 k (List.mem_range.mpr hk))
  have o1 : ∀ y : Int, (strOfNums [y]).size = 1 := fun y => by rw [strOfNums_size]; rfl
  have e0 : s = twoB t ++ (twoB ep ++ (twoB mb ++ (catI incs ++ (strOfNums [(ms.length : Int) % 256] ++ (catB ms ++ r))))) := by
    rw [hs, entB_parts h]; simp only [ByteArray.append_assoc]
  have hsz : s.size = 7 + 2 * incs.length + (catB ms ++ r).size := by
    rw [e0]; simp only [ByteArray.size_append, twoB_size, o1, catI_size]; omega
  have T0 : toldI s 0 = t := by rw [e0]; exact two_told t (by omega) _
  have T2 : toldI s 2 = ep := by
    rw [e0]
    have := told_app (twoB t) (twoB ep ++ (twoB mb ++ (catI incs ++ (strOfNums [(ms.length : Int) % 256] ++ (catB ms ++ r))))) 0
    rw [twoB_size] at this
    rw [show (2 : Int) = ((2 + 0 : Nat) : Int) from rfl, this]
    exact two_told ep (by omega) _
  have T4 : toldI s 4 = mb := by
    rw [e0]
    have g1 := told_app (twoB t) (twoB ep ++ (twoB mb ++ (catI incs ++ (strOfNums [(ms.length : Int) % 256] ++ (catB ms ++ r))))) 2
    have g2 := told_app (twoB ep) (twoB mb ++ (catI incs ++ (strOfNums [(ms.length : Int) % 256] ++ (catB ms ++ r)))) 0
    rw [twoB_size] at g1 g2
    rw [show (4 : Int) = ((2 + 2 : Nat) : Int) from rfl, g1, show ((2 : Nat) : Int) = ((2 + 0 : Nat) : Int) from rfl, g2]
    exact two_told mb (by omega) _
  obtain ⟨A, hA1, hA⟩ : ∃ A : ByteArray, A.size = 6 ∧ s = A ++ (catI incs ++ (strOfNums [(ms.length : Int) % 256] ++ (catB ms ++ r))) :=
    ⟨twoB t ++ (twoB ep ++ twoB mb), by simp only [ByteArray.size_append, twoB_size], by rw [e0]; simp only [ByteArray.append_assoc]⟩
  have hN : edN s = incs.length := by unfold edN; rw [T4, h4]
  have hI : edI0 s (edN s) = incs := by
    rw [hN]
    refine map_range_is incs _ fun i g2 => ?_
    have := told_app A (catI incs ++ (strOfNums [(ms.length : Int) % 256] ++ (catB ms ++ r))) (2 * i)
    rw [hA1] at this
    rw [hA, show (6 : Int) + 2 * (i : Int) = ((6 + 2 * i : Nat) : Int) by omega, this]
    exact told_cat incs _ i g2 (fun x hx => by have := h5 x hx; omega)
  obtain ⟨B, hB1, hB⟩ : ∃ B : ByteArray, B.size = 6 + 2 * incs.length ∧ s = B ++ (strOfNums [(ms.length : Int) % 256] ++ (catB ms ++ r)) :=
    ⟨A ++ catI incs, by rw [ByteArray.size_append, hA1, catI_size], by rw [hA]; simp only [ByteArray.append_assoc]⟩
  have hMn : edM s = (ms.length : Int) := by
    unfold edM
    rw [hN]
    have := bt_app_r B (strOfNums [(ms.length : Int) % 256] ++ (catB ms ++ r)) 0
    rw [hB1] at this
    rw [show (6 : Int) + 2 * (incs.length : Int) = ((6 + 2 * incs.length + 0 : Nat) : Int) by omega, hB, this, bt_app_l _ _ 0 (by rw [o1]; omega)]
    exact one_bt _ (by omega)
  have h0 : edSr s 0 = catB ms ++ r := by
    unfold edSr
    rw [hN, hB]
    have := ext_app_tail B (strOfNums [(ms.length : Int) % 256] ++ (catB ms ++ r)) 1
    rw [hB1] at this
    rw [show 7 + 2 * incs.length = 6 + 2 * incs.length + 1 by omega, this]
    have := ext_app_r (strOfNums [(ms.length : Int) % 256]) (catB ms ++ r)
    rw [o1] at this
    exact this
  have step : ∀ k, k ≤ ms.length → edSr s k = catB (ms.drop k) ++ r ∧ edSm s k = ms.take k ∧ (∀ j, j < k → decE (edSr s j) = 0) := by
    intro k
    induction k with
    | zero => intro _; exact ⟨h0, rfl, fun j hj => absurd hj (Nat.not_lt_zero _)⟩
    | succ k ih =>
      intro hk
      obtain ⟨q1, q2, q3⟩ := ih (by omega)
      have hlt : k < ms.length := by omega
      have hx : msgR ms[k] = true := by
        have := hM k hlt
        rwa [List.getD_eq_getElem?_getD, List.getElem?_eq_getElem hlt] at this
      have e1 : edSr s k = encB ms[k] ++ (catB (ms.drop (k + 1)) ++ r) := by
        rw [q1, List.drop_eq_getElem_cons hlt, catB, ByteArray.append_assoc]
      obtain ⟨d1, d2, d3⟩ := dec_enc hx (catB (ms.drop (k + 1)) ++ r)
      refine ⟨?_, ?_, fun j hj => ?_⟩
      · rw [edSr, e1]; exact d3
      · rw [edSm, q2, e1, d2, List.take_succ_eq_append_getElem hlt]
      · by_cases c : j = k
        · subst c; rw [e1]; exact d1
        · exact q3 j (by omega)
  obtain ⟨s1, s2, s3⟩ := step ms.length (Nat.le_refl _)
  rw [List.drop_length] at s1
  rw [List.take_length] at s2
  have hnat : (edM s).toNat = ms.length := by rw [hMn]; rfl
  have hF : firstN (edF s) = 0 := firstN_zero fun x hx => by
    unfold edF at hx
    rw [hnat] at hx
    obtain ⟨j, hj, rfl⟩ := List.mem_map.mp hx
    exact s3 j (List.mem_range.mp hj)
  have hE : edE s = 0 := by
    unfold edE
    rw [if_neg (by omega), if_neg (by rw [hN]; omega), if_neg (by rw [hMn]; omega), hF, if_neg (by decide), T0, T2, T4, hI, hnat, s2, if_pos h]
  refine ⟨hE, (if_pos hE).trans T0, (if_pos hE).trans T2, (if_pos hE).trans T4, (if_pos hE).trans hI, ?_, ?_⟩
  · unfold edL; rw [if_pos hE, hnat, s2]
  · unfold edR; rw [if_pos hE, hnat, s1]; exact emp_app r
end Go.Proofs.YtdpoimomipdgjaaDoor.X
