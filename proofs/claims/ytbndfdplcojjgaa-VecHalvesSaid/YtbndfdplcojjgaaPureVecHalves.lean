/- The plain law VecHalves: two vectors that have more than half of n each have a node in common. -/
import Derived.Test.YtbndfdplcojjgaaQx8
import Derived.Test.YtbndfdplcojjgaaCount
namespace Go.Proofs.Ytbndfdplcojjgaa.Pure
open Go.RowKit Go.Proofs.Ytbndfdplcojjgaa.Q Go.Proofs.YtbndfdplcojjgaaW.PrintWords Go.Proofs.YtbndfdplcojjgaaW.PrintLast Go.Proofs.Ytbndfdplcojjgaa.Count

theorem lor_lt (a b : Nat) (ha : a < 65536) (hb : b < 65536) : a ||| b < 65536 := Nat.or_lt_two_pow (n := 16) ha hb
/-- What stands behind the loop, if a and b are not both in the most or a node is in both. -/
theorem j1_true (k n a b : Nat) (h1 : 1 ≤ n) (hn : n ≤ 16) (ha : a < 65536) (hb : b < 65536) : omnibuslaw03_VecHalves.j1 (k + 1) true (n : Int) (a : Int) (b : Int) false = some true := by
  have ca := cN_le a.testBit n
  have l := all_lt n hn
  have eAll : vec_Most.f ((2 ^ n - 1 : Nat) : Int) (n : Int) = some true := by
    rw [most_nat _ n l h1 hn, cN_congr _ (fun _ => true) n (fun i hi => by rw [Nat.testBit_two_pow_sub_one]; exact decide_eq_true hi), cN_true]
    congr 1; apply decide_eq_true; omega
  have eNone : vec_Most.f (0 : Int) (n : Int) = some false := by
    have := most_nat 0 n (by omega) h1 hn
    rw [cN_congr _ (fun _ => false) n (fun i hi => Nat.zero_testBit i), cN_false] at this
    exact this.trans (by congr 1)
  have eA := most_nat a n ha h1 hn
  have eO := most_nat (a ||| b) n (lor_lt a b ha hb) h1 hn
  have mo : cN a.testBit n ≤ cN (a ||| b).testBit n := cN_mono _ _ n (fun i _ h => by rw [Nat.testBit_or, h]; rfl)
  have eC := most_nat (65535 - a) n (by omega) h1 hn
  have ap := cN_apart a.testBit (65535 - a).testBit n (fun i hi h => by
    have e := Nat.testBit_two_pow_sub_succ (x := a) (n := 16) ha i
    rw [show 2 ^ 16 - (a + 1) = 65535 - a by omega] at e
    rw [e, h.1] at h; simp at h)
  have eW : wrap64 (65535 - (a : Int)) = ((65535 - a : Nat) : Int) := by rw [w64 _ (by omega) (by omega)]; omega
  have eOr : Go.bits .or .i64 (a : Int) (b : Int) = ((a ||| b : Nat) : Int) := or_nat a b (by omega) (by omega)
  rw [omnibuslaw03_VecHalves.j1]
  by_cases c : n < 2 * cN a.testBit n
  · rw [decide_eq_true c] at eA
    rw [decide_eq_false (show ¬ n < 2 * cN (65535 - a).testBit n by omega)] at eC
    rw [decide_eq_true (show n < 2 * cN (a ||| b).testBit n by omega)] at eO
    simp only [eW, eOr, eA, eO, eC, eNone, all_nat n hn, eAll, Option.bind_some, if_true, if_false, Bool.false_eq_true]
  · rw [decide_eq_false c] at eA
    simp only [eW, eOr, eA, eNone, all_nat n hn, eAll, Option.bind_some, if_true, if_false, Bool.false_eq_true]
/-- Whether one of the first i nodes is in both. -/
def bothTo (a b : Nat) : Nat → Bool
  | 0 => false
  | i + 1 => bothTo a b i || (a.testBit i && b.testBit i)
theorem bothTo_false (a b : Nat) : ∀ i, bothTo a b i = false → ∀ j, j < i → ¬ (a.testBit j = true ∧ b.testBit j = true) := by
  intro i
  induction i with
  | zero => intro _ j h; omega
  | succ i ih =>
    intro h j hj hh
    unfold bothTo at h
    have h' := Bool.or_eq_false_iff.mp h
    by_cases c : j = i
    · subst c; rw [hh.1, hh.2] at h'; exact absurd h'.2 (by decide)
    · exact ih h'.1 j (by omega) hh
theorem l0_true (n a b : Nat) (h1 : 1 ≤ n) (hn : n ≤ 16) (ha : a < 65536) (hb : b < 65536) : ∀ d i : Nat, i + d = n → omnibuslaw03_VecHalves.l0 (d + 2) true (n : Int) (a : Int) (b : Int) (bothTo a b i) (i : Int) = some true := by
  intro d
  induction d with
  | zero =>
    intro i hi
    have e : i = n := by omega
    subst e
    have ea := most_nat a i ha h1 hn
    have eb := most_nat b i hb h1 hn
    rw [omnibuslaw03_VecHalves.l0, if_neg (by omega), ea, Option.bind_some, eb, Option.bind_some]
    by_cases c : i < 2 * cN a.testBit i
    · rw [decide_eq_true c, if_pos rfl]
      by_cases c' : i < 2 * cN b.testBit i
      · rw [decide_eq_true c', if_pos rfl]
        cases e : bothTo a b i with
        | true => exact j1_true 0 i a b h1 hn ha hb
        | false =>
          have := cN_apart a.testBit b.testBit i (bothTo_false a b i e)
          omega
      · rw [decide_eq_false c', if_neg (by decide)]; exact j1_true 0 i a b h1 hn ha hb
    · rw [decide_eq_false c, if_neg (by decide)]; exact j1_true 0 i a b h1 hn ha hb
  | succ d ih =>
    intro i hi
    have st := ih (i + 1) (by omega)
    have ew : wrap64 ((i : Int) + 1) = ((i + 1 : Nat) : Int) := by rw [w64 _ (by omega) (by omega)]; omega
    rw [omnibuslaw03_VecHalves.l0, if_pos (by omega), has_nat a i ha (by omega), has_nat b i hb (by omega), ew, Option.bind_some, Option.bind_some]
    unfold bothTo at st
    cases e : bothTo a b i with
    | true => rw [e] at st; rw [if_pos rfl]; exact st
    | false =>
      rw [e] at st; rw [if_neg (by decide)]
      cases ea : a.testBit i with
      | true => rw [ea] at st; rw [if_pos rfl]; simpa using st
      | false => rw [ea] at st; rw [if_neg (by decide)]; exact st
theorem VecHalves : omnibuslaw03_VecHalves.Pure := by
  intro a0 a1 a2 w0 w1 w2
  obtain ⟨a, ha, ea⟩ := pick_nat a0 65536 w0 (by omega) (by omega)
  obtain ⟨b, hb, eb⟩ := pick_nat a1 65536 w1 (by omega) (by omega)
  obtain ⟨m, hm, em⟩ := pick_nat a2 16 w2 (by omega) (by omega)
  refine ⟨(m + 1) + 2 + 8, ?_⟩
  have aw : omnibuslaw03_awake.f ((m + 1) + 2 + 8) = some true := by
    have : ∀ j, omnibuslaw03_awake.f (8 + j) = some true := by
      intro j
      induction j with
      | zero => exact awake_true
      | succ j ih => exact (omnibuslaw03_awake.mono _ _ ih)
    rw [show (m + 1) + 2 + 8 = 8 + (m + 1 + 2) by omega]; exact this _
  have ew : wrap64 (1 + (m : Int)) = ((m + 1 : Nat) : Int) := by rw [w64 _ (by omega) (by omega)]; omega
  unfold omnibuslaw03_VecHalves.f
  rw [aw, Option.bind_some, em, Option.bind_some, ea, Option.bind_some, eb, Option.bind_some, ew]
  have l := l0_true (m + 1) a b (by omega) (by omega) (by omega) (by omega) (m + 1) 0 (by omega)
  have : ∀ j, omnibuslaw03_VecHalves.l0 ((m + 1) + 2 + j) true ((m + 1 : Nat) : Int) (a : Int) (b : Int) false 0 = some true := by
    intro j
    induction j with
    | zero => exact l
    | succ j ih => exact (omnibuslaw03_VecHalves.mono_l _).1 _ _ _ _ _ _ _ ih
  exact this 8
end Go.Proofs.Ytbndfdplcojjgaa.Pure
