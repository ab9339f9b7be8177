/- Sums, texts that are closed and opened, and bits that are turned, are as the document says. For every register, text, place and mask; no condition. -/
import Derived.Test.YthnnnhbfhimkpaaLinkR2
set_option linter.unusedVariables false
set_option linter.unusedSimpArgs false
namespace Go.Proofs.Ythnnnhbfhimkpaa.Pure
open Go.RowKit Go.Proofs.Ythnnnhbfhimkpaa.R Go.Proofs.YthnnnhbfhimkpaaW.PrintWords Go.Proofs.YthnnnhbfhimkpaaW.PrintLast Go.Proofs.YthnnnhbfhimkpaaW.PrintMore Go.Proofs.Ythnnnhbfhimkpaa.Math Go.Proofs.Ythnnnhbfhimkpaa.LinkR

theorem one_round (a2 a3 : Int) (h2 : (Lit.int .i64 a2).wf = true) (h3 : (Lit.int .i64 a3).wf = true) (ys : List ByteArray) (hys : ∀ y, y ∈ ys → y.size ≤ 400) (hn : ys.length ≤ 10) (d : Nat) :
    ∀ (k i : Nat), i ≤ ys.length → ys.length - i = d → 5000 + d < k → omnibuslaw01_CrcTells.l0 k a2 a3 true ys (ys.length : Int) (i : Int) = some true := by
  induction d with
  | zero =>
    intro k i h1 hd hk
    obtain ⟨k, rfl⟩ : ∃ m, k = m + 1 := ⟨k - 1, by omega⟩
    unfold omnibuslaw01_CrcTells.l0
    rw [if_neg (by omega)]
  | succ d ih =>
    intro k i h1 hd hk
    obtain ⟨k, rfl⟩ : ∃ m, k = m + 1 := ⟨k - 1, by omega⟩
    unfold omnibuslaw01_CrcTells.l0
    have hy : (rdOf ByteArray.empty ys (i : Int)).size ≤ 400 := by
      apply hys
      unfold rdOf
      rw [Int.toNat_natCast, List.getD_eq_getElem?_getD, List.getElem?_eq_getElem (show i < ys.length by omega)]
      exact List.getElem_mem _
    rw [if_pos (by omega), if_pos (by omega), if_pos (by omega)]
    generalize rdOf ByteArray.empty ys (i : Int) = y at hy
    have hro := ropen_eq k y (by omega) (by omega)
    obtain ⟨q, hq⟩ : ∃ q, crc_Open.f k y = some q := by
      cases ho : opens y.data.toList with
      | true => exact ⟨_, open_yes k y (by omega) (by omega) ho⟩
      | false => exact ⟨_, open_no k y (by omega) (by omega) ho⟩
    rw [hro, hq, Option.bind_some, Option.bind_some, wrap64_id (8 * (y.size : Int)) (by omega) (by omega), wrap64_id _ (by omega) (by omega), show 8 * (y.size : Int) + 1 = ((8 * y.size + 1 : Nat) : Int) by omega]
    obtain ⟨r, hr, hp⟩ := pick_eq a2 (8 * y.size + 1) h2 (by omega)
    have b2 := i64_bounds h2
    have b3 := i64_bounds h3
    obtain ⟨u, hu1, hu2⟩ := rburst_eq y a2 a3 (by omega) (by omega) b3
    obtain ⟨v, hv1, hv2⟩ := rburst_eq y (r : Int) a3 (by omega) (by omega) b3
    rw [hp, Option.bind_some, if_pos rfl, if_neg (by simp), hu1, hu2, Option.bind_some, Option.bind_some, if_pos rfl, hv1, hv2, Option.bind_some, Option.bind_some, if_pos rfl, wrap64_id _ (by omega) (by omega), show (i : Int) + 1 = ((i + 1 : Nat) : Int) by omega]
    exact ih k (i + 1) (by omega) (by omega) (by omega)
theorem CrcTells : omnibuslaw01_CrcTells.Pure := by
  intro a0 a1 a2 a3 h0 h1 h2 h3
  refine ⟨9000, ?_⟩
  unfold omnibuslaw01_CrcTells.f
  rw [awake_eq 9000 (by omega), Option.bind_some, if_pos (mn_ge a1), if_pos (mn_le a1), cut_eq]
  have hc := cut_max a1
  generalize cut a1 = x at hc
  have hl := size_list x
  have b0 := i64_bounds h0
  have b3 := i64_bounds h3
  have b2 := i64_bounds h2
  have hcl : (ofL (close x.data.toList)).size = x.size + 2 := by rw [ofL_size, close_length]; omega
  rw [add_eq 9000 a0 x (by omega) (by omega), Option.bind_some, radd_eq 9000 a0 b0 x (by omega) (by omega), Option.bind_some, if_pos rfl, sum_eq 9000 x (by omega) (by omega), Option.bind_some, rsum_eq 9000 x (by omega) (by omega), Option.bind_some, if_pos rfl, close_eq 9000 x (by omega) (by omega), Option.bind_some, rclose_eq 9000 x (by omega) (by omega), Option.bind_some, bne_self_eq_false]
  obtain ⟨u, hu1, hu2⟩ := rburst_eq (ofL (close x.data.toList)) a2 a3 (by omega) (by omega) b3
  have hus : u.size ≤ 400 := by
    by_cases c : 0 ≤ a2 ∧ a2 < 8 * ((ofL (close x.data.toList)).size : Int)
    · obtain ⟨k, rfl⟩ : ∃ k : Nat, a2 = k := ⟨a2.toNat, by omega⟩
      rw [burst_eq _ k a3 (by omega) (by omega)] at hu2
      rw [← Option.some.inj hu2, ofL_size, xors_length _ _ (err_length _ _ _).symm, ← size_list]
      omega
    · have : crc_Burst.f (ofL (close x.data.toList)) a2 a3 = some (ofL (close x.data.toList)) := by
        unfold crc_Burst.f
        by_cases c0 : a2 < 0
        · rw [if_pos c0]
        · rw [if_neg c0, if_pos (by rw [Int.tdiv_eq_ediv_of_nonneg (by omega), wrap64_id _ (by omega) (by omega)]; omega)]
      rw [this] at hu2
      rw [← Option.some.inj hu2]
      omega
  simp only [omnibuslaw01_CrcTells.j0]
  rw [if_neg (by decide), rclose_eq 8999 x (by omega) (by omega), Option.bind_some, Option.bind_some, hu1, Option.bind_some, Option.bind_some]
  exact one_round a2 a3 h2 h3 [x, ofL (close x.data.toList), u] (by intro y hy; simp at hy; rcases hy with e | e | e <;> subst e <;> omega) (by simp) 3 8999 0 (by omega) rfl (by omega)

end Go.Proofs.Ythnnnhbfhimkpaa.Pure
