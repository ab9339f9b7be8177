/- Go functions as Lean functions, each with a proof that the machine's call comes to what its Lean function tells; no condition beside those that each theorem states. Written by this project's program drive.py. -/
import Derived.Test.YtbndfdplcojjgaaQx0
import Derived.Test.YtbndfdplcojjgaaQx1
import Derived.Test.YtbndfdplcojjgaaQx2
import Derived.Test.YtbndfdplcojjgaaQx6
import Derived.Test.YtbndfdplcojjgaaQx7
namespace Go.Proofs.Ytbndfdplcojjgaa.Q
open Go.RowKit Go.Proofs.YtbndfdplcojjgaaW.PrintWords Go.Proofs.YtbndfdplcojjgaaW.PrintLast Go.Proofs.YtbndfdplcojjgaaW.PrintMore
attribute [local go_sem] max2_int min2_int max_two min_two max_three min_three max_four min_four   -- for this text's walks alone
set_option linter.unusedVariables false
set_option linter.unusedSimpArgs false

/-! ### omnibuslaw03_VecAlls: function 4 -/
def omnibuslaw03_VecAlls.f (k : Nat) (a0 : Int) (a1 : Int) : Option (Bool) := (omnibuslaw03_awake.f k).bind fun t152 => ((omnibuslaw03_pick.f a0 17).bind fun t153 => ((omnibuslaw03_pick.f a1 17).bind fun t154 => (if t152 = true then ((vec_All.f t153).bind fun t155 => ((vec_All.f t154).bind fun t156 => ((vec_All.f (mn t153 t154)).bind fun t157 => (if (Go.bits .and .i64 t155 t156) = t157 then ((vec_All.f t153).bind fun t158 => ((vec_Count.f t158).bind fun t159 => (if t159 = t153 then (if t154 = 0 then ((vec_All.f t153).bind fun t160 => ((vec_Most.f t160 0).bind fun t161 => (some (!t161)))) else ((vec_All.f t153).bind fun t162 => ((vec_Most.f t162 t154).bind fun t163 => (if (t163 == (decide ((wrap64 (2 * (mn t153 t154))) > t154))) = true then ((vec_All.f t153).bind fun t164 => ((vec_Most.f t164 0).bind fun t165 => (some (!t165)))) else (some false))))) else (some false)))) else (some false))))) else (some false))))
theorem omnibuslaw03_VecAlls.mono : ∀ a0 a1 k, LeO (omnibuslaw03_VecAlls.f k a0 a1) (omnibuslaw03_VecAlls.f (k + 1) a0 a1) := by
  intro a0 a1 k
  unfold omnibuslaw03_VecAlls.f
  repeat' first
      | (with_reducible exact omnibuslaw03_awake.mono _)
      | (with_reducible exact LeO.refl _)
      | (with_reducible exact LeO.none _)
      | (with_reducible refine LeO.ite ?_ ?_)
      | (with_reducible refine LeO.bind ?_ (fun _ => ?_))
      | exact omnibuslaw03_awake.mono _
      | exact LeO.none _
      | refine LeO.ite ?_ ?_
      | refine LeO.bind ?_ (fun _ => ?_)
set_option maxHeartbeats 8000000 in
set_option maxRecDepth 100000 in
theorem omnibuslaw03_VecAlls.calls (k : Nat) (a0 : Int) (a1 : Int) (r : Bool) (w : World) (h : omnibuslaw03_VecAlls.f k a0 a1 = some r) :
    Calls Try.prog 4 #[.int .i64 a0, .int .i64 a1] w fun e w' => e = .returned (.bool r) ∧ Below w.heap.size w w' := by
  have HB := Aside0.mk (Below.refl w.heap.size w)
  have H : ((omnibuslaw03_awake.f k).bind fun t152 => ((omnibuslaw03_pick.f a0 17).bind fun t153 => ((omnibuslaw03_pick.f a1 17).bind fun t154 => (if t152 = true then ((vec_All.f t153).bind fun t155 => ((vec_All.f t154).bind fun t156 => ((vec_All.f (mn t153 t154)).bind fun t157 => (if (Go.bits .and .i64 t155 t156) = t157 then ((vec_All.f t153).bind fun t158 => ((vec_Count.f t158).bind fun t159 => (if t159 = t153 then (if t154 = 0 then ((vec_All.f t153).bind fun t160 => ((vec_Most.f t160 0).bind fun t161 => (some (!t161)))) else ((vec_All.f t153).bind fun t162 => ((vec_Most.f t162 t154).bind fun t163 => (if (t163 == (decide ((wrap64 (2 * (mn t153 t154))) > t154))) = true then ((vec_All.f t153).bind fun t164 => ((vec_Most.f t164 0).bind fun t165 => (some (!t165)))) else (some false))))) else (some false)))) else (some false))))) else (some false))))) = some r := h
  clear h
  replace H := Option.bind_eq_some_iff.mp H
  obtain ⟨t152, A30, H⟩ := H
  replace H : ((omnibuslaw03_pick.f a0 17).bind fun t153 => ((omnibuslaw03_pick.f a1 17).bind fun t154 => (if t152 = true then ((vec_All.f t153).bind fun t155 => ((vec_All.f t154).bind fun t156 => ((vec_All.f (mn t153 t154)).bind fun t157 => (if (Go.bits .and .i64 t155 t156) = t157 then ((vec_All.f t153).bind fun t158 => ((vec_Count.f t158).bind fun t159 => (if t159 = t153 then (if t154 = 0 then ((vec_All.f t153).bind fun t160 => ((vec_Most.f t160 0).bind fun t161 => (some (!t161)))) else ((vec_All.f t153).bind fun t162 => ((vec_Most.f t162 t154).bind fun t163 => (if (t163 == (decide ((wrap64 (2 * (mn t153 t154))) > t154))) = true then ((vec_All.f t153).bind fun t164 => ((vec_Most.f t164 0).bind fun t165 => (some (!t165)))) else (some false))))) else (some false)))) else (some false))))) else (some false)))) = some r := H
  have A3 := Aside0.mk A30
  clear A30
  replace H := Option.bind_eq_some_iff.mp H
  obtain ⟨t153, A40, H⟩ := H
  replace H : ((omnibuslaw03_pick.f a1 17).bind fun t154 => (if t152 = true then ((vec_All.f t153).bind fun t155 => ((vec_All.f t154).bind fun t156 => ((vec_All.f (mn t153 t154)).bind fun t157 => (if (Go.bits .and .i64 t155 t156) = t157 then ((vec_All.f t153).bind fun t158 => ((vec_Count.f t158).bind fun t159 => (if t159 = t153 then (if t154 = 0 then ((vec_All.f t153).bind fun t160 => ((vec_Most.f t160 0).bind fun t161 => (some (!t161)))) else ((vec_All.f t153).bind fun t162 => ((vec_Most.f t162 t154).bind fun t163 => (if (t163 == (decide ((wrap64 (2 * (mn t153 t154))) > t154))) = true then ((vec_All.f t153).bind fun t164 => ((vec_Most.f t164 0).bind fun t165 => (some (!t165)))) else (some false))))) else (some false)))) else (some false))))) else (some false))) = some r := H
  have A4 := Aside0.mk A40
  clear A40
  replace H := Option.bind_eq_some_iff.mp H
  obtain ⟨t154, A50, H⟩ := H
  replace H : (if t152 = true then ((vec_All.f t153).bind fun t155 => ((vec_All.f t154).bind fun t156 => ((vec_All.f (mn t153 t154)).bind fun t157 => (if (Go.bits .and .i64 t155 t156) = t157 then ((vec_All.f t153).bind fun t158 => ((vec_Count.f t158).bind fun t159 => (if t159 = t153 then (if t154 = 0 then ((vec_All.f t153).bind fun t160 => ((vec_Most.f t160 0).bind fun t161 => (some (!t161)))) else ((vec_All.f t153).bind fun t162 => ((vec_Most.f t162 t154).bind fun t163 => (if (t163 == (decide ((wrap64 (2 * (mn t153 t154))) > t154))) = true then ((vec_All.f t153).bind fun t164 => ((vec_Most.f t164 0).bind fun t165 => (some (!t165)))) else (some false))))) else (some false)))) else (some false))))) else (some false)) = some r := H
  have A5 := Aside0.mk A50
  clear A50
  by_cases c6 : t152 = true
  · subst c6
    have H1 : ((vec_All.f t153).bind fun t155 => ((vec_All.f t154).bind fun t156 => ((vec_All.f (mn t153 t154)).bind fun t157 => (if (Go.bits .and .i64 t155 t156) = t157 then ((vec_All.f t153).bind fun t158 => ((vec_Count.f t158).bind fun t159 => (if t159 = t153 then (if t154 = 0 then ((vec_All.f t153).bind fun t160 => ((vec_Most.f t160 0).bind fun t161 => (some (!t161)))) else ((vec_All.f t153).bind fun t162 => ((vec_Most.f t162 t154).bind fun t163 => (if (t163 == (decide ((wrap64 (2 * (mn t153 t154))) > t154))) = true then ((vec_All.f t153).bind fun t164 => ((vec_Most.f t164 0).bind fun t165 => (some (!t165)))) else (some false))))) else (some false)))) else (some false))))) = some r := by rw [if_pos rfl] at H; exact H
    clear H
    have H := H1
    clear H1
    replace H := Option.bind_eq_some_iff.mp H
    obtain ⟨t155, A70, H⟩ := H
    replace H : ((vec_All.f t154).bind fun t156 => ((vec_All.f (mn t153 t154)).bind fun t157 => (if (Go.bits .and .i64 t155 t156) = t157 then ((vec_All.f t153).bind fun t158 => ((vec_Count.f t158).bind fun t159 => (if t159 = t153 then (if t154 = 0 then ((vec_All.f t153).bind fun t160 => ((vec_Most.f t160 0).bind fun t161 => (some (!t161)))) else ((vec_All.f t153).bind fun t162 => ((vec_Most.f t162 t154).bind fun t163 => (if (t163 == (decide ((wrap64 (2 * (mn t153 t154))) > t154))) = true then ((vec_All.f t153).bind fun t164 => ((vec_Most.f t164 0).bind fun t165 => (some (!t165)))) else (some false))))) else (some false)))) else (some false)))) = some r := H
    have A7 := Aside0.mk A70
    clear A70
    replace H := Option.bind_eq_some_iff.mp H
    obtain ⟨t156, A80, H⟩ := H
    replace H : ((vec_All.f (mn t153 t154)).bind fun t157 => (if (Go.bits .and .i64 t155 t156) = t157 then ((vec_All.f t153).bind fun t158 => ((vec_Count.f t158).bind fun t159 => (if t159 = t153 then (if t154 = 0 then ((vec_All.f t153).bind fun t160 => ((vec_Most.f t160 0).bind fun t161 => (some (!t161)))) else ((vec_All.f t153).bind fun t162 => ((vec_Most.f t162 t154).bind fun t163 => (if (t163 == (decide ((wrap64 (2 * (mn t153 t154))) > t154))) = true then ((vec_All.f t153).bind fun t164 => ((vec_Most.f t164 0).bind fun t165 => (some (!t165)))) else (some false))))) else (some false)))) else (some false))) = some r := H
    have A8 := Aside0.mk A80
    clear A80
    obtain ⟨ji9, hji9⟩ : ∃ j_ : Int, (mn t153 t154) = j_ := ⟨_, rfl⟩
    replace H : ((vec_All.f (ji9)).bind fun t157 => (if (Go.bits .and .i64 t155 t156) = t157 then ((vec_All.f t153).bind fun t158 => ((vec_Count.f t158).bind fun t159 => (if t159 = t153 then (if t154 = 0 then ((vec_All.f t153).bind fun t160 => ((vec_Most.f t160 0).bind fun t161 => (some (!t161)))) else ((vec_All.f t153).bind fun t162 => ((vec_Most.f t162 t154).bind fun t163 => (if (t163 == (decide ((wrap64 (2 * (ji9))) > t154))) = true then ((vec_All.f t153).bind fun t164 => ((vec_Most.f t164 0).bind fun t165 => (some (!t165)))) else (some false))))) else (some false)))) else (some false))) = some r := by first | (rw [hji9] at H; exact H) | (simp only [hji9] at H ⊢; exact H)
    (try rw [hji9] at A3)
    (try rw [hji9] at A4)
    (try rw [hji9] at A5)
    (try rw [hji9] at A7)
    (try rw [hji9] at A8)
    have hji9_ : (if t154 < t153 then t154 else t153) = ji9 := hji9
    replace H := Option.bind_eq_some_iff.mp H
    obtain ⟨t157, A100, H⟩ := H
    replace H : (if (Go.bits .and .i64 t155 t156) = t157 then ((vec_All.f t153).bind fun t158 => ((vec_Count.f t158).bind fun t159 => (if t159 = t153 then (if t154 = 0 then ((vec_All.f t153).bind fun t160 => ((vec_Most.f t160 0).bind fun t161 => (some (!t161)))) else ((vec_All.f t153).bind fun t162 => ((vec_Most.f t162 t154).bind fun t163 => (if (t163 == (decide ((wrap64 (2 * (ji9))) > t154))) = true then ((vec_All.f t153).bind fun t164 => ((vec_Most.f t164 0).bind fun t165 => (some (!t165)))) else (some false))))) else (some false)))) else (some false)) = some r := H
    have A10 := Aside0.mk A100
    clear A100
    by_cases c11 : (Go.bits .and .i64 t155 t156) = t157
    · rw [if_pos c11] at H
      have c11b0 : ((Go.bits .and .i64 t155 t156) == t157) = true := beq_iff_eq.mpr c11
      have c11b1 : ((Go.bits .and .i64 t155 t156) != t157) = false := bne_eq_false_iff_eq.mpr c11
      clear c11
      replace H := Option.bind_eq_some_iff.mp H
      obtain ⟨t158, A120, H⟩ := H
      have HSA12 : t155 = t158 := Option.some.inj (A7.out.symm.trans A120)
      subst HSA12
      replace H : ((vec_Count.f t155).bind fun t159 => (if t159 = t153 then (if t154 = 0 then ((vec_All.f t153).bind fun t160 => ((vec_Most.f t160 0).bind fun t161 => (some (!t161)))) else ((vec_All.f t153).bind fun t162 => ((vec_Most.f t162 t154).bind fun t163 => (if (t163 == (decide ((wrap64 (2 * (ji9))) > t154))) = true then ((vec_All.f t153).bind fun t164 => ((vec_Most.f t164 0).bind fun t165 => (some (!t165)))) else (some false))))) else (some false))) = some r := H
      have A12 := Aside0.mk A120
      clear A120
      replace H := Option.bind_eq_some_iff.mp H
      obtain ⟨t159, A130, H⟩ := H
      replace H : (if t159 = t153 then (if t154 = 0 then ((vec_All.f t153).bind fun t160 => ((vec_Most.f t160 0).bind fun t161 => (some (!t161)))) else ((vec_All.f t153).bind fun t162 => ((vec_Most.f t162 t154).bind fun t163 => (if (t163 == (decide ((wrap64 (2 * (ji9))) > t154))) = true then ((vec_All.f t153).bind fun t164 => ((vec_Most.f t164 0).bind fun t165 => (some (!t165)))) else (some false))))) else (some false)) = some r := H
      have A13 := Aside0.mk A130
      clear A130
      by_cases c14 : t159 = t153
      · rw [if_pos c14] at H
        have c14b0 : (t159 == t153) = true := beq_iff_eq.mpr c14
        have c14b1 : (t159 != t153) = false := bne_eq_false_iff_eq.mpr c14
        clear c14
        by_cases c15 : t154 = 0
        · rw [if_pos c15] at H
          have c15b0 : (t154 == 0) = true := beq_iff_eq.mpr c15
          have c15b1 : (t154 != 0) = false := bne_eq_false_iff_eq.mpr c15
          clear c15
          replace H := Option.bind_eq_some_iff.mp H
          obtain ⟨t160, A160, H⟩ := H
          have HSA16 : t155 = t160 := Option.some.inj (A7.out.symm.trans A160)
          subst HSA16
          replace H : ((vec_Most.f t155 0).bind fun t161 => (some (!t161))) = some r := H
          have A16 := Aside0.mk A160
          clear A160
          replace H := Option.bind_eq_some_iff.mp H
          obtain ⟨t161, A170, H⟩ := H
          replace H : (some (!t161)) = some r := H
          have A17 := Aside0.mk A170
          clear A170
          obtain rfl := Option.some.inj H
          go_enter Try.func4, Try.ntmps4
          go_wp2_with (first | ((with_reducible refine gate_callee (f := 5) rfl ?_); refine goesL_ (some 8) rfl rfl Try.func5 (by kernel_rfl) rfl #[] rfl (by (try simp only [List.map_toArray, List.map_cons, List.map_nil]); first | done | rfl | (simp only [List.length_drop, List.length_take]; rfl)) ?_; (with_reducible refine (omnibuslaw03_awake.calls k  true _ A3.out).mono ?_); rintro e w18 ⟨rfl, hb⟩; refine ⟨_, rfl, ?_⟩; have n0_ := Aside0.mk (below_step (by repeat (first | (with_reducible first | exact HB.out | apply below_alloc | apply pw_below_drewN | apply below_drew1) | exact HB.out)) hb); clear HB; have HB := n0_; clear n0_; (try clear hb); (try clear hb2); (try clear hk); (try clear hi)) | ((with_reducible refine gate_callee (f := 6) rfl ?_); refine goesL_ (some 10) rfl rfl Try.func6 (by kernel_rfl) rfl #[.int .i64 a0, .int .i64 17] rfl (by (try simp only [List.map_toArray, List.map_cons, List.map_nil]); first | done | rfl | (simp only [List.length_drop, List.length_take]; rfl)) ?_; (with_reducible refine (omnibuslaw03_pick.calls a0 17 t153 _ A4.out).mono ?_); rintro e w' ⟨rfl, ⟨nd, rfl⟩⟩; refine ⟨_, rfl, ?_⟩) | ((with_reducible refine gate_callee (f := 6) rfl ?_); refine goesL_ (some 12) rfl rfl Try.func6 (by kernel_rfl) rfl #[.int .i64 a1, .int .i64 17] rfl (by (try simp only [List.map_toArray, List.map_cons, List.map_nil]); first | done | rfl | (simp only [List.length_drop, List.length_take]; rfl)) ?_; (with_reducible refine (omnibuslaw03_pick.calls a1 17 t154 _ A5.out).mono ?_); rintro e w' ⟨rfl, ⟨nd, rfl⟩⟩; refine ⟨_, rfl, ?_⟩) | (go_at_call 9; (with_reducible refine (vec_All.calls t153 t155 _ A7.out).mono ?_); rintro e w19 ⟨rfl, hb⟩; have n0_ := Aside0.mk (below_step (by repeat (first | (with_reducible first | exact HB.out | apply below_alloc | apply pw_below_drewN | apply below_drew1) | exact HB.out)) hb); clear HB; have HB := n0_; clear n0_; (try clear hb); (try clear hb2); (try clear hk); (try clear hi)) | (go_at_call 9; (with_reducible refine (vec_All.calls t154 t156 _ A8.out).mono ?_); rintro e w20 ⟨rfl, hb⟩; have n0_ := Aside0.mk (below_step (by repeat (first | (with_reducible first | exact HB.out | apply below_alloc | apply pw_below_drewN | apply below_drew1) | exact HB.out)) hb); clear HB; have HB := n0_; clear n0_; (try clear hb); (try clear hb2); (try clear hk); (try clear hi)) | (go_at_call 9; (with_reducible refine (vec_All.calls ji9 t157 _ A10.out).mono ?_); rintro e w21 ⟨rfl, hb⟩; have n0_ := Aside0.mk (below_step (by repeat (first | (with_reducible first | exact HB.out | apply below_alloc | apply pw_below_drewN | apply below_drew1) | exact HB.out)) hb); clear HB; have HB := n0_; clear n0_; (try clear hb); (try clear hb2); (try clear hk); (try clear hi)) | (go_at_call 9; (with_reducible refine (vec_All.calls t153 t155 _ A12.out).mono ?_); rintro e w22 ⟨rfl, hb⟩; have n0_ := Aside0.mk (below_step (by repeat (first | (with_reducible first | exact HB.out | apply below_alloc | apply pw_below_drewN | apply below_drew1) | exact HB.out)) hb); clear HB; have HB := n0_; clear n0_; (try clear hb); (try clear hb2); (try clear hk); (try clear hi)) | (go_at_call 10; (with_reducible refine (vec_Count.calls t155 t159 _ A13.out).mono ?_); rintro e w23 ⟨rfl, hb⟩; have n0_ := Aside0.mk (below_step (by repeat (first | (with_reducible first | exact HB.out | apply below_alloc | apply pw_below_drewN | apply below_drew1) | exact HB.out)) hb); clear HB; have HB := n0_; clear n0_; (try clear hb); (try clear hb2); (try clear hk); (try clear hi)) | (go_at_call 9; (with_reducible refine (vec_All.calls t153 t155 _ A16.out).mono ?_); rintro e w24 ⟨rfl, hb⟩; have n0_ := Aside0.mk (below_step (by repeat (first | (with_reducible first | exact HB.out | apply below_alloc | apply pw_below_drewN | apply below_drew1) | exact HB.out)) hb); clear HB; have HB := n0_; clear n0_; (try clear hb); (try clear hb2); (try clear hk); (try clear hi)) | (go_at_call 8; (with_reducible refine (vec_Most.calls t155 0 t161 _ A17.out).mono ?_); rintro e w25 ⟨rfl, hb⟩; have n0_ := Aside0.mk (below_step (by repeat (first | (with_reducible first | exact HB.out | apply below_alloc | apply pw_below_drewN | apply below_drew1) | exact HB.out)) hb); clear HB; have HB := n0_; clear n0_; (try clear hb); (try clear hb2); (try clear hk); (try clear hi)))
          go_ret
          exact ⟨by first | rfl | (simp [errW_none, errW_some] <;> rfl) | (simp only [← hji9]; first | rfl | (simp [errW_none, errW_some] <;> rfl)) | (simp [*, errW_none, errW_some] <;> rfl), by repeat (first | (with_reducible first | exact HB.out | apply below_alloc | apply pw_below_drewN | apply below_drew1) | exact HB.out)⟩
        · rw [if_neg c15] at H
          have c15b0 : (t154 == 0) = false := beq_eq_false_iff_ne.mpr c15
          have c15b1 : (t154 != 0) = true := bne_iff_ne.mpr c15
          replace H := Option.bind_eq_some_iff.mp H
          obtain ⟨t162, A260, H⟩ := H
          have HSA26 : t155 = t162 := Option.some.inj (A7.out.symm.trans A260)
          subst HSA26
          replace H : ((vec_Most.f t155 t154).bind fun t163 => (if (t163 == (decide ((wrap64 (2 * (ji9))) > t154))) = true then ((vec_All.f t153).bind fun t164 => ((vec_Most.f t164 0).bind fun t165 => (some (!t165)))) else (some false))) = some r := H
          have A26 := Aside0.mk A260
          clear A260
          replace H := Option.bind_eq_some_iff.mp H
          obtain ⟨t163, A270, H⟩ := H
          replace H : (if (t163 == (decide ((wrap64 (2 * (ji9))) > t154))) = true then ((vec_All.f t153).bind fun t164 => ((vec_Most.f t164 0).bind fun t165 => (some (!t165)))) else (some false)) = some r := H
          have A27 := Aside0.mk A270
          clear A270
          by_cases c28 : (t163 == (decide ((wrap64 (2 * (ji9))) > t154))) = true
          · rw [if_pos c28] at H
            have c28b0 : (t163 == (decide ((wrap64 (2 * (ji9))) > t154))) = true := c28
            (try (have c28b1 : decide (t163 = (decide ((wrap64 (2 * (ji9))) > t154))) = true := by simpa using c28))
            (try (have c28b2 : (t163 == (decide ((wrap64 (2 * (ji9))) > t154))) = true := by simpa using c28))
            clear c28
            replace H := Option.bind_eq_some_iff.mp H
            obtain ⟨t164, A290, H⟩ := H
            have HSA29 : t155 = t164 := Option.some.inj (A7.out.symm.trans A290)
            subst HSA29
            replace H : ((vec_Most.f t155 0).bind fun t165 => (some (!t165))) = some r := H
            have A29 := Aside0.mk A290
            clear A290
            replace H := Option.bind_eq_some_iff.mp H
            obtain ⟨t165, A300, H⟩ := H
            replace H : (some (!t165)) = some r := H
            have A30 := Aside0.mk A300
            clear A300
            obtain rfl := Option.some.inj H
            go_enter Try.func4, Try.ntmps4
            go_wp2_with (first | ((with_reducible refine gate_callee (f := 5) rfl ?_); refine goesL_ (some 8) rfl rfl Try.func5 (by kernel_rfl) rfl #[] rfl (by (try simp only [List.map_toArray, List.map_cons, List.map_nil]); first | done | rfl | (simp only [List.length_drop, List.length_take]; rfl)) ?_; (with_reducible refine (omnibuslaw03_awake.calls k  true _ A3.out).mono ?_); rintro e w31 ⟨rfl, hb⟩; refine ⟨_, rfl, ?_⟩; have n0_ := Aside0.mk (below_step (by repeat (first | (with_reducible first | exact HB.out | apply below_alloc | apply pw_below_drewN | apply below_drew1) | exact HB.out)) hb); clear HB; have HB := n0_; clear n0_; (try clear hb); (try clear hb2); (try clear hk); (try clear hi)) | ((with_reducible refine gate_callee (f := 6) rfl ?_); refine goesL_ (some 10) rfl rfl Try.func6 (by kernel_rfl) rfl #[.int .i64 a0, .int .i64 17] rfl (by (try simp only [List.map_toArray, List.map_cons, List.map_nil]); first | done | rfl | (simp only [List.length_drop, List.length_take]; rfl)) ?_; (with_reducible refine (omnibuslaw03_pick.calls a0 17 t153 _ A4.out).mono ?_); rintro e w' ⟨rfl, ⟨nd, rfl⟩⟩; refine ⟨_, rfl, ?_⟩) | ((with_reducible refine gate_callee (f := 6) rfl ?_); refine goesL_ (some 12) rfl rfl Try.func6 (by kernel_rfl) rfl #[.int .i64 a1, .int .i64 17] rfl (by (try simp only [List.map_toArray, List.map_cons, List.map_nil]); first | done | rfl | (simp only [List.length_drop, List.length_take]; rfl)) ?_; (with_reducible refine (omnibuslaw03_pick.calls a1 17 t154 _ A5.out).mono ?_); rintro e w' ⟨rfl, ⟨nd, rfl⟩⟩; refine ⟨_, rfl, ?_⟩) | (go_at_call 9; (with_reducible refine (vec_All.calls t153 t155 _ A7.out).mono ?_); rintro e w32 ⟨rfl, hb⟩; have n0_ := Aside0.mk (below_step (by repeat (first | (with_reducible first | exact HB.out | apply below_alloc | apply pw_below_drewN | apply below_drew1) | exact HB.out)) hb); clear HB; have HB := n0_; clear n0_; (try clear hb); (try clear hb2); (try clear hk); (try clear hi)) | (go_at_call 9; (with_reducible refine (vec_All.calls t154 t156 _ A8.out).mono ?_); rintro e w33 ⟨rfl, hb⟩; have n0_ := Aside0.mk (below_step (by repeat (first | (with_reducible first | exact HB.out | apply below_alloc | apply pw_below_drewN | apply below_drew1) | exact HB.out)) hb); clear HB; have HB := n0_; clear n0_; (try clear hb); (try clear hb2); (try clear hk); (try clear hi)) | (go_at_call 9; (with_reducible refine (vec_All.calls ji9 t157 _ A10.out).mono ?_); rintro e w34 ⟨rfl, hb⟩; have n0_ := Aside0.mk (below_step (by repeat (first | (with_reducible first | exact HB.out | apply below_alloc | apply pw_below_drewN | apply below_drew1) | exact HB.out)) hb); clear HB; have HB := n0_; clear n0_; (try clear hb); (try clear hb2); (try clear hk); (try clear hi)) | (go_at_call 9; (with_reducible refine (vec_All.calls t153 t155 _ A12.out).mono ?_); rintro e w35 ⟨rfl, hb⟩; have n0_ := Aside0.mk (below_step (by repeat (first | (with_reducible first | exact HB.out | apply below_alloc | apply pw_below_drewN | apply below_drew1) | exact HB.out)) hb); clear HB; have HB := n0_; clear n0_; (try clear hb); (try clear hb2); (try clear hk); (try clear hi)) | (go_at_call 10; (with_reducible refine (vec_Count.calls t155 t159 _ A13.out).mono ?_); rintro e w36 ⟨rfl, hb⟩; have n0_ := Aside0.mk (below_step (by repeat (first | (with_reducible first | exact HB.out | apply below_alloc | apply pw_below_drewN | apply below_drew1) | exact HB.out)) hb); clear HB; have HB := n0_; clear n0_; (try clear hb); (try clear hb2); (try clear hk); (try clear hi)) | (go_at_call 9; (with_reducible refine (vec_All.calls t153 t155 _ A26.out).mono ?_); rintro e w37 ⟨rfl, hb⟩; have n0_ := Aside0.mk (below_step (by repeat (first | (with_reducible first | exact HB.out | apply below_alloc | apply pw_below_drewN | apply below_drew1) | exact HB.out)) hb); clear HB; have HB := n0_; clear n0_; (try clear hb); (try clear hb2); (try clear hk); (try clear hi)) | (go_at_call 8; (with_reducible refine (vec_Most.calls t155 t154 t163 _ A27.out).mono ?_); rintro e w38 ⟨rfl, hb⟩; have n0_ := Aside0.mk (below_step (by repeat (first | (with_reducible first | exact HB.out | apply below_alloc | apply pw_below_drewN | apply below_drew1) | exact HB.out)) hb); clear HB; have HB := n0_; clear n0_; (try clear hb); (try clear hb2); (try clear hk); (try clear hi)) | (go_at_call 9; (with_reducible refine (vec_All.calls t153 t155 _ A29.out).mono ?_); rintro e w39 ⟨rfl, hb⟩; have n0_ := Aside0.mk (below_step (by repeat (first | (with_reducible first | exact HB.out | apply below_alloc | apply pw_below_drewN | apply below_drew1) | exact HB.out)) hb); clear HB; have HB := n0_; clear n0_; (try clear hb); (try clear hb2); (try clear hk); (try clear hi)) | (go_at_call 8; (with_reducible refine (vec_Most.calls t155 0 t165 _ A30.out).mono ?_); rintro e w40 ⟨rfl, hb⟩; have n0_ := Aside0.mk (below_step (by repeat (first | (with_reducible first | exact HB.out | apply below_alloc | apply pw_below_drewN | apply below_drew1) | exact HB.out)) hb); clear HB; have HB := n0_; clear n0_; (try clear hb); (try clear hb2); (try clear hk); (try clear hi)))
            go_ret
            exact ⟨by first | rfl | (simp [errW_none, errW_some] <;> rfl) | (simp only [← hji9]; first | rfl | (simp [errW_none, errW_some] <;> rfl)) | (simp [*, errW_none, errW_some] <;> rfl), by repeat (first | (with_reducible first | exact HB.out | apply below_alloc | apply pw_below_drewN | apply below_drew1) | exact HB.out)⟩
          · rw [if_neg c28] at H
            have c28b0 : (t163 == (decide ((wrap64 (2 * (ji9))) > t154))) = false := by simpa using c28
            (try (have c28b1 : decide (t163 = (decide ((wrap64 (2 * (ji9))) > t154))) = false := by simpa using c28))
            (try (have c28b2 : (t163 == (decide ((wrap64 (2 * (ji9))) > t154))) = false := by simpa using c28))
            (try (have c28b3 : ¬ (t163 = (decide ((wrap64 (2 * (ji9))) > t154))) := by simpa using c28))
            clear c28
            obtain rfl := Option.some.inj H
            go_enter Try.func4, Try.ntmps4
            go_wp2_with (first | ((with_reducible refine gate_callee (f := 5) rfl ?_); refine goesL_ (some 8) rfl rfl Try.func5 (by kernel_rfl) rfl #[] rfl (by (try simp only [List.map_toArray, List.map_cons, List.map_nil]); first | done | rfl | (simp only [List.length_drop, List.length_take]; rfl)) ?_; (with_reducible refine (omnibuslaw03_awake.calls k  true _ A3.out).mono ?_); rintro e w41 ⟨rfl, hb⟩; refine ⟨_, rfl, ?_⟩; have n0_ := Aside0.mk (below_step (by repeat (first | (with_reducible first | exact HB.out | apply below_alloc | apply pw_below_drewN | apply below_drew1) | exact HB.out)) hb); clear HB; have HB := n0_; clear n0_; (try clear hb); (try clear hb2); (try clear hk); (try clear hi)) | ((with_reducible refine gate_callee (f := 6) rfl ?_); refine goesL_ (some 10) rfl rfl Try.func6 (by kernel_rfl) rfl #[.int .i64 a0, .int .i64 17] rfl (by (try simp only [List.map_toArray, List.map_cons, List.map_nil]); first | done | rfl | (simp only [List.length_drop, List.length_take]; rfl)) ?_; (with_reducible refine (omnibuslaw03_pick.calls a0 17 t153 _ A4.out).mono ?_); rintro e w' ⟨rfl, ⟨nd, rfl⟩⟩; refine ⟨_, rfl, ?_⟩) | ((with_reducible refine gate_callee (f := 6) rfl ?_); refine goesL_ (some 12) rfl rfl Try.func6 (by kernel_rfl) rfl #[.int .i64 a1, .int .i64 17] rfl (by (try simp only [List.map_toArray, List.map_cons, List.map_nil]); first | done | rfl | (simp only [List.length_drop, List.length_take]; rfl)) ?_; (with_reducible refine (omnibuslaw03_pick.calls a1 17 t154 _ A5.out).mono ?_); rintro e w' ⟨rfl, ⟨nd, rfl⟩⟩; refine ⟨_, rfl, ?_⟩) | (go_at_call 9; (with_reducible refine (vec_All.calls t153 t155 _ A7.out).mono ?_); rintro e w42 ⟨rfl, hb⟩; have n0_ := Aside0.mk (below_step (by repeat (first | (with_reducible first | exact HB.out | apply below_alloc | apply pw_below_drewN | apply below_drew1) | exact HB.out)) hb); clear HB; have HB := n0_; clear n0_; (try clear hb); (try clear hb2); (try clear hk); (try clear hi)) | (go_at_call 9; (with_reducible refine (vec_All.calls t154 t156 _ A8.out).mono ?_); rintro e w43 ⟨rfl, hb⟩; have n0_ := Aside0.mk (below_step (by repeat (first | (with_reducible first | exact HB.out | apply below_alloc | apply pw_below_drewN | apply below_drew1) | exact HB.out)) hb); clear HB; have HB := n0_; clear n0_; (try clear hb); (try clear hb2); (try clear hk); (try clear hi)) | (go_at_call 9; (with_reducible refine (vec_All.calls ji9 t157 _ A10.out).mono ?_); rintro e w44 ⟨rfl, hb⟩; have n0_ := Aside0.mk (below_step (by repeat (first | (with_reducible first | exact HB.out | apply below_alloc | apply pw_below_drewN | apply below_drew1) | exact HB.out)) hb); clear HB; have HB := n0_; clear n0_; (try clear hb); (try clear hb2); (try clear hk); (try clear hi)) | (go_at_call 9; (with_reducible refine (vec_All.calls t153 t155 _ A12.out).mono ?_); rintro e w45 ⟨rfl, hb⟩; have n0_ := Aside0.mk (below_step (by repeat (first | (with_reducible first | exact HB.out | apply below_alloc | apply pw_below_drewN | apply below_drew1) | exact HB.out)) hb); clear HB; have HB := n0_; clear n0_; (try clear hb); (try clear hb2); (try clear hk); (try clear hi)) | (go_at_call 10; (with_reducible refine (vec_Count.calls t155 t159 _ A13.out).mono ?_); rintro e w46 ⟨rfl, hb⟩; have n0_ := Aside0.mk (below_step (by repeat (first | (with_reducible first | exact HB.out | apply below_alloc | apply pw_below_drewN | apply below_drew1) | exact HB.out)) hb); clear HB; have HB := n0_; clear n0_; (try clear hb); (try clear hb2); (try clear hk); (try clear hi)) | (go_at_call 9; (with_reducible refine (vec_All.calls t153 t155 _ A26.out).mono ?_); rintro e w47 ⟨rfl, hb⟩; have n0_ := Aside0.mk (below_step (by repeat (first | (with_reducible first | exact HB.out | apply below_alloc | apply pw_below_drewN | apply below_drew1) | exact HB.out)) hb); clear HB; have HB := n0_; clear n0_; (try clear hb); (try clear hb2); (try clear hk); (try clear hi)) | (go_at_call 8; (with_reducible refine (vec_Most.calls t155 t154 t163 _ A27.out).mono ?_); rintro e w48 ⟨rfl, hb⟩; have n0_ := Aside0.mk (below_step (by repeat (first | (with_reducible first | exact HB.out | apply below_alloc | apply pw_below_drewN | apply below_drew1) | exact HB.out)) hb); clear HB; have HB := n0_; clear n0_; (try clear hb); (try clear hb2); (try clear hk); (try clear hi)))
            go_ret
            exact ⟨by first | rfl | (simp [errW_none, errW_some] <;> rfl) | (simp only [← hji9]; first | rfl | (simp [errW_none, errW_some] <;> rfl)) | (simp [*, errW_none, errW_some] <;> rfl), by repeat (first | (with_reducible first | exact HB.out | apply below_alloc | apply pw_below_drewN | apply below_drew1) | exact HB.out)⟩
      · rw [if_neg c14] at H
        have c14b0 : (t159 == t153) = false := beq_eq_false_iff_ne.mpr c14
        have c14b1 : (t159 != t153) = true := bne_iff_ne.mpr c14
        obtain rfl := Option.some.inj H
        go_enter Try.func4, Try.ntmps4
        go_wp2_with (first | ((with_reducible refine gate_callee (f := 5) rfl ?_); refine goesL_ (some 8) rfl rfl Try.func5 (by kernel_rfl) rfl #[] rfl (by (try simp only [List.map_toArray, List.map_cons, List.map_nil]); first | done | rfl | (simp only [List.length_drop, List.length_take]; rfl)) ?_; (with_reducible refine (omnibuslaw03_awake.calls k  true _ A3.out).mono ?_); rintro e w49 ⟨rfl, hb⟩; refine ⟨_, rfl, ?_⟩; have n0_ := Aside0.mk (below_step (by repeat (first | (with_reducible first | exact HB.out | apply below_alloc | apply pw_below_drewN | apply below_drew1) | exact HB.out)) hb); clear HB; have HB := n0_; clear n0_; (try clear hb); (try clear hb2); (try clear hk); (try clear hi)) | ((with_reducible refine gate_callee (f := 6) rfl ?_); refine goesL_ (some 10) rfl rfl Try.func6 (by kernel_rfl) rfl #[.int .i64 a0, .int .i64 17] rfl (by (try simp only [List.map_toArray, List.map_cons, List.map_nil]); first | done | rfl | (simp only [List.length_drop, List.length_take]; rfl)) ?_; (with_reducible refine (omnibuslaw03_pick.calls a0 17 t153 _ A4.out).mono ?_); rintro e w' ⟨rfl, ⟨nd, rfl⟩⟩; refine ⟨_, rfl, ?_⟩) | ((with_reducible refine gate_callee (f := 6) rfl ?_); refine goesL_ (some 12) rfl rfl Try.func6 (by kernel_rfl) rfl #[.int .i64 a1, .int .i64 17] rfl (by (try simp only [List.map_toArray, List.map_cons, List.map_nil]); first | done | rfl | (simp only [List.length_drop, List.length_take]; rfl)) ?_; (with_reducible refine (omnibuslaw03_pick.calls a1 17 t154 _ A5.out).mono ?_); rintro e w' ⟨rfl, ⟨nd, rfl⟩⟩; refine ⟨_, rfl, ?_⟩) | (go_at_call 9; (with_reducible refine (vec_All.calls t153 t155 _ A7.out).mono ?_); rintro e w50 ⟨rfl, hb⟩; have n0_ := Aside0.mk (below_step (by repeat (first | (with_reducible first | exact HB.out | apply below_alloc | apply pw_below_drewN | apply below_drew1) | exact HB.out)) hb); clear HB; have HB := n0_; clear n0_; (try clear hb); (try clear hb2); (try clear hk); (try clear hi)) | (go_at_call 9; (with_reducible refine (vec_All.calls t154 t156 _ A8.out).mono ?_); rintro e w51 ⟨rfl, hb⟩; have n0_ := Aside0.mk (below_step (by repeat (first | (with_reducible first | exact HB.out | apply below_alloc | apply pw_below_drewN | apply below_drew1) | exact HB.out)) hb); clear HB; have HB := n0_; clear n0_; (try clear hb); (try clear hb2); (try clear hk); (try clear hi)) | (go_at_call 9; (with_reducible refine (vec_All.calls ji9 t157 _ A10.out).mono ?_); rintro e w52 ⟨rfl, hb⟩; have n0_ := Aside0.mk (below_step (by repeat (first | (with_reducible first | exact HB.out | apply below_alloc | apply pw_below_drewN | apply below_drew1) | exact HB.out)) hb); clear HB; have HB := n0_; clear n0_; (try clear hb); (try clear hb2); (try clear hk); (try clear hi)) | (go_at_call 9; (with_reducible refine (vec_All.calls t153 t155 _ A12.out).mono ?_); rintro e w53 ⟨rfl, hb⟩; have n0_ := Aside0.mk (below_step (by repeat (first | (with_reducible first | exact HB.out | apply below_alloc | apply pw_below_drewN | apply below_drew1) | exact HB.out)) hb); clear HB; have HB := n0_; clear n0_; (try clear hb); (try clear hb2); (try clear hk); (try clear hi)) | (go_at_call 10; (with_reducible refine (vec_Count.calls t155 t159 _ A13.out).mono ?_); rintro e w54 ⟨rfl, hb⟩; have n0_ := Aside0.mk (below_step (by repeat (first | (with_reducible first | exact HB.out | apply below_alloc | apply pw_below_drewN | apply below_drew1) | exact HB.out)) hb); clear HB; have HB := n0_; clear n0_; (try clear hb); (try clear hb2); (try clear hk); (try clear hi)))
        go_ret
        exact ⟨by first | rfl | (simp [errW_none, errW_some] <;> rfl) | (simp only [← hji9]; first | rfl | (simp [errW_none, errW_some] <;> rfl)) | (simp [*, errW_none, errW_some] <;> rfl), by repeat (first | (with_reducible first | exact HB.out | apply below_alloc | apply pw_below_drewN | apply below_drew1) | exact HB.out)⟩
    · rw [if_neg c11] at H
      have c11b0 : ((Go.bits .and .i64 t155 t156) == t157) = false := beq_eq_false_iff_ne.mpr c11
      have c11b1 : ((Go.bits .and .i64 t155 t156) != t157) = true := bne_iff_ne.mpr c11
      obtain rfl := Option.some.inj H
      go_enter Try.func4, Try.ntmps4
      go_wp2_with (first | ((with_reducible refine gate_callee (f := 5) rfl ?_); refine goesL_ (some 8) rfl rfl Try.func5 (by kernel_rfl) rfl #[] rfl (by (try simp only [List.map_toArray, List.map_cons, List.map_nil]); first | done | rfl | (simp only [List.length_drop, List.length_take]; rfl)) ?_; (with_reducible refine (omnibuslaw03_awake.calls k  true _ A3.out).mono ?_); rintro e w55 ⟨rfl, hb⟩; refine ⟨_, rfl, ?_⟩; have n0_ := Aside0.mk (below_step (by repeat (first | (with_reducible first | exact HB.out | apply below_alloc | apply pw_below_drewN | apply below_drew1) | exact HB.out)) hb); clear HB; have HB := n0_; clear n0_; (try clear hb); (try clear hb2); (try clear hk); (try clear hi)) | ((with_reducible refine gate_callee (f := 6) rfl ?_); refine goesL_ (some 10) rfl rfl Try.func6 (by kernel_rfl) rfl #[.int .i64 a0, .int .i64 17] rfl (by (try simp only [List.map_toArray, List.map_cons, List.map_nil]); first | done | rfl | (simp only [List.length_drop, List.length_take]; rfl)) ?_; (with_reducible refine (omnibuslaw03_pick.calls a0 17 t153 _ A4.out).mono ?_); rintro e w' ⟨rfl, ⟨nd, rfl⟩⟩; refine ⟨_, rfl, ?_⟩) | ((with_reducible refine gate_callee (f := 6) rfl ?_); refine goesL_ (some 12) rfl rfl Try.func6 (by kernel_rfl) rfl #[.int .i64 a1, .int .i64 17] rfl (by (try simp only [List.map_toArray, List.map_cons, List.map_nil]); first | done | rfl | (simp only [List.length_drop, List.length_take]; rfl)) ?_; (with_reducible refine (omnibuslaw03_pick.calls a1 17 t154 _ A5.out).mono ?_); rintro e w' ⟨rfl, ⟨nd, rfl⟩⟩; refine ⟨_, rfl, ?_⟩) | (go_at_call 9; (with_reducible refine (vec_All.calls t153 t155 _ A7.out).mono ?_); rintro e w56 ⟨rfl, hb⟩; have n0_ := Aside0.mk (below_step (by repeat (first | (with_reducible first | exact HB.out | apply below_alloc | apply pw_below_drewN | apply below_drew1) | exact HB.out)) hb); clear HB; have HB := n0_; clear n0_; (try clear hb); (try clear hb2); (try clear hk); (try clear hi)) | (go_at_call 9; (with_reducible refine (vec_All.calls t154 t156 _ A8.out).mono ?_); rintro e w57 ⟨rfl, hb⟩; have n0_ := Aside0.mk (below_step (by repeat (first | (with_reducible first | exact HB.out | apply below_alloc | apply pw_below_drewN | apply below_drew1) | exact HB.out)) hb); clear HB; have HB := n0_; clear n0_; (try clear hb); (try clear hb2); (try clear hk); (try clear hi)) | (go_at_call 9; (with_reducible refine (vec_All.calls ji9 t157 _ A10.out).mono ?_); rintro e w58 ⟨rfl, hb⟩; have n0_ := Aside0.mk (below_step (by repeat (first | (with_reducible first | exact HB.out | apply below_alloc | apply pw_below_drewN | apply below_drew1) | exact HB.out)) hb); clear HB; have HB := n0_; clear n0_; (try clear hb); (try clear hb2); (try clear hk); (try clear hi)))
      go_ret
      exact ⟨by first | rfl | (simp [errW_none, errW_some] <;> rfl) | (simp only [← hji9]; first | rfl | (simp [errW_none, errW_some] <;> rfl)) | (simp [*, errW_none, errW_some] <;> rfl), by repeat (first | (with_reducible first | exact HB.out | apply below_alloc | apply pw_below_drewN | apply below_drew1) | exact HB.out)⟩
  · replace c6 := Bool.eq_false_iff.mpr c6
    subst c6
    have H1 : (some false) = some r := by rw [if_neg (show ¬ (false = true) by decide)] at H; exact H
    clear H
    have H := H1
    clear H1
    obtain rfl := Option.some.inj H
    go_enter Try.func4, Try.ntmps4
    go_wp2_with (first | ((with_reducible refine gate_callee (f := 5) rfl ?_); refine goesL_ (some 8) rfl rfl Try.func5 (by kernel_rfl) rfl #[] rfl (by (try simp only [List.map_toArray, List.map_cons, List.map_nil]); first | done | rfl | (simp only [List.length_drop, List.length_take]; rfl)) ?_; (with_reducible refine (omnibuslaw03_awake.calls k  false _ A3.out).mono ?_); rintro e w59 ⟨rfl, hb⟩; refine ⟨_, rfl, ?_⟩; have n0_ := Aside0.mk (below_step (by repeat (first | (with_reducible first | exact HB.out | apply below_alloc | apply pw_below_drewN | apply below_drew1) | exact HB.out)) hb); clear HB; have HB := n0_; clear n0_; (try clear hb); (try clear hb2); (try clear hk); (try clear hi)) | ((with_reducible refine gate_callee (f := 6) rfl ?_); refine goesL_ (some 10) rfl rfl Try.func6 (by kernel_rfl) rfl #[.int .i64 a0, .int .i64 17] rfl (by (try simp only [List.map_toArray, List.map_cons, List.map_nil]); first | done | rfl | (simp only [List.length_drop, List.length_take]; rfl)) ?_; (with_reducible refine (omnibuslaw03_pick.calls a0 17 t153 _ A4.out).mono ?_); rintro e w' ⟨rfl, ⟨nd, rfl⟩⟩; refine ⟨_, rfl, ?_⟩) | ((with_reducible refine gate_callee (f := 6) rfl ?_); refine goesL_ (some 12) rfl rfl Try.func6 (by kernel_rfl) rfl #[.int .i64 a1, .int .i64 17] rfl (by (try simp only [List.map_toArray, List.map_cons, List.map_nil]); first | done | rfl | (simp only [List.length_drop, List.length_take]; rfl)) ?_; (with_reducible refine (omnibuslaw03_pick.calls a1 17 t154 _ A5.out).mono ?_); rintro e w' ⟨rfl, ⟨nd, rfl⟩⟩; refine ⟨_, rfl, ?_⟩))
    go_ret
    exact ⟨by first | rfl | (simp [errW_none, errW_some] <;> rfl) | (simp [*, errW_none, errW_some] <;> rfl), by repeat (first | (with_reducible first | exact HB.out | apply below_alloc | apply pw_below_drewN | apply below_drew1) | exact HB.out)⟩

/-- THE ONE PURE STATEMENT of omnibuslaw03_VecAlls: yours. -/
def omnibuslaw03_VecAlls.Pure : Prop := ∀ (a0 : Int) (a1 : Int), (Lit.int .i64 a0).wf = true → (Lit.int .i64 a1).wf = true → ∃ k, omnibuslaw03_VecAlls.f k a0 a1 = some true
theorem omnibuslaw03_VecAlls.walk (P : omnibuslaw03_VecAlls.Pure) (a0 : Int) (a1 : Int) (w : World) (w0 : (Lit.int .i64 a0).wf = true) (w1 : (Lit.int .i64 a1).wf = true) :
    Calls Try.prog 4 #[.int .i64 a0, .int .i64 a1] w fun e w' => e = .returned (.bool true) ∧ Below w.heap.size w w' := by
  obtain ⟨k, h⟩ := P a0 a1 w0 w1
  refine (omnibuslaw03_VecAlls.calls k a0 a1 true w h).mono ?_
  rintro e w' ⟨rfl, hd⟩
  exact ⟨rfl, hd⟩

end Go.Proofs.Ytbndfdplcojjgaa.Q
