/- Go functions as Lean functions, each with a proof that the machine's call comes to what its Lean function tells; no condition beside those that each theorem states. Written by this project's program drive.py. -/
import Derived.Test.YtbndfdplcojjgaaQx0
import Derived.Test.YtbndfdplcojjgaaQx1
import Derived.Test.YtbndfdplcojjgaaQx2
import Derived.Test.YtbndfdplcojjgaaQx6
import Derived.Test.YtbndfdplcojjgaaQx7
namespace Go.Proofs.Ytbndfdplcojjgaa.Q
open Go.RowKit Go.Proofs.YtbndfdplcojjgaaW.PrintWords Go.Proofs.YtbndfdplcojjgaaW.PrintLast Go.Proofs.YtbndfdplcojjgaaW.PrintMore
attribute [local go_sem] max2_int min2_int max_two min_two max_three min_three max_four min_four   -- for this text's walks alone
set_option linter.unusedVariables false
set_option linter.unusedSimpArgs false

/-! ### omnibuslaw03_VecHalves: function 3 -/
mutual
def omnibuslaw03_VecHalves.l0 : Nat → Bool → Int → Int → Int → Bool → Int → Option (Bool)
  | 0, _, _, _, _, _, _ => none
  | k + 1, x7, x8, x9, x10, x11, x12 => if x12 < x8 then (if x11 = true then (omnibuslaw03_VecHalves.l0 k x7 x8 x9 x10 true (wrap64 (x12 + 1))) else ((vec_Has.f x9 x12).bind fun t136 => (if t136 = true then ((vec_Has.f x10 x12).bind fun t137 => (omnibuslaw03_VecHalves.l0 k x7 x8 x9 x10 t137 (wrap64 (x12 + 1)))) else (omnibuslaw03_VecHalves.l0 k x7 x8 x9 x10 false (wrap64 (x12 + 1)))))) else ((vec_Most.f x9 x8).bind fun t138 => (if t138 = true then ((vec_Most.f x10 x8).bind fun t139 => (if t139 = true then (omnibuslaw03_VecHalves.j1 k x7 x8 x9 x10 (!x11)) else (omnibuslaw03_VecHalves.j1 k x7 x8 x9 x10 false))) else (omnibuslaw03_VecHalves.j1 k x7 x8 x9 x10 false)))
def omnibuslaw03_VecHalves.j1 : Nat → Bool → Int → Int → Int → Bool → Option (Bool)
  | 0, _, _, _, _, _ => none
  | k + 1, x7, x8, x9, x10, x48 => if x48 = true then (some false) else (if x7 = true then ((vec_Most.f x9 x8).bind fun t140 => (if t140 = true then ((vec_Most.f (wrap64 (65535 - x9)) x8).bind fun t141 => (if t141 = true then (some false) else ((vec_All.f x8).bind fun t142 => ((vec_Most.f t142 x8).bind fun t143 => (if t143 = true then ((vec_Most.f 0 x8).bind fun t144 => (if t144 = true then (some false) else ((vec_Most.f x9 x8).bind fun t145 => (if t145 = true then ((vec_Most.f (Go.bits .or .i64 x9 x10) x8).bind fun t146 => (some t146)) else (some true))))) else (some false)))))) else ((vec_All.f x8).bind fun t147 => ((vec_Most.f t147 x8).bind fun t148 => (if t148 = true then ((vec_Most.f 0 x8).bind fun t149 => (if t149 = true then (some false) else ((vec_Most.f x9 x8).bind fun t150 => (if t150 = true then ((vec_Most.f (Go.bits .or .i64 x9 x10) x8).bind fun t151 => (some t151)) else (some true))))) else (some false)))))) else (some false))
end
def omnibuslaw03_VecHalves.f (k : Nat) (a0 : Int) (a1 : Int) (a2 : Int) : Option (Bool) := (omnibuslaw03_awake.f k).bind fun t132 => ((omnibuslaw03_pick.f a2 16).bind fun t133 => ((omnibuslaw03_pick.f a0 65536).bind fun t134 => ((omnibuslaw03_pick.f a1 65536).bind fun t135 => (omnibuslaw03_VecHalves.l0 k t132 (wrap64 (1 + t133)) t134 t135 false 0))))
theorem omnibuslaw03_VecHalves.mono_l : ∀ k, (∀ y0 y1 y2 y3 y4 y5, LeO (omnibuslaw03_VecHalves.l0 k y0 y1 y2 y3 y4 y5) (omnibuslaw03_VecHalves.l0 (k + 1) y0 y1 y2 y3 y4 y5)) ∧ (∀ y0 y1 y2 y3 y4, LeO (omnibuslaw03_VecHalves.j1 k y0 y1 y2 y3 y4) (omnibuslaw03_VecHalves.j1 (k + 1) y0 y1 y2 y3 y4))
  | 0 => ⟨fun _ _ _ _ _ _ r h => by simp [omnibuslaw03_VecHalves.l0] at h, fun _ _ _ _ _ r h => by simp [omnibuslaw03_VecHalves.j1] at h⟩
  | k + 1 => by
    obtain ⟨ih0, ih1⟩ := omnibuslaw03_VecHalves.mono_l k
    refine ⟨?_, ?_⟩
    · intro y0 y1 y2 y3 y4 y5
      unfold omnibuslaw03_VecHalves.l0
      repeat' first
      | (with_reducible exact ih0 _ _ _ _ _ _)
      | (with_reducible exact ih1 _ _ _ _ _)
      | (with_reducible exact omnibuslaw03_awake.mono _)
      | (with_reducible exact LeO.refl _)
      | (with_reducible exact LeO.none _)
      | (with_reducible refine LeO.ite ?_ ?_)
      | (with_reducible refine LeO.bind ?_ (fun _ => ?_))
      | exact ih0 _ _ _ _ _ _
      | exact ih1 _ _ _ _ _
      | exact omnibuslaw03_awake.mono _
      | exact LeO.none _
      | refine LeO.ite ?_ ?_
      | refine LeO.bind ?_ (fun _ => ?_)
    · intro y0 y1 y2 y3 y4
      unfold omnibuslaw03_VecHalves.j1
      repeat' first
      | (with_reducible exact ih0 _ _ _ _ _ _)
      | (with_reducible exact ih1 _ _ _ _ _)
      | (with_reducible exact omnibuslaw03_awake.mono _)
      | (with_reducible exact LeO.refl _)
      | (with_reducible exact LeO.none _)
      | (with_reducible refine LeO.ite ?_ ?_)
      | (with_reducible refine LeO.bind ?_ (fun _ => ?_))
      | exact ih0 _ _ _ _ _ _
      | exact ih1 _ _ _ _ _
      | exact omnibuslaw03_awake.mono _
      | exact LeO.none _
      | refine LeO.ite ?_ ?_
      | refine LeO.bind ?_ (fun _ => ?_)
theorem omnibuslaw03_VecHalves.mono : ∀ a0 a1 a2 k, LeO (omnibuslaw03_VecHalves.f k a0 a1 a2) (omnibuslaw03_VecHalves.f (k + 1) a0 a1 a2) := by
  intro a0 a1 a2 k
  obtain ⟨ih0, ih1⟩ := omnibuslaw03_VecHalves.mono_l k
  unfold omnibuslaw03_VecHalves.f
  repeat' first
      | (with_reducible exact ih0 _ _ _ _ _ _)
      | (with_reducible exact ih1 _ _ _ _ _)
      | (with_reducible exact omnibuslaw03_awake.mono _)
      | (with_reducible exact LeO.refl _)
      | (with_reducible exact LeO.none _)
      | (with_reducible refine LeO.ite ?_ ?_)
      | (with_reducible refine LeO.bind ?_ (fun _ => ?_))
      | exact ih0 _ _ _ _ _ _
      | exact ih1 _ _ _ _ _
      | exact omnibuslaw03_awake.mono _
      | exact LeO.none _
      | refine LeO.ite ?_ ?_
      | refine LeO.bind ?_ (fun _ => ?_)
set_option maxHeartbeats 8000000 in
set_option maxRecDepth 100000 in
theorem omnibuslaw03_VecHalves.calls (k : Nat) (a0 : Int) (a1 : Int) (a2 : Int) (r : Bool) (w : World) (h : omnibuslaw03_VecHalves.f k a0 a1 a2 = some r) :
    Calls Try.prog 3 #[.int .i64 a0, .int .i64 a1, .int .i64 a2] w fun e w' => e = .returned (.bool r) ∧ Below w.heap.size w w' := by
  have HB := Aside0.mk (Below.refl w.heap.size w)
  have H : ((omnibuslaw03_awake.f k).bind fun t132 => ((omnibuslaw03_pick.f a2 16).bind fun t133 => ((omnibuslaw03_pick.f a0 65536).bind fun t134 => ((omnibuslaw03_pick.f a1 65536).bind fun t135 => (omnibuslaw03_VecHalves.l0 k t132 (wrap64 (1 + t133)) t134 t135 false 0))))) = some r := h
  clear h
  replace H := Option.bind_eq_some_iff.mp H
  obtain ⟨t132, A40, H⟩ := H
  replace H : ((omnibuslaw03_pick.f a2 16).bind fun t133 => ((omnibuslaw03_pick.f a0 65536).bind fun t134 => ((omnibuslaw03_pick.f a1 65536).bind fun t135 => (omnibuslaw03_VecHalves.l0 k t132 (wrap64 (1 + t133)) t134 t135 false 0)))) = some r := H
  have A4 := Aside0.mk A40
  clear A40
  replace H := Option.bind_eq_some_iff.mp H
  obtain ⟨t133, A50, H⟩ := H
  replace H : ((omnibuslaw03_pick.f a0 65536).bind fun t134 => ((omnibuslaw03_pick.f a1 65536).bind fun t135 => (omnibuslaw03_VecHalves.l0 k t132 (wrap64 (1 + t133)) t134 t135 false 0))) = some r := H
  have A5 := Aside0.mk A50
  clear A50
  replace H := Option.bind_eq_some_iff.mp H
  obtain ⟨t134, A60, H⟩ := H
  replace H : ((omnibuslaw03_pick.f a1 65536).bind fun t135 => (omnibuslaw03_VecHalves.l0 k t132 (wrap64 (1 + t133)) t134 t135 false 0)) = some r := H
  have A6 := Aside0.mk A60
  clear A60
  replace H := Option.bind_eq_some_iff.mp H
  obtain ⟨t135, A70, H⟩ := H
  replace H : (omnibuslaw03_VecHalves.l0 k t132 (wrap64 (1 + t133)) t134 t135 false 0) = some r := H
  have A7 := Aside0.mk A70
  clear A70
  have H' := Aside0.mk H
  clear H
  go_enter Try.func3, Try.ntmps3
  go_wp2_with (first | ((with_reducible refine gate_callee (f := 5) rfl ?_); refine goesL_ (some 13) rfl rfl Try.func5 (by kernel_rfl) rfl #[] rfl (by (try simp only [List.map_toArray, List.map_cons, List.map_nil]); first | done | rfl | (simp only [List.length_drop, List.length_take]; rfl)) ?_; (with_reducible refine (omnibuslaw03_awake.calls k  t132 _ A4.out).mono ?_); rintro e w8 ⟨rfl, hb⟩; refine ⟨_, rfl, ?_⟩; have n0_ := Aside0.mk (below_step (by repeat (first | (with_reducible first | exact HB.out | apply below_alloc | apply pw_below_drewN | apply below_drew1) | exact HB.out)) hb); clear HB; have HB := n0_; clear n0_; (try clear hb); (try clear hb2); (try clear hk); (try clear hi)) | ((with_reducible refine gate_callee (f := 6) rfl ?_); refine goesL_ (some 15) rfl rfl Try.func6 (by kernel_rfl) rfl #[.int .i64 a2, .int .i64 16] rfl (by (try simp only [List.map_toArray, List.map_cons, List.map_nil]); first | done | rfl | (simp only [List.length_drop, List.length_take]; rfl)) ?_; (with_reducible refine (omnibuslaw03_pick.calls a2 16 t133 _ A5.out).mono ?_); rintro e w' ⟨rfl, ⟨nd, rfl⟩⟩; refine ⟨_, rfl, ?_⟩) | ((with_reducible refine gate_callee (f := 6) rfl ?_); refine goesL_ (some 18) rfl rfl Try.func6 (by kernel_rfl) rfl #[.int .i64 a0, .int .i64 65536] rfl (by (try simp only [List.map_toArray, List.map_cons, List.map_nil]); first | done | rfl | (simp only [List.length_drop, List.length_take]; rfl)) ?_; (with_reducible refine (omnibuslaw03_pick.calls a0 65536 t134 _ A6.out).mono ?_); rintro e w' ⟨rfl, ⟨nd, rfl⟩⟩; refine ⟨_, rfl, ?_⟩) | ((with_reducible refine gate_callee (f := 6) rfl ?_); refine goesL_ (some 20) rfl rfl Try.func6 (by kernel_rfl) rfl #[.int .i64 a1, .int .i64 65536] rfl (by (try simp only [List.map_toArray, List.map_cons, List.map_nil]); first | done | rfl | (simp only [List.length_drop, List.length_take]; rfl)) ?_; (with_reducible refine (omnibuslaw03_pick.calls a1 65536 t135 _ A7.out).mono ?_); rintro e w' ⟨rfl, ⟨nd, rfl⟩⟩; refine ⟨_, rfl, ?_⟩))
  go_loopg [11, 12] k (fun kq v11 v12 w' => ∃ (x11_1 : Bool) (x12_1 : Int), v11 = .bool x11_1 ∧ v12 = .int .i64 x12_1 ∧ Aside0 (omnibuslaw03_VecHalves.l0 kq t132 (wrap64 (1 + t133)) t134 t135 x11_1 x12_1 = some r) ∧ Aside0 (kq ≤ k) ∧ Aside0 (Below w.heap.size w w'))
  case atStart => exact ⟨(false), (0), (by first | rfl | (simp; done) | (simp [*]; done)), (by first | rfl | (simp; done) | (simp [*]; done)), H', ⟨Nat.le_refl _⟩, ⟨by repeat (first | (with_reducible first | exact HB.out | apply below_alloc | apply pw_below_drewN | apply below_drew1) | exact HB.out)⟩⟩
  case round =>
    clear H'
    try clear p2
    try clear c3
    try clear c5
    try clear c6
    try clear p6
    obtain ⟨x11_1, x12_1, rfl, rfl, HA, HK1, HB⟩ := hrel
    cases gk with
    | zero => exact absurd HA.out (by simp [omnibuslaw03_VecHalves.l0])
    | succ k1 =>
      have H := HA.out
      clear HA
      simp only [omnibuslaw03_VecHalves.l0] at H
      by_cases c9 : x12_1 < (wrap64 (1 + t133))
      · rw [if_pos c9] at H
        have c9b0 : decide (x12_1 < (wrap64 (1 + t133))) = true := decide_eq_true c9
        clear c9
        by_cases c10 : x11_1 = true
        · subst c10
          have H1 : (omnibuslaw03_VecHalves.l0 k1 t132 (wrap64 (1 + t133)) t134 t135 true (wrap64 (x12_1 + 1))) = some r := by rw [if_pos rfl] at H; exact H
          clear H
          have H := H1
          clear H1
          have H' := Aside0.mk H
          clear H
          go_wp2
          go_roundg k1
          case measure => have := HK1.out; omega
          case rel => exact ⟨(true), (wrap64 (x12_1 + 1)), (by first | rfl | (simp; done) | (simp [*]; done)), (by first | rfl | (simp; done) | (simp [*]; done)), H', ⟨by have := HK1.out; omega⟩, ⟨by repeat (first | (with_reducible first | exact HB.out | apply below_alloc | apply pw_below_drewN | apply below_drew1) | exact HB.out)⟩⟩
        · replace c10 := Bool.eq_false_iff.mpr c10
          subst c10
          have H1 : ((vec_Has.f t134 x12_1).bind fun t136 => (if t136 = true then ((vec_Has.f t135 x12_1).bind fun t137 => (omnibuslaw03_VecHalves.l0 k1 t132 (wrap64 (1 + t133)) t134 t135 t137 (wrap64 (x12_1 + 1)))) else (omnibuslaw03_VecHalves.l0 k1 t132 (wrap64 (1 + t133)) t134 t135 false (wrap64 (x12_1 + 1))))) = some r := by rw [if_neg (show ¬ (false = true) by decide)] at H; exact H
          clear H
          have H := H1
          clear H1
          replace H := Option.bind_eq_some_iff.mp H
          obtain ⟨t136, A110, H⟩ := H
          replace H : (if t136 = true then ((vec_Has.f t135 x12_1).bind fun t137 => (omnibuslaw03_VecHalves.l0 k1 t132 (wrap64 (1 + t133)) t134 t135 t137 (wrap64 (x12_1 + 1)))) else (omnibuslaw03_VecHalves.l0 k1 t132 (wrap64 (1 + t133)) t134 t135 false (wrap64 (x12_1 + 1)))) = some r := H
          have A11 := Aside0.mk A110
          clear A110
          by_cases c12 : t136 = true
          · subst c12
            have H1 : ((vec_Has.f t135 x12_1).bind fun t137 => (omnibuslaw03_VecHalves.l0 k1 t132 (wrap64 (1 + t133)) t134 t135 t137 (wrap64 (x12_1 + 1)))) = some r := by rw [if_pos rfl] at H; exact H
            clear H
            have H := H1
            clear H1
            replace H := Option.bind_eq_some_iff.mp H
            obtain ⟨t137, A130, H⟩ := H
            replace H : (omnibuslaw03_VecHalves.l0 k1 t132 (wrap64 (1 + t133)) t134 t135 t137 (wrap64 (x12_1 + 1))) = some r := H
            have A13 := Aside0.mk A130
            clear A130
            have H' := Aside0.mk H
            clear H
            go_wp2_with (first | (go_at_call 7; (with_reducible refine (vec_Has.calls t134 x12_1 true _ A11.out).mono ?_); rintro e w' ⟨rfl, ⟨nd, rfl⟩⟩) | (go_at_call 7; (with_reducible refine (vec_Has.calls t135 x12_1 t137 _ A13.out).mono ?_); rintro e w' ⟨rfl, ⟨nd, rfl⟩⟩))
            go_roundg k1
            case measure => have := HK1.out; omega
            case rel => exact ⟨(t137), (wrap64 (x12_1 + 1)), (by first | rfl | (simp; done) | (simp [*]; done)), (by first | rfl | (simp; done) | (simp [*]; done)), H', ⟨by have := HK1.out; omega⟩, ⟨by repeat (first | (with_reducible first | exact HB.out | apply below_alloc | apply pw_below_drewN | apply below_drew1) | exact HB.out)⟩⟩
          · replace c12 := Bool.eq_false_iff.mpr c12
            subst c12
            have H1 : (omnibuslaw03_VecHalves.l0 k1 t132 (wrap64 (1 + t133)) t134 t135 false (wrap64 (x12_1 + 1))) = some r := by rw [if_neg (show ¬ (false = true) by decide)] at H; exact H
            clear H
            have H := H1
            clear H1
            have H' := Aside0.mk H
            clear H
            go_wp2_with (first | (go_at_call 7; (with_reducible refine (vec_Has.calls t134 x12_1 false _ A11.out).mono ?_); rintro e w' ⟨rfl, ⟨nd, rfl⟩⟩))
            go_roundg k1
            case measure => have := HK1.out; omega
            case rel => exact ⟨(false), (wrap64 (x12_1 + 1)), (by first | rfl | (simp; done) | (simp [*]; done)), (by first | rfl | (simp; done) | (simp [*]; done)), H', ⟨by have := HK1.out; omega⟩, ⟨by repeat (first | (with_reducible first | exact HB.out | apply below_alloc | apply pw_below_drewN | apply below_drew1) | exact HB.out)⟩⟩
      · rw [if_neg c9] at H
        have c9b0 : decide (x12_1 < (wrap64 (1 + t133))) = false := decide_eq_false c9
        clear c9
        have HC14 := Aside0.mk H
        clear H
        go_upto_region 10 with (fail)
        go_cut [48] (fun v48 wc => ∃ (kq : Nat) (x48_13 : Bool), v48 = .bool x48_13 ∧ Aside0 (omnibuslaw03_VecHalves.j1 kq t132 (wrap64 (1 + t133)) t134 t135 x48_13 = some r) ∧ Aside0 (kq ≤ k1) ∧ Aside0 (Below w.heap.size w wc))
        case first =>
          have H := HC14.out
          clear HC14
          replace H := Option.bind_eq_some_iff.mp H
          obtain ⟨t138, A150, H⟩ := H
          replace H : (if t138 = true then ((vec_Most.f t135 (wrap64 (1 + t133))).bind fun t139 => (if t139 = true then (omnibuslaw03_VecHalves.j1 k1 t132 (wrap64 (1 + t133)) t134 t135 (!x11_1)) else (omnibuslaw03_VecHalves.j1 k1 t132 (wrap64 (1 + t133)) t134 t135 false))) else (omnibuslaw03_VecHalves.j1 k1 t132 (wrap64 (1 + t133)) t134 t135 false)) = some r := H
          have A15 := Aside0.mk A150
          clear A150
          by_cases c16 : t138 = true
          · subst c16
            have H1 : ((vec_Most.f t135 (wrap64 (1 + t133))).bind fun t139 => (if t139 = true then (omnibuslaw03_VecHalves.j1 k1 t132 (wrap64 (1 + t133)) t134 t135 (!x11_1)) else (omnibuslaw03_VecHalves.j1 k1 t132 (wrap64 (1 + t133)) t134 t135 false))) = some r := by rw [if_pos rfl] at H; exact H
            clear H
            have H := H1
            clear H1
            replace H := Option.bind_eq_some_iff.mp H
            obtain ⟨t139, A170, H⟩ := H
            replace H : (if t139 = true then (omnibuslaw03_VecHalves.j1 k1 t132 (wrap64 (1 + t133)) t134 t135 (!x11_1)) else (omnibuslaw03_VecHalves.j1 k1 t132 (wrap64 (1 + t133)) t134 t135 false)) = some r := H
            have A17 := Aside0.mk A170
            clear A170
            by_cases c18 : t139 = true
            · subst c18
              have H1 : (omnibuslaw03_VecHalves.j1 k1 t132 (wrap64 (1 + t133)) t134 t135 (!x11_1)) = some r := by rw [if_pos rfl] at H; exact H
              clear H
              have H := H1
              clear H1
              have H' := Aside0.mk H
              clear H
              go_wp2_with (first | ((with_reducible refine gate_callee (f := 8) rfl ?_); refine goesL_ (some 39) rfl rfl Try.func8 (by kernel_rfl) rfl #[.int .i64 t134, .int .i64 (wrap64 (1 + t133))] rfl (by (try simp only [List.map_toArray, List.map_cons, List.map_nil]); first | done | rfl | (simp only [List.length_drop, List.length_take]; rfl)) ?_; (with_reducible refine (vec_Most.calls t134 (wrap64 (1 + t133)) true _ A15.out).mono ?_); rintro e w19 ⟨rfl, hb⟩; refine ⟨_, rfl, ?_⟩; have n0_ := Aside0.mk (below_step (by repeat (first | (with_reducible first | exact HB.out | apply below_alloc | apply pw_below_drewN | apply below_drew1) | exact HB.out)) hb); clear HB; have HB := n0_; clear n0_; (try clear hb); (try clear hb2); (try clear hk); (try clear hi)) | (go_at_call 8; (with_reducible refine (vec_Most.calls t135 (wrap64 (1 + t133)) true _ A17.out).mono ?_); rintro e w20 ⟨rfl, hb⟩; have n0_ := Aside0.mk (below_step (by repeat (first | (with_reducible first | exact HB.out | apply below_alloc | apply pw_below_drewN | apply below_drew1) | exact HB.out)) hb); clear HB; have HB := n0_; clear n0_; (try clear hb); (try clear hb2); (try clear hk); (try clear hi)))
              go_meet
              case rel => exact ⟨_, (!x11_1), (by first | rfl | (simp; done) | (simp [*]; done)), H', ⟨by have := HK1.out; first | omega | exact Nat.le_refl _⟩, ⟨by repeat (first | (with_reducible first | exact HB.out | apply below_alloc | apply pw_below_drewN | apply below_drew1) | exact HB.out)⟩⟩
            · replace c18 := Bool.eq_false_iff.mpr c18
              subst c18
              have H1 : (omnibuslaw03_VecHalves.j1 k1 t132 (wrap64 (1 + t133)) t134 t135 false) = some r := by rw [if_neg (show ¬ (false = true) by decide)] at H; exact H
              clear H
              have H := H1
              clear H1
              have H' := Aside0.mk H
              clear H
              go_wp2_with (first | ((with_reducible refine gate_callee (f := 8) rfl ?_); refine goesL_ (some 39) rfl rfl Try.func8 (by kernel_rfl) rfl #[.int .i64 t134, .int .i64 (wrap64 (1 + t133))] rfl (by (try simp only [List.map_toArray, List.map_cons, List.map_nil]); first | done | rfl | (simp only [List.length_drop, List.length_take]; rfl)) ?_; (with_reducible refine (vec_Most.calls t134 (wrap64 (1 + t133)) true _ A15.out).mono ?_); rintro e w21 ⟨rfl, hb⟩; refine ⟨_, rfl, ?_⟩; have n0_ := Aside0.mk (below_step (by repeat (first | (with_reducible first | exact HB.out | apply below_alloc | apply pw_below_drewN | apply below_drew1) | exact HB.out)) hb); clear HB; have HB := n0_; clear n0_; (try clear hb); (try clear hb2); (try clear hk); (try clear hi)) | (go_at_call 8; (with_reducible refine (vec_Most.calls t135 (wrap64 (1 + t133)) false _ A17.out).mono ?_); rintro e w22 ⟨rfl, hb⟩; have n0_ := Aside0.mk (below_step (by repeat (first | (with_reducible first | exact HB.out | apply below_alloc | apply pw_below_drewN | apply below_drew1) | exact HB.out)) hb); clear HB; have HB := n0_; clear n0_; (try clear hb); (try clear hb2); (try clear hk); (try clear hi)))
              go_meet
              case rel => exact ⟨_, (false), (by first | rfl | (simp; done) | (simp [*]; done)), H', ⟨by have := HK1.out; first | omega | exact Nat.le_refl _⟩, ⟨by repeat (first | (with_reducible first | exact HB.out | apply below_alloc | apply pw_below_drewN | apply below_drew1) | exact HB.out)⟩⟩
          · replace c16 := Bool.eq_false_iff.mpr c16
            subst c16
            have H1 : (omnibuslaw03_VecHalves.j1 k1 t132 (wrap64 (1 + t133)) t134 t135 false) = some r := by rw [if_neg (show ¬ (false = true) by decide)] at H; exact H
            clear H
            have H := H1
            clear H1
            have H' := Aside0.mk H
            clear H
            go_wp2_with (first | ((with_reducible refine gate_callee (f := 8) rfl ?_); refine goesL_ (some 39) rfl rfl Try.func8 (by kernel_rfl) rfl #[.int .i64 t134, .int .i64 (wrap64 (1 + t133))] rfl (by (try simp only [List.map_toArray, List.map_cons, List.map_nil]); first | done | rfl | (simp only [List.length_drop, List.length_take]; rfl)) ?_; (with_reducible refine (vec_Most.calls t134 (wrap64 (1 + t133)) false _ A15.out).mono ?_); rintro e w23 ⟨rfl, hb⟩; refine ⟨_, rfl, ?_⟩; have n0_ := Aside0.mk (below_step (by repeat (first | (with_reducible first | exact HB.out | apply below_alloc | apply pw_below_drewN | apply below_drew1) | exact HB.out)) hb); clear HB; have HB := n0_; clear n0_; (try clear hb); (try clear hb2); (try clear hk); (try clear hi)))
            go_meet
            case rel => exact ⟨_, (false), (by first | rfl | (simp; done) | (simp [*]; done)), H', ⟨by have := HK1.out; first | omega | exact Nat.le_refl _⟩, ⟨by repeat (first | (with_reducible first | exact HB.out | apply below_alloc | apply pw_below_drewN | apply below_drew1) | exact HB.out)⟩⟩
        case rest =>
          clear HC14
          try clear c1
          try clear p2
          try clear c3
          try clear c5
          try clear c6
          try clear p6
          try clear c8
          try clear c9
          try clear c9b0
          try clear c10
          try clear c12
          try clear c16
          try clear c18
          try clear p2
          try clear p6
          obtain ⟨kq, x48_13, rfl, HA, HJ13, HB⟩ := hcut
          cases kq with
          | zero => exact absurd HA.out (by simp [omnibuslaw03_VecHalves.j1])
          | succ kj13 =>
            have H := HA.out
            clear HA
            simp only [omnibuslaw03_VecHalves.j1] at H
            by_cases c24 : x48_13 = true
            · subst c24
              have H1 : (some false) = some r := by rw [if_pos rfl] at H; exact H
              clear H
              have H := H1
              clear H1
              obtain rfl := Option.some.inj H
              go_wp2
              go_ret
              exact ⟨by first | rfl | (simp [errW_none, errW_some] <;> rfl) | (simp [*, errW_none, errW_some] <;> rfl), by repeat (first | (with_reducible first | exact HB.out | apply below_alloc | apply pw_below_drewN | apply below_drew1) | exact HB.out)⟩
            · replace c24 := Bool.eq_false_iff.mpr c24
              subst c24
              have H1 : (if t132 = true then ((vec_Most.f t134 (wrap64 (1 + t133))).bind fun t140 => (if t140 = true then ((vec_Most.f (wrap64 (65535 - t134)) (wrap64 (1 + t133))).bind fun t141 => (if t141 = true then (some false) else ((vec_All.f (wrap64 (1 + t133))).bind fun t142 => ((vec_Most.f t142 (wrap64 (1 + t133))).bind fun t143 => (if t143 = true then ((vec_Most.f 0 (wrap64 (1 + t133))).bind fun t144 => (if t144 = true then (some false) else ((vec_Most.f t134 (wrap64 (1 + t133))).bind fun t145 => (if t145 = true then ((vec_Most.f (Go.bits .or .i64 t134 t135) (wrap64 (1 + t133))).bind fun t146 => (some t146)) else (some true))))) else (some false)))))) else ((vec_All.f (wrap64 (1 + t133))).bind fun t147 => ((vec_Most.f t147 (wrap64 (1 + t133))).bind fun t148 => (if t148 = true then ((vec_Most.f 0 (wrap64 (1 + t133))).bind fun t149 => (if t149 = true then (some false) else ((vec_Most.f t134 (wrap64 (1 + t133))).bind fun t150 => (if t150 = true then ((vec_Most.f (Go.bits .or .i64 t134 t135) (wrap64 (1 + t133))).bind fun t151 => (some t151)) else (some true))))) else (some false)))))) else (some false)) = some r := by rw [if_neg (show ¬ (false = true) by decide)] at H; exact H
              clear H
              have H := H1
              clear H1
              by_cases c25 : t132 = true
              · subst c25
                have H1 : ((vec_Most.f t134 (wrap64 (1 + t133))).bind fun t140 => (if t140 = true then ((vec_Most.f (wrap64 (65535 - t134)) (wrap64 (1 + t133))).bind fun t141 => (if t141 = true then (some false) else ((vec_All.f (wrap64 (1 + t133))).bind fun t142 => ((vec_Most.f t142 (wrap64 (1 + t133))).bind fun t143 => (if t143 = true then ((vec_Most.f 0 (wrap64 (1 + t133))).bind fun t144 => (if t144 = true then (some false) else ((vec_Most.f t134 (wrap64 (1 + t133))).bind fun t145 => (if t145 = true then ((vec_Most.f (Go.bits .or .i64 t134 t135) (wrap64 (1 + t133))).bind fun t146 => (some t146)) else (some true))))) else (some false)))))) else ((vec_All.f (wrap64 (1 + t133))).bind fun t147 => ((vec_Most.f t147 (wrap64 (1 + t133))).bind fun t148 => (if t148 = true then ((vec_Most.f 0 (wrap64 (1 + t133))).bind fun t149 => (if t149 = true then (some false) else ((vec_Most.f t134 (wrap64 (1 + t133))).bind fun t150 => (if t150 = true then ((vec_Most.f (Go.bits .or .i64 t134 t135) (wrap64 (1 + t133))).bind fun t151 => (some t151)) else (some true))))) else (some false)))))) = some r := by rw [if_pos rfl] at H; exact H
                clear H
                have H := H1
                clear H1
                replace H := Option.bind_eq_some_iff.mp H
                obtain ⟨t140, A260, H⟩ := H
                replace H : (if t140 = true then ((vec_Most.f (wrap64 (65535 - t134)) (wrap64 (1 + t133))).bind fun t141 => (if t141 = true then (some false) else ((vec_All.f (wrap64 (1 + t133))).bind fun t142 => ((vec_Most.f t142 (wrap64 (1 + t133))).bind fun t143 => (if t143 = true then ((vec_Most.f 0 (wrap64 (1 + t133))).bind fun t144 => (if t144 = true then (some false) else ((vec_Most.f t134 (wrap64 (1 + t133))).bind fun t145 => (if t145 = true then ((vec_Most.f (Go.bits .or .i64 t134 t135) (wrap64 (1 + t133))).bind fun t146 => (some t146)) else (some true))))) else (some false)))))) else ((vec_All.f (wrap64 (1 + t133))).bind fun t147 => ((vec_Most.f t147 (wrap64 (1 + t133))).bind fun t148 => (if t148 = true then ((vec_Most.f 0 (wrap64 (1 + t133))).bind fun t149 => (if t149 = true then (some false) else ((vec_Most.f t134 (wrap64 (1 + t133))).bind fun t150 => (if t150 = true then ((vec_Most.f (Go.bits .or .i64 t134 t135) (wrap64 (1 + t133))).bind fun t151 => (some t151)) else (some true))))) else (some false))))) = some r := H
                have A26 := Aside0.mk A260
                clear A260
                by_cases c27 : t140 = true
                · subst c27
                  have H1 : ((vec_Most.f (wrap64 (65535 - t134)) (wrap64 (1 + t133))).bind fun t141 => (if t141 = true then (some false) else ((vec_All.f (wrap64 (1 + t133))).bind fun t142 => ((vec_Most.f t142 (wrap64 (1 + t133))).bind fun t143 => (if t143 = true then ((vec_Most.f 0 (wrap64 (1 + t133))).bind fun t144 => (if t144 = true then (some false) else ((vec_Most.f t134 (wrap64 (1 + t133))).bind fun t145 => (if t145 = true then ((vec_Most.f (Go.bits .or .i64 t134 t135) (wrap64 (1 + t133))).bind fun t146 => (some t146)) else (some true))))) else (some false)))))) = some r := by rw [if_pos rfl] at H; exact H
                  clear H
                  have H := H1
                  clear H1
                  replace H := Option.bind_eq_some_iff.mp H
                  obtain ⟨t141, A280, H⟩ := H
                  replace H : (if t141 = true then (some false) else ((vec_All.f (wrap64 (1 + t133))).bind fun t142 => ((vec_Most.f t142 (wrap64 (1 + t133))).bind fun t143 => (if t143 = true then ((vec_Most.f 0 (wrap64 (1 + t133))).bind fun t144 => (if t144 = true then (some false) else ((vec_Most.f t134 (wrap64 (1 + t133))).bind fun t145 => (if t145 = true then ((vec_Most.f (Go.bits .or .i64 t134 t135) (wrap64 (1 + t133))).bind fun t146 => (some t146)) else (some true))))) else (some false))))) = some r := H
                  have A28 := Aside0.mk A280
                  clear A280
                  by_cases c29 : t141 = true
                  · subst c29
                    have H1 : (some false) = some r := by rw [if_pos rfl] at H; exact H
                    clear H
                    have H := H1
                    clear H1
                    obtain rfl := Option.some.inj H
                    go_wp2_with (first | (go_at_call 8; (with_reducible refine (vec_Most.calls t134 (wrap64 (1 + t133)) true _ A26.out).mono ?_); rintro e w30 ⟨rfl, hb⟩; have n0_ := Aside0.mk (below_step (by repeat (first | (with_reducible first | exact HB.out | apply below_alloc | apply pw_below_drewN | apply below_drew1) | exact HB.out)) hb); clear HB; have HB := n0_; clear n0_; (try clear hb); (try clear hb2); (try clear hk); (try clear hi)) | (go_at_call 8; (with_reducible refine (vec_Most.calls (wrap64 (65535 - t134)) (wrap64 (1 + t133)) true _ A28.out).mono ?_); rintro e w31 ⟨rfl, hb⟩; have n0_ := Aside0.mk (below_step (by repeat (first | (with_reducible first | exact HB.out | apply below_alloc | apply pw_below_drewN | apply below_drew1) | exact HB.out)) hb); clear HB; have HB := n0_; clear n0_; (try clear hb); (try clear hb2); (try clear hk); (try clear hi)))
                    go_ret
                    exact ⟨by first | rfl | (simp [errW_none, errW_some] <;> rfl) | (simp [*, errW_none, errW_some] <;> rfl), by repeat (first | (with_reducible first | exact HB.out | apply below_alloc | apply pw_below_drewN | apply below_drew1) | exact HB.out)⟩
                  · replace c29 := Bool.eq_false_iff.mpr c29
                    subst c29
                    have H1 : ((vec_All.f (wrap64 (1 + t133))).bind fun t142 => ((vec_Most.f t142 (wrap64 (1 + t133))).bind fun t143 => (if t143 = true then ((vec_Most.f 0 (wrap64 (1 + t133))).bind fun t144 => (if t144 = true then (some false) else ((vec_Most.f t134 (wrap64 (1 + t133))).bind fun t145 => (if t145 = true then ((vec_Most.f (Go.bits .or .i64 t134 t135) (wrap64 (1 + t133))).bind fun t146 => (some t146)) else (some true))))) else (some false)))) = some r := by rw [if_neg (show ¬ (false = true) by decide)] at H; exact H
                    clear H
                    have H := H1
                    clear H1
                    replace H := Option.bind_eq_some_iff.mp H
                    obtain ⟨t142, A320, H⟩ := H
                    replace H : ((vec_Most.f t142 (wrap64 (1 + t133))).bind fun t143 => (if t143 = true then ((vec_Most.f 0 (wrap64 (1 + t133))).bind fun t144 => (if t144 = true then (some false) else ((vec_Most.f t134 (wrap64 (1 + t133))).bind fun t145 => (if t145 = true then ((vec_Most.f (Go.bits .or .i64 t134 t135) (wrap64 (1 + t133))).bind fun t146 => (some t146)) else (some true))))) else (some false))) = some r := H
                    have A32 := Aside0.mk A320
                    clear A320
                    replace H := Option.bind_eq_some_iff.mp H
                    obtain ⟨t143, A330, H⟩ := H
                    replace H : (if t143 = true then ((vec_Most.f 0 (wrap64 (1 + t133))).bind fun t144 => (if t144 = true then (some false) else ((vec_Most.f t134 (wrap64 (1 + t133))).bind fun t145 => (if t145 = true then ((vec_Most.f (Go.bits .or .i64 t134 t135) (wrap64 (1 + t133))).bind fun t146 => (some t146)) else (some true))))) else (some false)) = some r := H
                    have A33 := Aside0.mk A330
                    clear A330
                    by_cases c34 : t143 = true
                    · subst c34
                      have H1 : ((vec_Most.f 0 (wrap64 (1 + t133))).bind fun t144 => (if t144 = true then (some false) else ((vec_Most.f t134 (wrap64 (1 + t133))).bind fun t145 => (if t145 = true then ((vec_Most.f (Go.bits .or .i64 t134 t135) (wrap64 (1 + t133))).bind fun t146 => (some t146)) else (some true))))) = some r := by rw [if_pos rfl] at H; exact H
                      clear H
                      have H := H1
                      clear H1
                      replace H := Option.bind_eq_some_iff.mp H
                      obtain ⟨t144, A350, H⟩ := H
                      replace H : (if t144 = true then (some false) else ((vec_Most.f t134 (wrap64 (1 + t133))).bind fun t145 => (if t145 = true then ((vec_Most.f (Go.bits .or .i64 t134 t135) (wrap64 (1 + t133))).bind fun t146 => (some t146)) else (some true)))) = some r := H
                      have A35 := Aside0.mk A350
                      clear A350
                      by_cases c36 : t144 = true
                      · subst c36
                        have H1 : (some false) = some r := by rw [if_pos rfl] at H; exact H
                        clear H
                        have H := H1
                        clear H1
                        obtain rfl := Option.some.inj H
                        go_wp2_with (first | (go_at_call 8; (with_reducible refine (vec_Most.calls t134 (wrap64 (1 + t133)) true _ A26.out).mono ?_); rintro e w37 ⟨rfl, hb⟩; have n0_ := Aside0.mk (below_step (by repeat (first | (with_reducible first | exact HB.out | apply below_alloc | apply pw_below_drewN | apply below_drew1) | exact HB.out)) hb); clear HB; have HB := n0_; clear n0_; (try clear hb); (try clear hb2); (try clear hk); (try clear hi)) | (go_at_call 8; (with_reducible refine (vec_Most.calls (wrap64 (65535 - t134)) (wrap64 (1 + t133)) false _ A28.out).mono ?_); rintro e w38 ⟨rfl, hb⟩; have n0_ := Aside0.mk (below_step (by repeat (first | (with_reducible first | exact HB.out | apply below_alloc | apply pw_below_drewN | apply below_drew1) | exact HB.out)) hb); clear HB; have HB := n0_; clear n0_; (try clear hb); (try clear hb2); (try clear hk); (try clear hi)) | (go_at_call 9; (with_reducible refine (vec_All.calls (wrap64 (1 + t133)) t142 _ A32.out).mono ?_); rintro e w39 ⟨rfl, hb⟩; have n0_ := Aside0.mk (below_step (by repeat (first | (with_reducible first | exact HB.out | apply below_alloc | apply pw_below_drewN | apply below_drew1) | exact HB.out)) hb); clear HB; have HB := n0_; clear n0_; (try clear hb); (try clear hb2); (try clear hk); (try clear hi)) | (go_at_call 8; (with_reducible refine (vec_Most.calls t142 (wrap64 (1 + t133)) true _ A33.out).mono ?_); rintro e w40 ⟨rfl, hb⟩; have n0_ := Aside0.mk (below_step (by repeat (first | (with_reducible first | exact HB.out | apply below_alloc | apply pw_below_drewN | apply below_drew1) | exact HB.out)) hb); clear HB; have HB := n0_; clear n0_; (try clear hb); (try clear hb2); (try clear hk); (try clear hi)) | (go_at_call 8; (with_reducible refine (vec_Most.calls 0 (wrap64 (1 + t133)) true _ A35.out).mono ?_); rintro e w41 ⟨rfl, hb⟩; have n0_ := Aside0.mk (below_step (by repeat (first | (with_reducible first | exact HB.out | apply below_alloc | apply pw_below_drewN | apply below_drew1) | exact HB.out)) hb); clear HB; have HB := n0_; clear n0_; (try clear hb); (try clear hb2); (try clear hk); (try clear hi)))
                        go_ret
                        exact ⟨by first | rfl | (simp [errW_none, errW_some] <;> rfl) | (simp [*, errW_none, errW_some] <;> rfl), by repeat (first | (with_reducible first | exact HB.out | apply below_alloc | apply pw_below_drewN | apply below_drew1) | exact HB.out)⟩
                      · replace c36 := Bool.eq_false_iff.mpr c36
                        subst c36
                        have H1 : ((vec_Most.f t134 (wrap64 (1 + t133))).bind fun t145 => (if t145 = true then ((vec_Most.f (Go.bits .or .i64 t134 t135) (wrap64 (1 + t133))).bind fun t146 => (some t146)) else (some true))) = some r := by rw [if_neg (show ¬ (false = true) by decide)] at H; exact H
                        clear H
                        have H := H1
                        clear H1
                        replace H := Option.bind_eq_some_iff.mp H
                        obtain ⟨t145, A420, H⟩ := H
                        replace H : (if t145 = true then ((vec_Most.f (Go.bits .or .i64 t134 t135) (wrap64 (1 + t133))).bind fun t146 => (some t146)) else (some true)) = some r := H
                        have A42 := Aside0.mk A420
                        have HQA42 := Aside0.mk (Option.some.inj (A42.out.symm.trans A26.out))
                        clear A420
                        by_cases c43 : t145 = true
                        · subst c43
                          have H1 : ((vec_Most.f (Go.bits .or .i64 t134 t135) (wrap64 (1 + t133))).bind fun t146 => (some t146)) = some r := by rw [if_pos rfl] at H; exact H
                          clear H
                          have H := H1
                          clear H1
                          replace H := Option.bind_eq_some_iff.mp H
                          obtain ⟨t146, A440, H⟩ := H
                          replace H : (some t146) = some r := H
                          have A44 := Aside0.mk A440
                          clear A440
                          obtain rfl := Option.some.inj H
                          go_wp2_with (first | (go_at_call 8; (with_reducible refine (vec_Most.calls t134 (wrap64 (1 + t133)) true _ A26.out).mono ?_); rintro e w45 ⟨rfl, hb⟩; have n0_ := Aside0.mk (below_step (by repeat (first | (with_reducible first | exact HB.out | apply below_alloc | apply pw_below_drewN | apply below_drew1) | exact HB.out)) hb); clear HB; have HB := n0_; clear n0_; (try clear hb); (try clear hb2); (try clear hk); (try clear hi)) | (go_at_call 8; (with_reducible refine (vec_Most.calls (wrap64 (65535 - t134)) (wrap64 (1 + t133)) false _ A28.out).mono ?_); rintro e w46 ⟨rfl, hb⟩; have n0_ := Aside0.mk (below_step (by repeat (first | (with_reducible first | exact HB.out | apply below_alloc | apply pw_below_drewN | apply below_drew1) | exact HB.out)) hb); clear HB; have HB := n0_; clear n0_; (try clear hb); (try clear hb2); (try clear hk); (try clear hi)) | (go_at_call 9; (with_reducible refine (vec_All.calls (wrap64 (1 + t133)) t142 _ A32.out).mono ?_); rintro e w47 ⟨rfl, hb⟩; have n0_ := Aside0.mk (below_step (by repeat (first | (with_reducible first | exact HB.out | apply below_alloc | apply pw_below_drewN | apply below_drew1) | exact HB.out)) hb); clear HB; have HB := n0_; clear n0_; (try clear hb); (try clear hb2); (try clear hk); (try clear hi)) | (go_at_call 8; (with_reducible refine (vec_Most.calls t142 (wrap64 (1 + t133)) true _ A33.out).mono ?_); rintro e w48 ⟨rfl, hb⟩; have n0_ := Aside0.mk (below_step (by repeat (first | (with_reducible first | exact HB.out | apply below_alloc | apply pw_below_drewN | apply below_drew1) | exact HB.out)) hb); clear HB; have HB := n0_; clear n0_; (try clear hb); (try clear hb2); (try clear hk); (try clear hi)) | (go_at_call 8; (with_reducible refine (vec_Most.calls 0 (wrap64 (1 + t133)) false _ A35.out).mono ?_); rintro e w49 ⟨rfl, hb⟩; have n0_ := Aside0.mk (below_step (by repeat (first | (with_reducible first | exact HB.out | apply below_alloc | apply pw_below_drewN | apply below_drew1) | exact HB.out)) hb); clear HB; have HB := n0_; clear n0_; (try clear hb); (try clear hb2); (try clear hk); (try clear hi)) | (go_at_call 8; (with_reducible refine (vec_Most.calls t134 (wrap64 (1 + t133)) true _ A42.out).mono ?_); rintro e w50 ⟨rfl, hb⟩; have n0_ := Aside0.mk (below_step (by repeat (first | (with_reducible first | exact HB.out | apply below_alloc | apply pw_below_drewN | apply below_drew1) | exact HB.out)) hb); clear HB; have HB := n0_; clear n0_; (try clear hb); (try clear hb2); (try clear hk); (try clear hi)) | (go_at_call 8; (with_reducible refine (vec_Most.calls (Go.bits .or .i64 t134 t135) (wrap64 (1 + t133)) t146 _ A44.out).mono ?_); rintro e w51 ⟨rfl, hb⟩; have n0_ := Aside0.mk (below_step (by repeat (first | (with_reducible first | exact HB.out | apply below_alloc | apply pw_below_drewN | apply below_drew1) | exact HB.out)) hb); clear HB; have HB := n0_; clear n0_; (try clear hb); (try clear hb2); (try clear hk); (try clear hi)))
                          go_ret
                          exact ⟨by first | rfl | (simp only [HQA42.out]; first | rfl | (simp; done)) | (simp [errW_none, errW_some] <;> rfl) | (simp [*, errW_none, errW_some] <;> rfl), by repeat (first | (with_reducible first | exact HB.out | apply below_alloc | apply pw_below_drewN | apply below_drew1) | exact HB.out)⟩
                        · exact absurd HQA42.out c43
                    · replace c34 := Bool.eq_false_iff.mpr c34
                      subst c34
                      have H1 : (some false) = some r := by rw [if_neg (show ¬ (false = true) by decide)] at H; exact H
                      clear H
                      have H := H1
                      clear H1
                      obtain rfl := Option.some.inj H
                      go_wp2_with (first | (go_at_call 8; (with_reducible refine (vec_Most.calls t134 (wrap64 (1 + t133)) true _ A26.out).mono ?_); rintro e w58 ⟨rfl, hb⟩; have n0_ := Aside0.mk (below_step (by repeat (first | (with_reducible first | exact HB.out | apply below_alloc | apply pw_below_drewN | apply below_drew1) | exact HB.out)) hb); clear HB; have HB := n0_; clear n0_; (try clear hb); (try clear hb2); (try clear hk); (try clear hi)) | (go_at_call 8; (with_reducible refine (vec_Most.calls (wrap64 (65535 - t134)) (wrap64 (1 + t133)) false _ A28.out).mono ?_); rintro e w59 ⟨rfl, hb⟩; have n0_ := Aside0.mk (below_step (by repeat (first | (with_reducible first | exact HB.out | apply below_alloc | apply pw_below_drewN | apply below_drew1) | exact HB.out)) hb); clear HB; have HB := n0_; clear n0_; (try clear hb); (try clear hb2); (try clear hk); (try clear hi)) | (go_at_call 9; (with_reducible refine (vec_All.calls (wrap64 (1 + t133)) t142 _ A32.out).mono ?_); rintro e w60 ⟨rfl, hb⟩; have n0_ := Aside0.mk (below_step (by repeat (first | (with_reducible first | exact HB.out | apply below_alloc | apply pw_below_drewN | apply below_drew1) | exact HB.out)) hb); clear HB; have HB := n0_; clear n0_; (try clear hb); (try clear hb2); (try clear hk); (try clear hi)) | (go_at_call 8; (with_reducible refine (vec_Most.calls t142 (wrap64 (1 + t133)) false _ A33.out).mono ?_); rintro e w61 ⟨rfl, hb⟩; have n0_ := Aside0.mk (below_step (by repeat (first | (with_reducible first | exact HB.out | apply below_alloc | apply pw_below_drewN | apply below_drew1) | exact HB.out)) hb); clear HB; have HB := n0_; clear n0_; (try clear hb); (try clear hb2); (try clear hk); (try clear hi)))
                      go_ret
                      exact ⟨by first | rfl | (simp [errW_none, errW_some] <;> rfl) | (simp [*, errW_none, errW_some] <;> rfl), by repeat (first | (with_reducible first | exact HB.out | apply below_alloc | apply pw_below_drewN | apply below_drew1) | exact HB.out)⟩
                · replace c27 := Bool.eq_false_iff.mpr c27
                  subst c27
                  have H1 : ((vec_All.f (wrap64 (1 + t133))).bind fun t147 => ((vec_Most.f t147 (wrap64 (1 + t133))).bind fun t148 => (if t148 = true then ((vec_Most.f 0 (wrap64 (1 + t133))).bind fun t149 => (if t149 = true then (some false) else ((vec_Most.f t134 (wrap64 (1 + t133))).bind fun t150 => (if t150 = true then ((vec_Most.f (Go.bits .or .i64 t134 t135) (wrap64 (1 + t133))).bind fun t151 => (some t151)) else (some true))))) else (some false)))) = some r := by rw [if_neg (show ¬ (false = true) by decide)] at H; exact H
                  clear H
                  have H := H1
                  clear H1
                  replace H := Option.bind_eq_some_iff.mp H
                  obtain ⟨t147, A620, H⟩ := H
                  replace H : ((vec_Most.f t147 (wrap64 (1 + t133))).bind fun t148 => (if t148 = true then ((vec_Most.f 0 (wrap64 (1 + t133))).bind fun t149 => (if t149 = true then (some false) else ((vec_Most.f t134 (wrap64 (1 + t133))).bind fun t150 => (if t150 = true then ((vec_Most.f (Go.bits .or .i64 t134 t135) (wrap64 (1 + t133))).bind fun t151 => (some t151)) else (some true))))) else (some false))) = some r := H
                  have A62 := Aside0.mk A620
                  clear A620
                  replace H := Option.bind_eq_some_iff.mp H
                  obtain ⟨t148, A630, H⟩ := H
                  replace H : (if t148 = true then ((vec_Most.f 0 (wrap64 (1 + t133))).bind fun t149 => (if t149 = true then (some false) else ((vec_Most.f t134 (wrap64 (1 + t133))).bind fun t150 => (if t150 = true then ((vec_Most.f (Go.bits .or .i64 t134 t135) (wrap64 (1 + t133))).bind fun t151 => (some t151)) else (some true))))) else (some false)) = some r := H
                  have A63 := Aside0.mk A630
                  clear A630
                  by_cases c64 : t148 = true
                  · subst c64
                    have H1 : ((vec_Most.f 0 (wrap64 (1 + t133))).bind fun t149 => (if t149 = true then (some false) else ((vec_Most.f t134 (wrap64 (1 + t133))).bind fun t150 => (if t150 = true then ((vec_Most.f (Go.bits .or .i64 t134 t135) (wrap64 (1 + t133))).bind fun t151 => (some t151)) else (some true))))) = some r := by rw [if_pos rfl] at H; exact H
                    clear H
                    have H := H1
                    clear H1
                    replace H := Option.bind_eq_some_iff.mp H
                    obtain ⟨t149, A650, H⟩ := H
                    replace H : (if t149 = true then (some false) else ((vec_Most.f t134 (wrap64 (1 + t133))).bind fun t150 => (if t150 = true then ((vec_Most.f (Go.bits .or .i64 t134 t135) (wrap64 (1 + t133))).bind fun t151 => (some t151)) else (some true)))) = some r := H
                    have A65 := Aside0.mk A650
                    clear A650
                    by_cases c66 : t149 = true
                    · subst c66
                      have H1 : (some false) = some r := by rw [if_pos rfl] at H; exact H
                      clear H
                      have H := H1
                      clear H1
                      obtain rfl := Option.some.inj H
                      go_wp2_with (first | (go_at_call 8; (with_reducible refine (vec_Most.calls t134 (wrap64 (1 + t133)) false _ A26.out).mono ?_); rintro e w67 ⟨rfl, hb⟩; have n0_ := Aside0.mk (below_step (by repeat (first | (with_reducible first | exact HB.out | apply below_alloc | apply pw_below_drewN | apply below_drew1) | exact HB.out)) hb); clear HB; have HB := n0_; clear n0_; (try clear hb); (try clear hb2); (try clear hk); (try clear hi)) | (go_at_call 9; (with_reducible refine (vec_All.calls (wrap64 (1 + t133)) t147 _ A62.out).mono ?_); rintro e w68 ⟨rfl, hb⟩; have n0_ := Aside0.mk (below_step (by repeat (first | (with_reducible first | exact HB.out | apply below_alloc | apply pw_below_drewN | apply below_drew1) | exact HB.out)) hb); clear HB; have HB := n0_; clear n0_; (try clear hb); (try clear hb2); (try clear hk); (try clear hi)) | (go_at_call 8; (with_reducible refine (vec_Most.calls t147 (wrap64 (1 + t133)) true _ A63.out).mono ?_); rintro e w69 ⟨rfl, hb⟩; have n0_ := Aside0.mk (below_step (by repeat (first | (with_reducible first | exact HB.out | apply below_alloc | apply pw_below_drewN | apply below_drew1) | exact HB.out)) hb); clear HB; have HB := n0_; clear n0_; (try clear hb); (try clear hb2); (try clear hk); (try clear hi)) | (go_at_call 8; (with_reducible refine (vec_Most.calls 0 (wrap64 (1 + t133)) true _ A65.out).mono ?_); rintro e w70 ⟨rfl, hb⟩; have n0_ := Aside0.mk (below_step (by repeat (first | (with_reducible first | exact HB.out | apply below_alloc | apply pw_below_drewN | apply below_drew1) | exact HB.out)) hb); clear HB; have HB := n0_; clear n0_; (try clear hb); (try clear hb2); (try clear hk); (try clear hi)))
                      go_ret
                      exact ⟨by first | rfl | (simp [errW_none, errW_some] <;> rfl) | (simp [*, errW_none, errW_some] <;> rfl), by repeat (first | (with_reducible first | exact HB.out | apply below_alloc | apply pw_below_drewN | apply below_drew1) | exact HB.out)⟩
                    · replace c66 := Bool.eq_false_iff.mpr c66
                      subst c66
                      have H1 : ((vec_Most.f t134 (wrap64 (1 + t133))).bind fun t150 => (if t150 = true then ((vec_Most.f (Go.bits .or .i64 t134 t135) (wrap64 (1 + t133))).bind fun t151 => (some t151)) else (some true))) = some r := by rw [if_neg (show ¬ (false = true) by decide)] at H; exact H
                      clear H
                      have H := H1
                      clear H1
                      replace H := Option.bind_eq_some_iff.mp H
                      obtain ⟨t150, A710, H⟩ := H
                      replace H : (if t150 = true then ((vec_Most.f (Go.bits .or .i64 t134 t135) (wrap64 (1 + t133))).bind fun t151 => (some t151)) else (some true)) = some r := H
                      have A71 := Aside0.mk A710
                      have HQA71 := Aside0.mk (Option.some.inj (A71.out.symm.trans A26.out))
                      clear A710
                      by_cases c72 : t150 = true
                      · exact absurd (c72.symm.trans HQA71.out) (by decide)
                      · replace c72 := Bool.eq_false_iff.mpr c72
                        subst c72
                        have H1 : (some true) = some r := by rw [if_neg (show ¬ (false = true) by decide)] at H; exact H
                        clear H
                        have H := H1
                        clear H1
                        obtain rfl := Option.some.inj H
                        go_wp2_with (first | (go_at_call 8; (with_reducible refine (vec_Most.calls t134 (wrap64 (1 + t133)) false _ A26.out).mono ?_); rintro e w80 ⟨rfl, hb⟩; have n0_ := Aside0.mk (below_step (by repeat (first | (with_reducible first | exact HB.out | apply below_alloc | apply pw_below_drewN | apply below_drew1) | exact HB.out)) hb); clear HB; have HB := n0_; clear n0_; (try clear hb); (try clear hb2); (try clear hk); (try clear hi)) | (go_at_call 9; (with_reducible refine (vec_All.calls (wrap64 (1 + t133)) t147 _ A62.out).mono ?_); rintro e w81 ⟨rfl, hb⟩; have n0_ := Aside0.mk (below_step (by repeat (first | (with_reducible first | exact HB.out | apply below_alloc | apply pw_below_drewN | apply below_drew1) | exact HB.out)) hb); clear HB; have HB := n0_; clear n0_; (try clear hb); (try clear hb2); (try clear hk); (try clear hi)) | (go_at_call 8; (with_reducible refine (vec_Most.calls t147 (wrap64 (1 + t133)) true _ A63.out).mono ?_); rintro e w82 ⟨rfl, hb⟩; have n0_ := Aside0.mk (below_step (by repeat (first | (with_reducible first | exact HB.out | apply below_alloc | apply pw_below_drewN | apply below_drew1) | exact HB.out)) hb); clear HB; have HB := n0_; clear n0_; (try clear hb); (try clear hb2); (try clear hk); (try clear hi)) | (go_at_call 8; (with_reducible refine (vec_Most.calls 0 (wrap64 (1 + t133)) false _ A65.out).mono ?_); rintro e w83 ⟨rfl, hb⟩; have n0_ := Aside0.mk (below_step (by repeat (first | (with_reducible first | exact HB.out | apply below_alloc | apply pw_below_drewN | apply below_drew1) | exact HB.out)) hb); clear HB; have HB := n0_; clear n0_; (try clear hb); (try clear hb2); (try clear hk); (try clear hi)) | (go_at_call 8; (with_reducible refine (vec_Most.calls t134 (wrap64 (1 + t133)) false _ A71.out).mono ?_); rintro e w84 ⟨rfl, hb⟩; have n0_ := Aside0.mk (below_step (by repeat (first | (with_reducible first | exact HB.out | apply below_alloc | apply pw_below_drewN | apply below_drew1) | exact HB.out)) hb); clear HB; have HB := n0_; clear n0_; (try clear hb); (try clear hb2); (try clear hk); (try clear hi)))
                        go_ret
                        exact ⟨by first | rfl | (simp only [HQA71.out]; first | rfl | (simp; done)) | (simp [errW_none, errW_some] <;> rfl) | (simp [*, errW_none, errW_some] <;> rfl), by repeat (first | (with_reducible first | exact HB.out | apply below_alloc | apply pw_below_drewN | apply below_drew1) | exact HB.out)⟩
                  · replace c64 := Bool.eq_false_iff.mpr c64
                    subst c64
                    have H1 : (some false) = some r := by rw [if_neg (show ¬ (false = true) by decide)] at H; exact H
                    clear H
                    have H := H1
                    clear H1
                    obtain rfl := Option.some.inj H
                    go_wp2_with (first | (go_at_call 8; (with_reducible refine (vec_Most.calls t134 (wrap64 (1 + t133)) false _ A26.out).mono ?_); rintro e w85 ⟨rfl, hb⟩; have n0_ := Aside0.mk (below_step (by repeat (first | (with_reducible first | exact HB.out | apply below_alloc | apply pw_below_drewN | apply below_drew1) | exact HB.out)) hb); clear HB; have HB := n0_; clear n0_; (try clear hb); (try clear hb2); (try clear hk); (try clear hi)) | (go_at_call 9; (with_reducible refine (vec_All.calls (wrap64 (1 + t133)) t147 _ A62.out).mono ?_); rintro e w86 ⟨rfl, hb⟩; have n0_ := Aside0.mk (below_step (by repeat (first | (with_reducible first | exact HB.out | apply below_alloc | apply pw_below_drewN | apply below_drew1) | exact HB.out)) hb); clear HB; have HB := n0_; clear n0_; (try clear hb); (try clear hb2); (try clear hk); (try clear hi)) | (go_at_call 8; (with_reducible refine (vec_Most.calls t147 (wrap64 (1 + t133)) false _ A63.out).mono ?_); rintro e w87 ⟨rfl, hb⟩; have n0_ := Aside0.mk (below_step (by repeat (first | (with_reducible first | exact HB.out | apply below_alloc | apply pw_below_drewN | apply below_drew1) | exact HB.out)) hb); clear HB; have HB := n0_; clear n0_; (try clear hb); (try clear hb2); (try clear hk); (try clear hi)))
                    go_ret
                    exact ⟨by first | rfl | (simp [errW_none, errW_some] <;> rfl) | (simp [*, errW_none, errW_some] <;> rfl), by repeat (first | (with_reducible first | exact HB.out | apply below_alloc | apply pw_below_drewN | apply below_drew1) | exact HB.out)⟩
              · replace c25 := Bool.eq_false_iff.mpr c25
                subst c25
                have H1 : (some false) = some r := by rw [if_neg (show ¬ (false = true) by decide)] at H; exact H
                clear H
                have H := H1
                clear H1
                obtain rfl := Option.some.inj H
                go_wp2
                go_ret
                exact ⟨by first | rfl | (simp [errW_none, errW_some] <;> rfl) | (simp [*, errW_none, errW_some] <;> rfl), by repeat (first | (with_reducible first | exact HB.out | apply below_alloc | apply pw_below_drewN | apply below_drew1) | exact HB.out)⟩

/-- THE ONE PURE STATEMENT of omnibuslaw03_VecHalves: yours. -/
def omnibuslaw03_VecHalves.Pure : Prop := ∀ (a0 : Int) (a1 : Int) (a2 : Int), (Lit.int .i64 a0).wf = true → (Lit.int .i64 a1).wf = true → (Lit.int .i64 a2).wf = true → ∃ k, omnibuslaw03_VecHalves.f k a0 a1 a2 = some true
theorem omnibuslaw03_VecHalves.walk (P : omnibuslaw03_VecHalves.Pure) (a0 : Int) (a1 : Int) (a2 : Int) (w : World) (w0 : (Lit.int .i64 a0).wf = true) (w1 : (Lit.int .i64 a1).wf = true) (w2 : (Lit.int .i64 a2).wf = true) :
    Calls Try.prog 3 #[.int .i64 a0, .int .i64 a1, .int .i64 a2] w fun e w' => e = .returned (.bool true) ∧ Below w.heap.size w w' := by
  obtain ⟨k, h⟩ := P a0 a1 a2 w0 w1 w2
  refine (omnibuslaw03_VecHalves.calls k a0 a1 a2 true w h).mono ?_
  rintro e w' ⟨rfl, hd⟩
  exact ⟨rfl, hd⟩

end Go.Proofs.Ytbndfdplcojjgaa.Q
