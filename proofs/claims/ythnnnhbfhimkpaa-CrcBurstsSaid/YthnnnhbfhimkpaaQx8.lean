/- Go functions as Lean functions, each with a proof that the machine's call comes to what its Lean function tells; no condition beside those that each theorem states. Written by this project's program drive.py. -/
import Derived.Test.YthnnnhbfhimkpaaQx0
import Derived.Test.YthnnnhbfhimkpaaQx2
import Derived.Test.YthnnnhbfhimkpaaQx3
import Derived.Test.YthnnnhbfhimkpaaQx4
import Derived.Test.YthnnnhbfhimkpaaQx7
namespace Go.Proofs.Ythnnnhbfhimkpaa.Q
open Go.RowKit Go.Proofs.YthnnnhbfhimkpaaW.PrintWords Go.Proofs.YthnnnhbfhimkpaaW.PrintLast Go.Proofs.YthnnnhbfhimkpaaW.PrintMore
attribute [local go_sem] max2_int min2_int max_two min_two max_three min_three max_four min_four   -- for this text's walks alone
set_option linter.unusedVariables false
set_option linter.unusedSimpArgs false

/-! ### omnibuslaw01_CrcBursts: function 4 -/
def omnibuslaw01_CrcBursts.j0 : Nat → Int → Int → Bool → ByteArray → Bool → Option (Bool)
  | 0, _, _, _, _, _ => none
  | k + 1, x1, x2, x7, x9, x43 => if x43 = true then (some false) else ((omnibuslaw01_pick.f x1 (wrap64 (8 * (x9.size : Int)))).bind fun t140 => ((omnibuslaw01_pick.f x2 65536).bind fun t141 => ((crc_Burst.f x9 t140 t141).bind fun t142 => ((crc_Open.f k t142).bind fun bt143 => (if x7 = true then (if (bt143.2 == (t142.toList == x9.toList)) = true then ((omnibuslaw01_pick.f x2 65536).bind fun t145 => ((crc_Burst.f t142 t140 t145).bind fun t146 => (if t146.toList = x9.toList then (some ((t142.size : Int) == (x9.size : Int))) else (some false)))) else (some false)) else (some false))))))
def omnibuslaw01_CrcBursts.f (k : Nat) (a0 : ByteArray) (a1 : Int) (a2 : Int) : Option (Bool) := (omnibuslaw01_awake.f k).bind fun t136 => (if 0 ≤ (mn (a0.size : Int) 300) then (if (mn (a0.size : Int) 300) ≤ (a0.size : Int) then ((crc_Close.f k (a0.extract 0 ((mn (a0.size : Int) 300) : Int).toNat)).bind fun t137 => ((crc_Open.f k t137).bind fun bt138 => (if bt138.1.toList = (a0.extract 0 ((mn (a0.size : Int) 300) : Int).toNat).toList then (if bt138.2 = true then (omnibuslaw01_CrcBursts.j0 k a1 a2 t136 t137 ((t137.size : Int) != (wrap64 (((a0.extract 0 ((mn (a0.size : Int) 300) : Int).toNat).size : Int) + 2)))) else (omnibuslaw01_CrcBursts.j0 k a1 a2 t136 t137 true)) else (omnibuslaw01_CrcBursts.j0 k a1 a2 t136 t137 true)))) else (none)) else (none))
theorem omnibuslaw01_CrcBursts.mono_l : ∀ k, (∀ y0 y1 y2 y3 y4, LeO (omnibuslaw01_CrcBursts.j0 k y0 y1 y2 y3 y4) (omnibuslaw01_CrcBursts.j0 (k + 1) y0 y1 y2 y3 y4))
  | 0 => fun _ _ _ _ _ r h => by simp [omnibuslaw01_CrcBursts.j0] at h
  | k + 1 => by
    have ih0 := omnibuslaw01_CrcBursts.mono_l k
    · intro y0 y1 y2 y3 y4
      unfold omnibuslaw01_CrcBursts.j0
      repeat' first
      | (with_reducible exact ih0 _ _ _ _ _)
      | (with_reducible exact crc_Close.mono _ _)
      | (with_reducible exact crc_Open.mono _ _)
      | (with_reducible exact omnibuslaw01_awake.mono _)
      | (with_reducible exact LeO.refl _)
      | (with_reducible exact LeO.none _)
      | (with_reducible refine LeO.ite ?_ ?_)
      | (with_reducible refine LeO.bind ?_ (fun _ => ?_))
      | exact ih0 _ _ _ _ _
      | exact crc_Close.mono _ _
      | exact crc_Open.mono _ _
      | exact omnibuslaw01_awake.mono _
      | exact LeO.none _
      | refine LeO.ite ?_ ?_
      | refine LeO.bind ?_ (fun _ => ?_)
theorem omnibuslaw01_CrcBursts.mono : ∀ a0 a1 a2 k, LeO (omnibuslaw01_CrcBursts.f k a0 a1 a2) (omnibuslaw01_CrcBursts.f (k + 1) a0 a1 a2) := by
  intro a0 a1 a2 k
  have ih0 := omnibuslaw01_CrcBursts.mono_l k
  unfold omnibuslaw01_CrcBursts.f
  repeat' first
      | (with_reducible exact ih0 _ _ _ _ _)
      | (with_reducible exact crc_Close.mono _ _)
      | (with_reducible exact crc_Open.mono _ _)
      | (with_reducible exact omnibuslaw01_awake.mono _)
      | (with_reducible exact LeO.refl _)
      | (with_reducible exact LeO.none _)
      | (with_reducible refine LeO.ite ?_ ?_)
      | (with_reducible refine LeO.bind ?_ (fun _ => ?_))
      | exact ih0 _ _ _ _ _
      | exact crc_Close.mono _ _
      | exact crc_Open.mono _ _
      | exact omnibuslaw01_awake.mono _
      | exact LeO.none _
      | refine LeO.ite ?_ ?_
      | refine LeO.bind ?_ (fun _ => ?_)
set_option maxHeartbeats 8000000 in
set_option maxRecDepth 100000 in
theorem omnibuslaw01_CrcBursts.calls (k : Nat) (a0 : ByteArray) (a1 : Int) (a2 : Int) (r : Bool) (w : World) (h : omnibuslaw01_CrcBursts.f k a0 a1 a2 = some r) :
    Calls Try.prog 4 #[.string a0, .int .i64 a1, .int .i64 a2] w fun e w' => e = .returned (.bool r) ∧ Below w.heap.size w w' := by
  have HB := Aside0.mk (Below.refl w.heap.size w)
  have H : ((omnibuslaw01_awake.f k).bind fun t136 => (if 0 ≤ (mn (a0.size : Int) 300) then (if (mn (a0.size : Int) 300) ≤ (a0.size : Int) then ((crc_Close.f k (a0.extract 0 ((mn (a0.size : Int) 300) : Int).toNat)).bind fun t137 => ((crc_Open.f k t137).bind fun bt138 => (if bt138.1.toList = (a0.extract 0 ((mn (a0.size : Int) 300) : Int).toNat).toList then (if bt138.2 = true then (omnibuslaw01_CrcBursts.j0 k a1 a2 t136 t137 ((t137.size : Int) != (wrap64 (((a0.extract 0 ((mn (a0.size : Int) 300) : Int).toNat).size : Int) + 2)))) else (omnibuslaw01_CrcBursts.j0 k a1 a2 t136 t137 true)) else (omnibuslaw01_CrcBursts.j0 k a1 a2 t136 t137 true)))) else (none)) else (none))) = some r := h
  clear h
  replace H := Option.bind_eq_some_iff.mp H
  obtain ⟨t136, A40, H⟩ := H
  replace H : (if 0 ≤ (mn (a0.size : Int) 300) then (if (mn (a0.size : Int) 300) ≤ (a0.size : Int) then ((crc_Close.f k (a0.extract 0 ((mn (a0.size : Int) 300) : Int).toNat)).bind fun t137 => ((crc_Open.f k t137).bind fun bt138 => (if bt138.1.toList = (a0.extract 0 ((mn (a0.size : Int) 300) : Int).toNat).toList then (if bt138.2 = true then (omnibuslaw01_CrcBursts.j0 k a1 a2 t136 t137 ((t137.size : Int) != (wrap64 (((a0.extract 0 ((mn (a0.size : Int) 300) : Int).toNat).size : Int) + 2)))) else (omnibuslaw01_CrcBursts.j0 k a1 a2 t136 t137 true)) else (omnibuslaw01_CrcBursts.j0 k a1 a2 t136 t137 true)))) else (none)) else (none)) = some r := H
  have A4 := Aside0.mk A40
  clear A40
  obtain ⟨ji5, hji5⟩ : ∃ j_ : Int, (mn (a0.size : Int) 300) = j_ := ⟨_, rfl⟩
  replace H : (if 0 ≤ (ji5) then (if (ji5) ≤ (a0.size : Int) then ((crc_Close.f k (a0.extract 0 ((ji5) : Int).toNat)).bind fun t137 => ((crc_Open.f k t137).bind fun bt138 => (if bt138.1.toList = (a0.extract 0 ((ji5) : Int).toNat).toList then (if bt138.2 = true then (omnibuslaw01_CrcBursts.j0 k a1 a2 t136 t137 ((t137.size : Int) != (wrap64 (((a0.extract 0 ((ji5) : Int).toNat).size : Int) + 2)))) else (omnibuslaw01_CrcBursts.j0 k a1 a2 t136 t137 true)) else (omnibuslaw01_CrcBursts.j0 k a1 a2 t136 t137 true)))) else (none)) else (none)) = some r := by first | (rw [hji5] at H; exact H) | (simp only [hji5] at H ⊢; exact H)
  (try rw [hji5] at A4)
  (try (have hji5h : ji5 ≤ 300 := by (rw [← hji5]; unfold mn; (repeat' split) <;> omega)))
  (try (have hji5g : ji5 ≤ 64 := by omega))
  (try (have hji5l : 0 ≤ ji5 := by (rw [← hji5]; unfold mn; (repeat' split) <;> omega)))
  (try (have hji5m : 0 ≤ ji5 := by omega))
  have hji5_ : (if 300 < (a0.size : Int) then 300 else (a0.size : Int)) = ji5 := hji5
  by_cases c6 : 0 ≤ (ji5)
  · rw [if_pos c6] at H
    have c6b0 := eq_true c6
    have c6b1 : decide (0 ≤ (ji5)) = true := decide_eq_true c6
    clear c6
    by_cases c7 : (ji5) ≤ (a0.size : Int)
    · rw [if_pos c7] at H
      have c7b0 := eq_true c7
      have c7b1 : decide ((ji5) ≤ (a0.size : Int)) = true := decide_eq_true c7
      clear c7
      obtain ⟨js8, hjs8⟩ : ∃ j_ : ByteArray, (a0.extract 0 ((ji5) : Int).toNat) = j_ := ⟨_, rfl⟩
      replace H : ((crc_Close.f k js8).bind fun t137 => ((crc_Open.f k t137).bind fun bt138 => (if bt138.1.toList = js8.toList then (if bt138.2 = true then (omnibuslaw01_CrcBursts.j0 k a1 a2 t136 t137 ((t137.size : Int) != (wrap64 ((js8.size : Int) + 2)))) else (omnibuslaw01_CrcBursts.j0 k a1 a2 t136 t137 true)) else (omnibuslaw01_CrcBursts.j0 k a1 a2 t136 t137 true)))) = some r := by first | (rw [hjs8] at H; exact H) | (simp only [hjs8] at H ⊢; exact H) | exact H
      (try rw [hjs8] at A4)
      replace H := Option.bind_eq_some_iff.mp H
      obtain ⟨t137, A90, H⟩ := H
      replace H : ((crc_Open.f k t137).bind fun bt138 => (if bt138.1.toList = js8.toList then (if bt138.2 = true then (omnibuslaw01_CrcBursts.j0 k a1 a2 t136 t137 ((t137.size : Int) != (wrap64 ((js8.size : Int) + 2)))) else (omnibuslaw01_CrcBursts.j0 k a1 a2 t136 t137 true)) else (omnibuslaw01_CrcBursts.j0 k a1 a2 t136 t137 true))) = some r := H
      have A9 := Aside0.mk A90
      clear A90
      replace H := Option.bind_eq_some_iff.mp H
      obtain ⟨⟨t138, t139⟩, A100, H⟩ := H
      replace H : (if t138.toList = js8.toList then (if t139 = true then (omnibuslaw01_CrcBursts.j0 k a1 a2 t136 t137 ((t137.size : Int) != (wrap64 ((js8.size : Int) + 2)))) else (omnibuslaw01_CrcBursts.j0 k a1 a2 t136 t137 true)) else (omnibuslaw01_CrcBursts.j0 k a1 a2 t136 t137 true)) = some r := H
      have A10 := Aside0.mk A100
      clear A100
      have HC11 := Aside0.mk H
      clear H
      go_enter Try.func4, Try.ntmps4
      go_upto_region 5 with (first | ((with_reducible refine gate_callee (f := 10) rfl ?_); refine goesL_ (some 16) rfl rfl Try.func10 (by kernel_rfl) rfl #[] rfl (by (try simp only [List.map_toArray, List.map_cons, List.map_nil]); first | done | rfl | (simp only [List.length_drop, List.length_take]; rfl)) ?_; (with_reducible refine (omnibuslaw01_awake.calls k  t136 _ A4.out).mono ?_); rintro e w12 ⟨rfl, hb⟩; refine ⟨_, rfl, ?_⟩; have n0_ := Aside0.mk (below_step (by repeat (first | (with_reducible first | exact HB.out | apply below_alloc | apply pw_below_drewN | apply below_drew1) | exact HB.out)) hb); clear HB; have HB := n0_; clear n0_; (try clear hb); (try clear hb2); (try clear hk); (try clear hi)) | ((with_reducible refine gate_callee (f := 15) rfl ?_); refine goesL_ (some 23) rfl rfl Try.func15 (by kernel_rfl) rfl #[.string js8] rfl (by (try simp only [List.map_toArray, List.map_cons, List.map_nil]); first | done | rfl | (simp only [List.length_drop, List.length_take]; rfl)) ?_; (with_reducible refine (crc_Close.calls k js8 t137 _ A9.out).mono ?_); rintro e w13 ⟨rfl, hb⟩; refine ⟨_, rfl, ?_⟩; have n0_ := Aside0.mk (below_step (by repeat (first | (with_reducible first | exact HB.out | apply below_alloc | apply pw_below_drewN | apply below_drew1) | exact HB.out)) hb); clear HB; have HB := n0_; clear n0_; (try clear hb); (try clear hb2); (try clear hk); (try clear hi)) | ((with_reducible refine gate_callee (f := 18) rfl ?_); refine goesL_ (some 26) rfl rfl Try.func18 (by kernel_rfl) rfl #[.string t137] rfl (by (try simp only [List.map_toArray, List.map_cons, List.map_nil]); first | done | rfl | (simp only [List.length_drop, List.length_take]; rfl)) ?_; (with_reducible refine (crc_Open.calls k t137 t138 t139 _ A10.out).mono ?_); rintro e w' ⟨rfl, ⟨nd, rfl⟩⟩; refine ⟨_, rfl, ?_⟩))
      (try simp only [Act.put, List.setIfInBounds_toArray, List.set_cons_zero, List.set_cons_succ])
      go_cut [43] (fun v43 wc => ∃ (kq : Nat) (x43_10 : Bool), v43 = .bool x43_10 ∧ Aside0 (omnibuslaw01_CrcBursts.j0 kq a1 a2 t136 t137 x43_10 = some r) ∧ Aside0 (kq ≤ k) ∧ Aside0 (Below w.heap.size w wc))
      case first =>
        have H := HC11.out
        clear HC11
        by_cases c14 : t138.toList = js8.toList
        · rw [if_pos c14] at H
          have c14b0 : (t138.toList == js8.toList) = true := beq_iff_eq.mpr c14
          have c14b1 : (t138.toList != js8.toList) = false := bne_eq_false_iff_eq.mpr c14
          clear c14
          (first | rw [c14b0] | (simp only [i64_w, i32_w]; rw [c14b0]) | skip)
          by_cases c15 : t139 = true
          · subst c15
            have H1 : (omnibuslaw01_CrcBursts.j0 k a1 a2 t136 t137 ((t137.size : Int) != (wrap64 ((js8.size : Int) + 2)))) = some r := by rw [if_pos rfl] at H; exact H
            clear H
            have H := H1
            clear H1
            have H' := Aside0.mk H
            clear H
            go_wp2
            go_meet
            case rel => exact ⟨_, (((t137.size : Int) != (wrap64 ((js8.size : Int) + 2)))), (by first | rfl | (simp; done) | (simp only [← hjs8] <;> (first | rfl | simp)) | (simp [*]; done)), H', ⟨by first | omega | exact Nat.le_refl _⟩, ⟨by repeat (first | (with_reducible first | exact HB.out | apply below_alloc | apply pw_below_drewN | apply below_drew1) | exact HB.out)⟩⟩
          · replace c15 := Bool.eq_false_iff.mpr c15
            subst c15
            have H1 : (omnibuslaw01_CrcBursts.j0 k a1 a2 t136 t137 true) = some r := by rw [if_neg (show ¬ (false = true) by decide)] at H; exact H
            clear H
            have H := H1
            clear H1
            have H' := Aside0.mk H
            clear H
            go_wp2
            go_meet
            case rel => exact ⟨_, (true), (by first | rfl | (simp; done) | (simp [*]; done)), H', ⟨by first | omega | exact Nat.le_refl _⟩, ⟨by repeat (first | (with_reducible first | exact HB.out | apply below_alloc | apply pw_below_drewN | apply below_drew1) | exact HB.out)⟩⟩
        · rw [if_neg c14] at H
          have c14b0 : (t138.toList == js8.toList) = false := beq_eq_false_iff_ne.mpr c14
          have c14b1 : (t138.toList != js8.toList) = true := bne_iff_ne.mpr c14
          (first | rw [c14b0] | (simp only [i64_w, i32_w]; rw [c14b0]) | skip)
          have H' := Aside0.mk H
          clear H
          go_wp2
          go_meet
          case rel => exact ⟨_, (true), (by first | rfl | (simp; done) | (simp [*]; done)), H', ⟨by first | omega | exact Nat.le_refl _⟩, ⟨by repeat (first | (with_reducible first | exact HB.out | apply below_alloc | apply pw_below_drewN | apply below_drew1) | exact HB.out)⟩⟩
      case rest =>
        clear HC11
        try clear c1
        try clear p2
        try clear c4
        try clear c6
        try clear c6b0
        try clear c6b1
        try clear p6
        try clear c7
        try clear c7b0
        try clear c7b1
        try clear c10
        try clear c14
        try clear c14b0
        try clear c14b1
        try clear c15
        obtain ⟨kq, x43_10, rfl, HA, HJ10, HB⟩ := hcut
        cases kq with
        | zero => exact absurd HA.out (by simp [omnibuslaw01_CrcBursts.j0])
        | succ kj10 =>
          have H := HA.out
          clear HA
          simp only [omnibuslaw01_CrcBursts.j0] at H
          by_cases c16 : x43_10 = true
          · subst c16
            have H1 : (some false) = some r := by rw [if_pos rfl] at H; exact H
            clear H
            have H := H1
            clear H1
            obtain rfl := Option.some.inj H
            go_wp2
            go_ret
            exact ⟨by first | rfl | (simp [errW_none, errW_some] <;> rfl) | (simp only [← hji5, ← hjs8]; first | rfl | (simp [errW_none, errW_some] <;> rfl)) | (simp [*, errW_none, errW_some] <;> rfl), by repeat (first | (with_reducible first | exact HB.out | apply below_alloc | apply pw_below_drewN | apply below_drew1) | exact HB.out)⟩
          · replace c16 := Bool.eq_false_iff.mpr c16
            subst c16
            have H1 : ((omnibuslaw01_pick.f a1 (wrap64 (8 * (t137.size : Int)))).bind fun t140 => ((omnibuslaw01_pick.f a2 65536).bind fun t141 => ((crc_Burst.f t137 t140 t141).bind fun t142 => ((crc_Open.f kj10 t142).bind fun bt143 => (if t136 = true then (if (bt143.2 == (t142.toList == t137.toList)) = true then ((omnibuslaw01_pick.f a2 65536).bind fun t145 => ((crc_Burst.f t142 t140 t145).bind fun t146 => (if t146.toList = t137.toList then (some ((t142.size : Int) == (t137.size : Int))) else (some false)))) else (some false)) else (some false)))))) = some r := by rw [if_neg (show ¬ (false = true) by decide)] at H; exact H
            clear H
            have H := H1
            clear H1
            replace H := Option.bind_eq_some_iff.mp H
            obtain ⟨t140, A170, H⟩ := H
            replace H : ((omnibuslaw01_pick.f a2 65536).bind fun t141 => ((crc_Burst.f t137 t140 t141).bind fun t142 => ((crc_Open.f kj10 t142).bind fun bt143 => (if t136 = true then (if (bt143.2 == (t142.toList == t137.toList)) = true then ((omnibuslaw01_pick.f a2 65536).bind fun t145 => ((crc_Burst.f t142 t140 t145).bind fun t146 => (if t146.toList = t137.toList then (some ((t142.size : Int) == (t137.size : Int))) else (some false)))) else (some false)) else (some false))))) = some r := H
            have A17 := Aside0.mk A170
            clear A170
            replace H := Option.bind_eq_some_iff.mp H
            obtain ⟨t141, A180, H⟩ := H
            replace H : ((crc_Burst.f t137 t140 t141).bind fun t142 => ((crc_Open.f kj10 t142).bind fun bt143 => (if t136 = true then (if (bt143.2 == (t142.toList == t137.toList)) = true then ((omnibuslaw01_pick.f a2 65536).bind fun t145 => ((crc_Burst.f t142 t140 t145).bind fun t146 => (if t146.toList = t137.toList then (some ((t142.size : Int) == (t137.size : Int))) else (some false)))) else (some false)) else (some false)))) = some r := H
            have A18 := Aside0.mk A180
            clear A180
            replace H := Option.bind_eq_some_iff.mp H
            obtain ⟨t142, A190, H⟩ := H
            replace H : ((crc_Open.f kj10 t142).bind fun bt143 => (if t136 = true then (if (bt143.2 == (t142.toList == t137.toList)) = true then ((omnibuslaw01_pick.f a2 65536).bind fun t145 => ((crc_Burst.f t142 t140 t145).bind fun t146 => (if t146.toList = t137.toList then (some ((t142.size : Int) == (t137.size : Int))) else (some false)))) else (some false)) else (some false))) = some r := H
            have A19 := Aside0.mk A190
            clear A190
            replace H := Option.bind_eq_some_iff.mp H
            obtain ⟨⟨t143, t144⟩, A200, H⟩ := H
            replace H : (if t136 = true then (if (t144 == (t142.toList == t137.toList)) = true then ((omnibuslaw01_pick.f a2 65536).bind fun t145 => ((crc_Burst.f t142 t140 t145).bind fun t146 => (if t146.toList = t137.toList then (some ((t142.size : Int) == (t137.size : Int))) else (some false)))) else (some false)) else (some false)) = some r := H
            have A20 := Aside0.mk A200
            clear A200
            by_cases c21 : t136 = true
            · subst c21
              have H1 : (if (t144 == (t142.toList == t137.toList)) = true then ((omnibuslaw01_pick.f a2 65536).bind fun t145 => ((crc_Burst.f t142 t140 t145).bind fun t146 => (if t146.toList = t137.toList then (some ((t142.size : Int) == (t137.size : Int))) else (some false)))) else (some false)) = some r := by rw [if_pos rfl] at H; exact H
              clear H
              have H := H1
              clear H1
              by_cases c22 : (t144 == (t142.toList == t137.toList)) = true
              · rw [if_pos c22] at H
                have c22b0 : (t144 == (t142.toList == t137.toList)) = true := c22
                (try (have c22b1 : decide (t144 = (t142.toList == t137.toList)) = true := by simpa using c22))
                (try (have c22b2 : (t144 == (t142.toList == t137.toList)) = true := by simpa using c22))
                clear c22
                replace H := Option.bind_eq_some_iff.mp H
                obtain ⟨t145, A230, H⟩ := H
                replace H : ((crc_Burst.f t142 t140 t145).bind fun t146 => (if t146.toList = t137.toList then (some ((t142.size : Int) == (t137.size : Int))) else (some false))) = some r := H
                have A23 := Aside0.mk A230
                have HQA23 := Aside0.mk (Option.some.inj (A23.out.symm.trans A18.out))
                clear A230
                replace H := Option.bind_eq_some_iff.mp H
                obtain ⟨t146, A240, H⟩ := H
                replace H : (if t146.toList = t137.toList then (some ((t142.size : Int) == (t137.size : Int))) else (some false)) = some r := H
                have A24 := Aside0.mk A240
                clear A240
                by_cases c25 : t146.toList = t137.toList
                · rw [if_pos c25] at H
                  have c25b0 : (t146.toList == t137.toList) = true := beq_iff_eq.mpr c25
                  have c25b1 : (t146.toList != t137.toList) = false := bne_eq_false_iff_eq.mpr c25
                  clear c25
                  obtain rfl := Option.some.inj H
                  go_wp2_with (first | ((with_reducible refine gate_callee (f := 20) rfl ?_); refine goesL_ (some 48) rfl rfl Try.func20 (by kernel_rfl) rfl #[.int .i64 a1, .int .i64 (wrap64 (8 * (t137.size : Int)))] rfl (by (try simp only [List.map_toArray, List.map_cons, List.map_nil]); first | done | rfl | (simp only [List.length_drop, List.length_take]; rfl)) ?_; (with_reducible refine (omnibuslaw01_pick.calls a1 (wrap64 (8 * (t137.size : Int))) t140 _ A17.out).mono ?_); rintro e w' ⟨rfl, ⟨nd, rfl⟩⟩; refine ⟨_, rfl, ?_⟩) | ((with_reducible refine gate_callee (f := 20) rfl ?_); refine goesL_ (some 52) rfl rfl Try.func20 (by kernel_rfl) rfl #[.int .i64 a2, .int .i64 65536] rfl (by (try simp only [List.map_toArray, List.map_cons, List.map_nil]); first | done | rfl | (simp only [List.length_drop, List.length_take]; rfl)) ?_; (with_reducible refine (omnibuslaw01_pick.calls a2 65536 t141 _ A18.out).mono ?_); rintro e w' ⟨rfl, ⟨nd, rfl⟩⟩; refine ⟨_, rfl, ?_⟩) | ((with_reducible refine gate_callee (f := 21) rfl ?_); refine goesL_ (some 53) rfl rfl Try.func21 (by kernel_rfl) rfl #[.string t137, .int .i64 t140, .int .i64 t141] rfl (by (try simp only [List.map_toArray, List.map_cons, List.map_nil]); first | done | rfl | (simp only [List.length_drop, List.length_take]; rfl)) ?_; (with_reducible refine (crc_Burst.calls t137 t140 t141 t142 _ A19.out).mono ?_); rintro e w26 ⟨rfl, hb⟩; refine ⟨_, rfl, ?_⟩; have n0_ := Aside0.mk (below_step (by repeat (first | (with_reducible first | exact HB.out | apply below_alloc | apply pw_below_drewN | apply below_drew1) | exact HB.out)) hb); clear HB; have HB := n0_; clear n0_; (try clear hb); (try clear hb2); (try clear hk); (try clear hi)) | ((with_reducible refine gate_callee (f := 18) rfl ?_); refine goesL_ (some 56) rfl rfl Try.func18 (by kernel_rfl) rfl #[.string t142] rfl (by (try simp only [List.map_toArray, List.map_cons, List.map_nil]); first | done | rfl | (simp only [List.length_drop, List.length_take]; rfl)) ?_; (with_reducible refine (crc_Open.calls kj10 t142 t143 t144 _ A20.out).mono ?_); rintro e w' ⟨rfl, ⟨nd, rfl⟩⟩; refine ⟨_, rfl, ?_⟩) | (go_at_call 20; (with_reducible refine (omnibuslaw01_pick.calls a2 65536 t145 _ A23.out).mono ?_); rintro e w' ⟨rfl, ⟨nd, rfl⟩⟩) | (go_at_call 21; (with_reducible refine (crc_Burst.calls t142 t140 t145 t146 _ A24.out).mono ?_); rintro e w27 ⟨rfl, hb⟩; have n0_ := Aside0.mk (below_step (by repeat (first | (with_reducible first | exact HB.out | apply below_alloc | apply pw_below_drewN | apply below_drew1) | exact HB.out)) hb); clear HB; have HB := n0_; clear n0_; (try clear hb); (try clear hb2); (try clear hk); (try clear hi)))
                  go_ret
                  exact ⟨by first | rfl | (simp only [HQA23.out]; first | rfl | (simp; done)) | (simp [errW_none, errW_some] <;> rfl) | (simp only [← hji5, ← hjs8]; first | rfl | (simp [errW_none, errW_some] <;> rfl)) | (simp [*, errW_none, errW_some] <;> rfl), by repeat (first | (with_reducible first | exact HB.out | apply below_alloc | apply pw_below_drewN | apply below_drew1) | exact HB.out)⟩
                · rw [if_neg c25] at H
                  have c25b0 : (t146.toList == t137.toList) = false := beq_eq_false_iff_ne.mpr c25
                  have c25b1 : (t146.toList != t137.toList) = true := bne_iff_ne.mpr c25
                  obtain rfl := Option.some.inj H
                  go_wp2_with (first | ((with_reducible refine gate_callee (f := 20) rfl ?_); refine goesL_ (some 48) rfl rfl Try.func20 (by kernel_rfl) rfl #[.int .i64 a1, .int .i64 (wrap64 (8 * (t137.size : Int)))] rfl (by (try simp only [List.map_toArray, List.map_cons, List.map_nil]); first | done | rfl | (simp only [List.length_drop, List.length_take]; rfl)) ?_; (with_reducible refine (omnibuslaw01_pick.calls a1 (wrap64 (8 * (t137.size : Int))) t140 _ A17.out).mono ?_); rintro e w' ⟨rfl, ⟨nd, rfl⟩⟩; refine ⟨_, rfl, ?_⟩) | ((with_reducible refine gate_callee (f := 20) rfl ?_); refine goesL_ (some 52) rfl rfl Try.func20 (by kernel_rfl) rfl #[.int .i64 a2, .int .i64 65536] rfl (by (try simp only [List.map_toArray, List.map_cons, List.map_nil]); first | done | rfl | (simp only [List.length_drop, List.length_take]; rfl)) ?_; (with_reducible refine (omnibuslaw01_pick.calls a2 65536 t141 _ A18.out).mono ?_); rintro e w' ⟨rfl, ⟨nd, rfl⟩⟩; refine ⟨_, rfl, ?_⟩) | ((with_reducible refine gate_callee (f := 21) rfl ?_); refine goesL_ (some 53) rfl rfl Try.func21 (by kernel_rfl) rfl #[.string t137, .int .i64 t140, .int .i64 t141] rfl (by (try simp only [List.map_toArray, List.map_cons, List.map_nil]); first | done | rfl | (simp only [List.length_drop, List.length_take]; rfl)) ?_; (with_reducible refine (crc_Burst.calls t137 t140 t141 t142 _ A19.out).mono ?_); rintro e w28 ⟨rfl, hb⟩; refine ⟨_, rfl, ?_⟩; have n0_ := Aside0.mk (below_step (by repeat (first | (with_reducible first | exact HB.out | apply below_alloc | apply pw_below_drewN | apply below_drew1) | exact HB.out)) hb); clear HB; have HB := n0_; clear n0_; (try clear hb); (try clear hb2); (try clear hk); (try clear hi)) | ((with_reducible refine gate_callee (f := 18) rfl ?_); refine goesL_ (some 56) rfl rfl Try.func18 (by kernel_rfl) rfl #[.string t142] rfl (by (try simp only [List.map_toArray, List.map_cons, List.map_nil]); first | done | rfl | (simp only [List.length_drop, List.length_take]; rfl)) ?_; (with_reducible refine (crc_Open.calls kj10 t142 t143 t144 _ A20.out).mono ?_); rintro e w' ⟨rfl, ⟨nd, rfl⟩⟩; refine ⟨_, rfl, ?_⟩) | (go_at_call 20; (with_reducible refine (omnibuslaw01_pick.calls a2 65536 t145 _ A23.out).mono ?_); rintro e w' ⟨rfl, ⟨nd, rfl⟩⟩) | (go_at_call 21; (with_reducible refine (crc_Burst.calls t142 t140 t145 t146 _ A24.out).mono ?_); rintro e w29 ⟨rfl, hb⟩; have n0_ := Aside0.mk (below_step (by repeat (first | (with_reducible first | exact HB.out | apply below_alloc | apply pw_below_drewN | apply below_drew1) | exact HB.out)) hb); clear HB; have HB := n0_; clear n0_; (try clear hb); (try clear hb2); (try clear hk); (try clear hi)))
                  go_ret
                  exact ⟨by first | rfl | (simp only [HQA23.out]; first | rfl | (simp; done)) | (simp [errW_none, errW_some] <;> rfl) | (simp only [← hji5, ← hjs8]; first | rfl | (simp [errW_none, errW_some] <;> rfl)) | (simp [*, errW_none, errW_some] <;> rfl), by repeat (first | (with_reducible first | exact HB.out | apply below_alloc | apply pw_below_drewN | apply below_drew1) | exact HB.out)⟩
              · rw [if_neg c22] at H
                have c22b0 : (t144 == (t142.toList == t137.toList)) = false := by simpa using c22
                (try (have c22b1 : decide (t144 = (t142.toList == t137.toList)) = false := by simpa using c22))
                (try (have c22b2 : (t144 == (t142.toList == t137.toList)) = false := by simpa using c22))
                (try (have c22b3 : ¬ (t144 = (t142.toList == t137.toList)) := by simpa using c22))
                clear c22
                obtain rfl := Option.some.inj H
                go_wp2_with (first | ((with_reducible refine gate_callee (f := 20) rfl ?_); refine goesL_ (some 48) rfl rfl Try.func20 (by kernel_rfl) rfl #[.int .i64 a1, .int .i64 (wrap64 (8 * (t137.size : Int)))] rfl (by (try simp only [List.map_toArray, List.map_cons, List.map_nil]); first | done | rfl | (simp only [List.length_drop, List.length_take]; rfl)) ?_; (with_reducible refine (omnibuslaw01_pick.calls a1 (wrap64 (8 * (t137.size : Int))) t140 _ A17.out).mono ?_); rintro e w' ⟨rfl, ⟨nd, rfl⟩⟩; refine ⟨_, rfl, ?_⟩) | ((with_reducible refine gate_callee (f := 20) rfl ?_); refine goesL_ (some 52) rfl rfl Try.func20 (by kernel_rfl) rfl #[.int .i64 a2, .int .i64 65536] rfl (by (try simp only [List.map_toArray, List.map_cons, List.map_nil]); first | done | rfl | (simp only [List.length_drop, List.length_take]; rfl)) ?_; (with_reducible refine (omnibuslaw01_pick.calls a2 65536 t141 _ A18.out).mono ?_); rintro e w' ⟨rfl, ⟨nd, rfl⟩⟩; refine ⟨_, rfl, ?_⟩) | ((with_reducible refine gate_callee (f := 21) rfl ?_); refine goesL_ (some 53) rfl rfl Try.func21 (by kernel_rfl) rfl #[.string t137, .int .i64 t140, .int .i64 t141] rfl (by (try simp only [List.map_toArray, List.map_cons, List.map_nil]); first | done | rfl | (simp only [List.length_drop, List.length_take]; rfl)) ?_; (with_reducible refine (crc_Burst.calls t137 t140 t141 t142 _ A19.out).mono ?_); rintro e w30 ⟨rfl, hb⟩; refine ⟨_, rfl, ?_⟩; have n0_ := Aside0.mk (below_step (by repeat (first | (with_reducible first | exact HB.out | apply below_alloc | apply pw_below_drewN | apply below_drew1) | exact HB.out)) hb); clear HB; have HB := n0_; clear n0_; (try clear hb); (try clear hb2); (try clear hk); (try clear hi)) | ((with_reducible refine gate_callee (f := 18) rfl ?_); refine goesL_ (some 56) rfl rfl Try.func18 (by kernel_rfl) rfl #[.string t142] rfl (by (try simp only [List.map_toArray, List.map_cons, List.map_nil]); first | done | rfl | (simp only [List.length_drop, List.length_take]; rfl)) ?_; (with_reducible refine (crc_Open.calls kj10 t142 t143 t144 _ A20.out).mono ?_); rintro e w' ⟨rfl, ⟨nd, rfl⟩⟩; refine ⟨_, rfl, ?_⟩))
                go_ret
                exact ⟨by first | rfl | (simp [errW_none, errW_some] <;> rfl) | (simp only [← hji5, ← hjs8]; first | rfl | (simp [errW_none, errW_some] <;> rfl)) | (simp [*, errW_none, errW_some] <;> rfl), by repeat (first | (with_reducible first | exact HB.out | apply below_alloc | apply pw_below_drewN | apply below_drew1) | exact HB.out)⟩
            · replace c21 := Bool.eq_false_iff.mpr c21
              subst c21
              have H1 : (some false) = some r := by rw [if_neg (show ¬ (false = true) by decide)] at H; exact H
              clear H
              have H := H1
              clear H1
              obtain rfl := Option.some.inj H
              go_wp2_with (first | ((with_reducible refine gate_callee (f := 20) rfl ?_); refine goesL_ (some 48) rfl rfl Try.func20 (by kernel_rfl) rfl #[.int .i64 a1, .int .i64 (wrap64 (8 * (t137.size : Int)))] rfl (by (try simp only [List.map_toArray, List.map_cons, List.map_nil]); first | done | rfl | (simp only [List.length_drop, List.length_take]; rfl)) ?_; (with_reducible refine (omnibuslaw01_pick.calls a1 (wrap64 (8 * (t137.size : Int))) t140 _ A17.out).mono ?_); rintro e w' ⟨rfl, ⟨nd, rfl⟩⟩; refine ⟨_, rfl, ?_⟩) | ((with_reducible refine gate_callee (f := 20) rfl ?_); refine goesL_ (some 52) rfl rfl Try.func20 (by kernel_rfl) rfl #[.int .i64 a2, .int .i64 65536] rfl (by (try simp only [List.map_toArray, List.map_cons, List.map_nil]); first | done | rfl | (simp only [List.length_drop, List.length_take]; rfl)) ?_; (with_reducible refine (omnibuslaw01_pick.calls a2 65536 t141 _ A18.out).mono ?_); rintro e w' ⟨rfl, ⟨nd, rfl⟩⟩; refine ⟨_, rfl, ?_⟩) | ((with_reducible refine gate_callee (f := 21) rfl ?_); refine goesL_ (some 53) rfl rfl Try.func21 (by kernel_rfl) rfl #[.string t137, .int .i64 t140, .int .i64 t141] rfl (by (try simp only [List.map_toArray, List.map_cons, List.map_nil]); first | done | rfl | (simp only [List.length_drop, List.length_take]; rfl)) ?_; (with_reducible refine (crc_Burst.calls t137 t140 t141 t142 _ A19.out).mono ?_); rintro e w31 ⟨rfl, hb⟩; refine ⟨_, rfl, ?_⟩; have n0_ := Aside0.mk (below_step (by repeat (first | (with_reducible first | exact HB.out | apply below_alloc | apply pw_below_drewN | apply below_drew1) | exact HB.out)) hb); clear HB; have HB := n0_; clear n0_; (try clear hb); (try clear hb2); (try clear hk); (try clear hi)) | ((with_reducible refine gate_callee (f := 18) rfl ?_); refine goesL_ (some 56) rfl rfl Try.func18 (by kernel_rfl) rfl #[.string t142] rfl (by (try simp only [List.map_toArray, List.map_cons, List.map_nil]); first | done | rfl | (simp only [List.length_drop, List.length_take]; rfl)) ?_; (with_reducible refine (crc_Open.calls kj10 t142 t143 t144 _ A20.out).mono ?_); rintro e w' ⟨rfl, ⟨nd, rfl⟩⟩; refine ⟨_, rfl, ?_⟩))
              go_ret
              exact ⟨by first | rfl | (simp [errW_none, errW_some] <;> rfl) | (simp only [← hji5, ← hjs8]; first | rfl | (simp [errW_none, errW_some] <;> rfl)) | (simp [*, errW_none, errW_some] <;> rfl), by repeat (first | (with_reducible first | exact HB.out | apply below_alloc | apply pw_below_drewN | apply below_drew1) | exact HB.out)⟩
    · rw [if_neg c7] at H
      exact absurd H (by simp)
  · rw [if_neg c6] at H
    exact absurd H (by simp)

/-- THE ONE PURE STATEMENT of omnibuslaw01_CrcBursts: yours. -/
def omnibuslaw01_CrcBursts.Pure : Prop := ∀ (a0 : ByteArray) (a1 : Int) (a2 : Int), a0.size ≤ 140737488351232 → (Lit.int .i64 a1).wf = true → (Lit.int .i64 a2).wf = true → ∃ k, omnibuslaw01_CrcBursts.f k a0 a1 a2 = some true
theorem omnibuslaw01_CrcBursts.walk (P : omnibuslaw01_CrcBursts.Pure) (a0 : ByteArray) (a1 : Int) (a2 : Int) (w : World) (w0 : a0.size ≤ 140737488351232) (w1 : (Lit.int .i64 a1).wf = true) (w2 : (Lit.int .i64 a2).wf = true) :
    Calls Try.prog 4 #[.string a0, .int .i64 a1, .int .i64 a2] w fun e w' => e = .returned (.bool true) ∧ Below w.heap.size w w' := by
  obtain ⟨k, h⟩ := P a0 a1 a2 w0 w1 w2
  refine (omnibuslaw01_CrcBursts.calls k a0 a1 a2 true w h).mono ?_
  rintro e w' ⟨rfl, hd⟩
  exact ⟨rfl, hd⟩

end Go.Proofs.Ythnnnhbfhimkpaa.Q
