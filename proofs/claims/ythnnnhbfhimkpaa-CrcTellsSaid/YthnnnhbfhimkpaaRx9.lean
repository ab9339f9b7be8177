/- Go functions as Lean functions, each with a proof that the machine's call comes to what its Lean function tells; no condition beside those that each theorem states. Written by this project's program drive.py. -/
import Derived.Test.YthnnnhbfhimkpaaRx0
import Derived.Test.YthnnnhbfhimkpaaRx1
import Derived.Test.YthnnnhbfhimkpaaRx2
import Derived.Test.YthnnnhbfhimkpaaRx3
import Derived.Test.YthnnnhbfhimkpaaRx4
import Derived.Test.YthnnnhbfhimkpaaRx5
import Derived.Test.YthnnnhbfhimkpaaRx6
import Derived.Test.YthnnnhbfhimkpaaRx7
import Derived.Test.YthnnnhbfhimkpaaRx8
namespace Go.Proofs.Ythnnnhbfhimkpaa.R
open Go.RowKit Go.Proofs.YthnnnhbfhimkpaaW.PrintWords Go.Proofs.YthnnnhbfhimkpaaW.PrintLast Go.Proofs.YthnnnhbfhimkpaaW.PrintMore
attribute [local go_sem] max2_int min2_int max_two min_two max_three min_three max_four min_four   -- for this text's walks alone
set_option linter.unusedVariables false
set_option linter.unusedSimpArgs false

/-! ### omnibuslaw01_CrcTells: function 3 -/
mutual
def omnibuslaw01_CrcTells.j0 : Nat → Int → Int → Bool → ByteArray → Bool → Option (Bool)
  | 0, _, _, _, _, _ => none
  | k + 1, x2, x3, x9, x10, x44 => if x44 = true then (some false) else ((omnibusref01_Close.f k x10).bind fun t134 => ((omnibusref01_Close.f k x10).bind fun t135 => ((omnibusref01_Burst.f t135 x2 x3).bind fun t136 => ((some (([x10, t134, t136] : List ByteArray) : List ByteArray)).bind fun y137 => (omnibuslaw01_CrcTells.l0 k x2 x3 x9 y137 (y137.length : Int) 0)))))
def omnibuslaw01_CrcTells.l0 : Nat → Int → Int → Bool → List ByteArray → Int → Int → Option (Bool)
  | 0, _, _, _, _, _, _ => none
  | k + 1, x2, x3, x9, x53, x54, x55 => if x55 < x54 then (if 0 ≤ x55 then (if x55 < (x53.length : Int) then ((crc_Open.f k (rdOf ByteArray.empty x53 x55)).bind fun bt141 => ((omnibusref01_Open.f k (rdOf ByteArray.empty x53 x55)).bind fun bt143 => ((omnibuslaw01_pick.f x2 (wrap64 ((wrap64 (8 * ((rdOf ByteArray.empty x53 x55).size : Int))) + 1))).bind fun t145 => (if bt141.1.toList = bt143.1.toList then (if (bt141.2 != bt143.2) = true then (some false) else ((crc_Burst.f (rdOf ByteArray.empty x53 x55) x2 x3).bind fun t146 => ((omnibusref01_Burst.f (rdOf ByteArray.empty x53 x55) x2 x3).bind fun t147 => (if t146.toList = t147.toList then ((crc_Burst.f (rdOf ByteArray.empty x53 x55) t145 x3).bind fun t148 => ((omnibusref01_Burst.f (rdOf ByteArray.empty x53 x55) t145 x3).bind fun t149 => (if t148.toList = t149.toList then (omnibuslaw01_CrcTells.l0 k x2 x3 x9 x53 x54 (wrap64 (x55 + 1))) else (some false)))) else (some false))))) else (some false))))) else (none)) else (none)) else (some x9)
end
def omnibuslaw01_CrcTells.f (k : Nat) (a0 : Int) (a1 : ByteArray) (a2 : Int) (a3 : Int) : Option (Bool) := (omnibuslaw01_awake.f k).bind fun t127 => (if 0 ≤ (mn (a1.size : Int) 300) then (if (mn (a1.size : Int) 300) ≤ (a1.size : Int) then ((crc_Add.f k a0 (a1.extract 0 ((mn (a1.size : Int) 300) : Int).toNat)).bind fun t128 => ((omnibusref01_Add.f k a0 (a1.extract 0 ((mn (a1.size : Int) 300) : Int).toNat)).bind fun t129 => (if t128 = t129 then ((crc_Sum.f k (a1.extract 0 ((mn (a1.size : Int) 300) : Int).toNat)).bind fun t130 => ((omnibusref01_Sum.f k (a1.extract 0 ((mn (a1.size : Int) 300) : Int).toNat)).bind fun t131 => (if t130 = t131 then ((crc_Close.f k (a1.extract 0 ((mn (a1.size : Int) 300) : Int).toNat)).bind fun t132 => ((omnibusref01_Close.f k (a1.extract 0 ((mn (a1.size : Int) 300) : Int).toNat)).bind fun t133 => (omnibuslaw01_CrcTells.j0 k a2 a3 t127 (a1.extract 0 ((mn (a1.size : Int) 300) : Int).toNat) (t132.toList != t133.toList)))) else (omnibuslaw01_CrcTells.j0 k a2 a3 t127 (a1.extract 0 ((mn (a1.size : Int) 300) : Int).toNat) true)))) else (omnibuslaw01_CrcTells.j0 k a2 a3 t127 (a1.extract 0 ((mn (a1.size : Int) 300) : Int).toNat) true)))) else (none)) else (none))
theorem omnibuslaw01_CrcTells.mono_l : ∀ k, (∀ y0 y1 y2 y3 y4, LeO (omnibuslaw01_CrcTells.j0 k y0 y1 y2 y3 y4) (omnibuslaw01_CrcTells.j0 (k + 1) y0 y1 y2 y3 y4)) ∧ (∀ y0 y1 y2 y3 y4 y5, LeO (omnibuslaw01_CrcTells.l0 k y0 y1 y2 y3 y4 y5) (omnibuslaw01_CrcTells.l0 (k + 1) y0 y1 y2 y3 y4 y5))
  | 0 => ⟨fun _ _ _ _ _ r h => by simp [omnibuslaw01_CrcTells.j0] at h, fun _ _ _ _ _ _ r h => by simp [omnibuslaw01_CrcTells.l0] at h⟩
  | k + 1 => by
    obtain ⟨ih0, ih1⟩ := omnibuslaw01_CrcTells.mono_l k
    refine ⟨?_, ?_⟩
    · intro y0 y1 y2 y3 y4
      unfold omnibuslaw01_CrcTells.j0
      repeat' first
      | (with_reducible exact ih0 _ _ _ _ _)
      | (with_reducible exact ih1 _ _ _ _ _ _)
      | (with_reducible exact crc_Add.mono _ _ _)
      | (with_reducible exact crc_Close.mono _ _)
      | (with_reducible exact crc_Open.mono _ _)
      | (with_reducible exact crc_Sum.mono _ _)
      | (with_reducible exact omnibuslaw01_awake.mono _)
      | (with_reducible exact omnibusref01_Add.mono _ _ _)
      | (with_reducible exact omnibusref01_Close.mono _ _)
      | (with_reducible exact omnibusref01_Open.mono _ _)
      | (with_reducible exact omnibusref01_Sum.mono _ _)
      | (with_reducible exact LeO.refl _)
      | (with_reducible exact LeO.none _)
      | (with_reducible refine LeO.ite ?_ ?_)
      | (with_reducible refine LeO.bind ?_ (fun _ => ?_))
      | exact ih0 _ _ _ _ _
      | exact ih1 _ _ _ _ _ _
      | exact crc_Add.mono _ _ _
      | exact crc_Close.mono _ _
      | exact crc_Open.mono _ _
      | exact crc_Sum.mono _ _
      | exact omnibuslaw01_awake.mono _
      | exact omnibusref01_Add.mono _ _ _
      | exact omnibusref01_Close.mono _ _
      | exact omnibusref01_Open.mono _ _
      | exact omnibusref01_Sum.mono _ _
      | exact LeO.none _
      | refine LeO.ite ?_ ?_
      | refine LeO.bind ?_ (fun _ => ?_)
    · intro y0 y1 y2 y3 y4 y5
      unfold omnibuslaw01_CrcTells.l0
      repeat' first
      | (with_reducible exact ih0 _ _ _ _ _)
      | (with_reducible exact ih1 _ _ _ _ _ _)
      | (with_reducible exact crc_Add.mono _ _ _)
      | (with_reducible exact crc_Close.mono _ _)
      | (with_reducible exact crc_Open.mono _ _)
      | (with_reducible exact crc_Sum.mono _ _)
      | (with_reducible exact omnibuslaw01_awake.mono _)
      | (with_reducible exact omnibusref01_Add.mono _ _ _)
      | (with_reducible exact omnibusref01_Close.mono _ _)
      | (with_reducible exact omnibusref01_Open.mono _ _)
      | (with_reducible exact omnibusref01_Sum.mono _ _)
      | (with_reducible exact LeO.refl _)
      | (with_reducible exact LeO.none _)
      | (with_reducible refine LeO.ite ?_ ?_)
      | (with_reducible refine LeO.bind ?_ (fun _ => ?_))
      | exact ih0 _ _ _ _ _
      | exact ih1 _ _ _ _ _ _
      | exact crc_Add.mono _ _ _
      | exact crc_Close.mono _ _
      | exact crc_Open.mono _ _
      | exact crc_Sum.mono _ _
      | exact omnibuslaw01_awake.mono _
      | exact omnibusref01_Add.mono _ _ _
      | exact omnibusref01_Close.mono _ _
      | exact omnibusref01_Open.mono _ _
      | exact omnibusref01_Sum.mono _ _
      | exact LeO.none _
      | refine LeO.ite ?_ ?_
      | refine LeO.bind ?_ (fun _ => ?_)
theorem omnibuslaw01_CrcTells.mono : ∀ a0 a1 a2 a3 k, LeO (omnibuslaw01_CrcTells.f k a0 a1 a2 a3) (omnibuslaw01_CrcTells.f (k + 1) a0 a1 a2 a3) := by
  intro a0 a1 a2 a3 k
  obtain ⟨ih0, ih1⟩ := omnibuslaw01_CrcTells.mono_l k
  unfold omnibuslaw01_CrcTells.f
  repeat' first
      | (with_reducible exact ih0 _ _ _ _ _)
      | (with_reducible exact ih1 _ _ _ _ _ _)
      | (with_reducible exact crc_Add.mono _ _ _)
      | (with_reducible exact crc_Close.mono _ _)
      | (with_reducible exact crc_Open.mono _ _)
      | (with_reducible exact crc_Sum.mono _ _)
      | (with_reducible exact omnibuslaw01_awake.mono _)
      | (with_reducible exact omnibusref01_Add.mono _ _ _)
      | (with_reducible exact omnibusref01_Close.mono _ _)
      | (with_reducible exact omnibusref01_Open.mono _ _)
      | (with_reducible exact omnibusref01_Sum.mono _ _)
      | (with_reducible exact LeO.refl _)
      | (with_reducible exact LeO.none _)
      | (with_reducible refine LeO.ite ?_ ?_)
      | (with_reducible refine LeO.bind ?_ (fun _ => ?_))
      | exact ih0 _ _ _ _ _
      | exact ih1 _ _ _ _ _ _
      | exact crc_Add.mono _ _ _
      | exact crc_Close.mono _ _
      | exact crc_Open.mono _ _
      | exact crc_Sum.mono _ _
      | exact omnibuslaw01_awake.mono _
      | exact omnibusref01_Add.mono _ _ _
      | exact omnibusref01_Close.mono _ _
      | exact omnibusref01_Open.mono _ _
      | exact omnibusref01_Sum.mono _ _
      | exact LeO.none _
      | refine LeO.ite ?_ ?_
      | refine LeO.bind ?_ (fun _ => ?_)
set_option maxHeartbeats 8000000 in
set_option maxRecDepth 100000 in
theorem omnibuslaw01_CrcTells.calls (k : Nat) (a0 : Int) (a1 : ByteArray) (a2 : Int) (a3 : Int) (r : Bool) (w : World) (h : omnibuslaw01_CrcTells.f k a0 a1 a2 a3 = some r) :
    Calls Try.prog 3 #[.int .i64 a0, .string a1, .int .i64 a2, .int .i64 a3] w fun e w' => e = .returned (.bool r) ∧ Below w.heap.size w w' := by
  have HB := Aside0.mk (Below.refl w.heap.size w)
  have H : ((omnibuslaw01_awake.f k).bind fun t127 => (if 0 ≤ (mn (a1.size : Int) 300) then (if (mn (a1.size : Int) 300) ≤ (a1.size : Int) then ((crc_Add.f k a0 (a1.extract 0 ((mn (a1.size : Int) 300) : Int).toNat)).bind fun t128 => ((omnibusref01_Add.f k a0 (a1.extract 0 ((mn (a1.size : Int) 300) : Int).toNat)).bind fun t129 => (if t128 = t129 then ((crc_Sum.f k (a1.extract 0 ((mn (a1.size : Int) 300) : Int).toNat)).bind fun t130 => ((omnibusref01_Sum.f k (a1.extract 0 ((mn (a1.size : Int) 300) : Int).toNat)).bind fun t131 => (if t130 = t131 then ((crc_Close.f k (a1.extract 0 ((mn (a1.size : Int) 300) : Int).toNat)).bind fun t132 => ((omnibusref01_Close.f k (a1.extract 0 ((mn (a1.size : Int) 300) : Int).toNat)).bind fun t133 => (omnibuslaw01_CrcTells.j0 k a2 a3 t127 (a1.extract 0 ((mn (a1.size : Int) 300) : Int).toNat) (t132.toList != t133.toList)))) else (omnibuslaw01_CrcTells.j0 k a2 a3 t127 (a1.extract 0 ((mn (a1.size : Int) 300) : Int).toNat) true)))) else (omnibuslaw01_CrcTells.j0 k a2 a3 t127 (a1.extract 0 ((mn (a1.size : Int) 300) : Int).toNat) true)))) else (none)) else (none))) = some r := h
  clear h
  replace H := Option.bind_eq_some_iff.mp H
  obtain ⟨t127, A50, H⟩ := H
  replace H : (if 0 ≤ (mn (a1.size : Int) 300) then (if (mn (a1.size : Int) 300) ≤ (a1.size : Int) then ((crc_Add.f k a0 (a1.extract 0 ((mn (a1.size : Int) 300) : Int).toNat)).bind fun t128 => ((omnibusref01_Add.f k a0 (a1.extract 0 ((mn (a1.size : Int) 300) : Int).toNat)).bind fun t129 => (if t128 = t129 then ((crc_Sum.f k (a1.extract 0 ((mn (a1.size : Int) 300) : Int).toNat)).bind fun t130 => ((omnibusref01_Sum.f k (a1.extract 0 ((mn (a1.size : Int) 300) : Int).toNat)).bind fun t131 => (if t130 = t131 then ((crc_Close.f k (a1.extract 0 ((mn (a1.size : Int) 300) : Int).toNat)).bind fun t132 => ((omnibusref01_Close.f k (a1.extract 0 ((mn (a1.size : Int) 300) : Int).toNat)).bind fun t133 => (omnibuslaw01_CrcTells.j0 k a2 a3 t127 (a1.extract 0 ((mn (a1.size : Int) 300) : Int).toNat) (t132.toList != t133.toList)))) else (omnibuslaw01_CrcTells.j0 k a2 a3 t127 (a1.extract 0 ((mn (a1.size : Int) 300) : Int).toNat) true)))) else (omnibuslaw01_CrcTells.j0 k a2 a3 t127 (a1.extract 0 ((mn (a1.size : Int) 300) : Int).toNat) true)))) else (none)) else (none)) = some r := H
  have A5 := Aside0.mk A50
  clear A50
  obtain ⟨ji6, hji6⟩ : ∃ j_ : Int, (mn (a1.size : Int) 300) = j_ := ⟨_, rfl⟩
  replace H : (if 0 ≤ (ji6) then (if (ji6) ≤ (a1.size : Int) then ((crc_Add.f k a0 (a1.extract 0 ((ji6) : Int).toNat)).bind fun t128 => ((omnibusref01_Add.f k a0 (a1.extract 0 ((ji6) : Int).toNat)).bind fun t129 => (if t128 = t129 then ((crc_Sum.f k (a1.extract 0 ((ji6) : Int).toNat)).bind fun t130 => ((omnibusref01_Sum.f k (a1.extract 0 ((ji6) : Int).toNat)).bind fun t131 => (if t130 = t131 then ((crc_Close.f k (a1.extract 0 ((ji6) : Int).toNat)).bind fun t132 => ((omnibusref01_Close.f k (a1.extract 0 ((ji6) : Int).toNat)).bind fun t133 => (omnibuslaw01_CrcTells.j0 k a2 a3 t127 (a1.extract 0 ((ji6) : Int).toNat) (t132.toList != t133.toList)))) else (omnibuslaw01_CrcTells.j0 k a2 a3 t127 (a1.extract 0 ((ji6) : Int).toNat) true)))) else (omnibuslaw01_CrcTells.j0 k a2 a3 t127 (a1.extract 0 ((ji6) : Int).toNat) true)))) else (none)) else (none)) = some r := by first | (rw [hji6] at H; exact H) | (simp only [hji6] at H ⊢; exact H)
  (try rw [hji6] at A5)
  (try (have hji6h : ji6 ≤ 300 := by (rw [← hji6]; unfold mn; (repeat' split) <;> omega)))
  (try (have hji6g : ji6 ≤ 64 := by omega))
  (try (have hji6l : 0 ≤ ji6 := by (rw [← hji6]; unfold mn; (repeat' split) <;> omega)))
  (try (have hji6m : 0 ≤ ji6 := by omega))
  have hji6_ : (if 300 < (a1.size : Int) then 300 else (a1.size : Int)) = ji6 := hji6
  by_cases c7 : 0 ≤ (ji6)
  · rw [if_pos c7] at H
    have c7b0 := eq_true c7
    have c7b1 : decide (0 ≤ (ji6)) = true := decide_eq_true c7
    clear c7
    by_cases c8 : (ji6) ≤ (a1.size : Int)
    · rw [if_pos c8] at H
      have c8b0 := eq_true c8
      have c8b1 : decide ((ji6) ≤ (a1.size : Int)) = true := decide_eq_true c8
      clear c8
      obtain ⟨js9, hjs9⟩ : ∃ j_ : ByteArray, (a1.extract 0 ((ji6) : Int).toNat) = j_ := ⟨_, rfl⟩
      replace H : ((crc_Add.f k a0 js9).bind fun t128 => ((omnibusref01_Add.f k a0 js9).bind fun t129 => (if t128 = t129 then ((crc_Sum.f k js9).bind fun t130 => ((omnibusref01_Sum.f k js9).bind fun t131 => (if t130 = t131 then ((crc_Close.f k js9).bind fun t132 => ((omnibusref01_Close.f k js9).bind fun t133 => (omnibuslaw01_CrcTells.j0 k a2 a3 t127 js9 (t132.toList != t133.toList)))) else (omnibuslaw01_CrcTells.j0 k a2 a3 t127 js9 true)))) else (omnibuslaw01_CrcTells.j0 k a2 a3 t127 js9 true)))) = some r := by first | (rw [hjs9] at H; exact H) | (simp only [hjs9] at H ⊢; exact H) | exact H
      (try rw [hjs9] at A5)
      have HC10 := Aside0.mk H
      clear H
      go_enter Try.func3, Try.ntmps3
      go_upto_region 3 with (first | ((with_reducible refine gate_callee (f := 10) rfl ?_); refine goesL_ (some 18) rfl rfl Try.func10 (by kernel_rfl) rfl #[] rfl (by (try simp only [List.map_toArray, List.map_cons, List.map_nil]); first | done | rfl | (simp only [List.length_drop, List.length_take]; rfl)) ?_; (with_reducible refine (omnibuslaw01_awake.calls k  t127 _ A5.out).mono ?_); rintro e w11 ⟨rfl, hb⟩; refine ⟨_, rfl, ?_⟩; have n0_ := Aside0.mk (below_step (by repeat (first | (with_reducible first | exact HB.out | apply below_alloc | apply pw_below_drewN | apply below_drew1) | exact HB.out)) hb); clear HB; have HB := n0_; clear n0_; (try clear hb); (try clear hb2); (try clear hk); (try clear hi)))
      (try simp only [Act.put, List.setIfInBounds_toArray, List.set_cons_zero, List.set_cons_succ])
      go_cut [44] (fun v44 wc => ∃ (kq : Nat) (x44_9 : Bool), v44 = .bool x44_9 ∧ Aside0 (omnibuslaw01_CrcTells.j0 kq a2 a3 t127 js9 x44_9 = some r) ∧ Aside0 (kq ≤ k) ∧ Aside0 (Below w.heap.size w wc))
      case first =>
        have H := HC10.out
        clear HC10
        replace H := Option.bind_eq_some_iff.mp H
        obtain ⟨t128, A120, H⟩ := H
        replace H : ((omnibusref01_Add.f k a0 js9).bind fun t129 => (if t128 = t129 then ((crc_Sum.f k js9).bind fun t130 => ((omnibusref01_Sum.f k js9).bind fun t131 => (if t130 = t131 then ((crc_Close.f k js9).bind fun t132 => ((omnibusref01_Close.f k js9).bind fun t133 => (omnibuslaw01_CrcTells.j0 k a2 a3 t127 js9 (t132.toList != t133.toList)))) else (omnibuslaw01_CrcTells.j0 k a2 a3 t127 js9 true)))) else (omnibuslaw01_CrcTells.j0 k a2 a3 t127 js9 true))) = some r := H
        have A12 := Aside0.mk A120
        clear A120
        replace H := Option.bind_eq_some_iff.mp H
        obtain ⟨t129, A130, H⟩ := H
        replace H : (if t128 = t129 then ((crc_Sum.f k js9).bind fun t130 => ((omnibusref01_Sum.f k js9).bind fun t131 => (if t130 = t131 then ((crc_Close.f k js9).bind fun t132 => ((omnibusref01_Close.f k js9).bind fun t133 => (omnibuslaw01_CrcTells.j0 k a2 a3 t127 js9 (t132.toList != t133.toList)))) else (omnibuslaw01_CrcTells.j0 k a2 a3 t127 js9 true)))) else (omnibuslaw01_CrcTells.j0 k a2 a3 t127 js9 true)) = some r := H
        have A13 := Aside0.mk A130
        clear A130
        by_cases c14 : t128 = t129
        · rw [if_pos c14] at H
          have c14b0 : (t128 == t129) = true := beq_iff_eq.mpr c14
          have c14b1 : (t128 != t129) = false := bne_eq_false_iff_eq.mpr c14
          clear c14
          (first | rw [c14b0] | (simp only [i64_w, i32_w]; rw [c14b0]) | skip)
          replace H := Option.bind_eq_some_iff.mp H
          obtain ⟨t130, A150, H⟩ := H
          replace H : ((omnibusref01_Sum.f k js9).bind fun t131 => (if t130 = t131 then ((crc_Close.f k js9).bind fun t132 => ((omnibusref01_Close.f k js9).bind fun t133 => (omnibuslaw01_CrcTells.j0 k a2 a3 t127 js9 (t132.toList != t133.toList)))) else (omnibuslaw01_CrcTells.j0 k a2 a3 t127 js9 true))) = some r := H
          have A15 := Aside0.mk A150
          clear A150
          replace H := Option.bind_eq_some_iff.mp H
          obtain ⟨t131, A160, H⟩ := H
          replace H : (if t130 = t131 then ((crc_Close.f k js9).bind fun t132 => ((omnibusref01_Close.f k js9).bind fun t133 => (omnibuslaw01_CrcTells.j0 k a2 a3 t127 js9 (t132.toList != t133.toList)))) else (omnibuslaw01_CrcTells.j0 k a2 a3 t127 js9 true)) = some r := H
          have A16 := Aside0.mk A160
          clear A160
          by_cases c17 : t130 = t131
          · rw [if_pos c17] at H
            have c17b0 : (t130 == t131) = true := beq_iff_eq.mpr c17
            have c17b1 : (t130 != t131) = false := bne_eq_false_iff_eq.mpr c17
            clear c17
            replace H := Option.bind_eq_some_iff.mp H
            obtain ⟨t132, A180, H⟩ := H
            replace H : ((omnibusref01_Close.f k js9).bind fun t133 => (omnibuslaw01_CrcTells.j0 k a2 a3 t127 js9 (t132.toList != t133.toList))) = some r := H
            have A18 := Aside0.mk A180
            clear A180
            replace H := Option.bind_eq_some_iff.mp H
            obtain ⟨t133, A190, H⟩ := H
            replace H : (omnibuslaw01_CrcTells.j0 k a2 a3 t127 js9 (t132.toList != t133.toList)) = some r := H
            have A19 := Aside0.mk A190
            clear A190
            have H' := Aside0.mk H
            clear H
            go_wp2_with (first | ((with_reducible refine gate_callee (f := 11) rfl ?_); refine goesL_ (some 26) rfl rfl Try.func11 (by kernel_rfl) rfl #[.int .i64 a0, .string js9] rfl (by (try simp only [List.map_toArray, List.map_cons, List.map_nil]); first | done | rfl | (simp only [List.length_drop, List.length_take]; rfl)) ?_; (with_reducible refine (crc_Add.calls k a0 js9 t128 _ A12.out).mono ?_); rintro e w' ⟨rfl, ⟨nd, rfl⟩⟩; refine ⟨_, rfl, ?_⟩) | ((with_reducible refine gate_callee (f := 12) rfl ?_); refine goesL_ (some 29) rfl rfl Try.func12 (by kernel_rfl) rfl #[.int .i64 a0, .string js9] rfl (by (try simp only [List.map_toArray, List.map_cons, List.map_nil]); first | done | rfl | (simp only [List.length_drop, List.length_take]; rfl)) ?_; (with_reducible refine (omnibusref01_Add.calls k a0 js9 t129 _ A13.out).mono ?_); rintro e w' ⟨rfl, ⟨nd, rfl⟩⟩; refine ⟨_, rfl, ?_⟩) | (go_at_call 13; (with_reducible refine (crc_Sum.calls k js9 t130 _ A15.out).mono ?_); rintro e w' ⟨rfl, ⟨nd, rfl⟩⟩) | (go_at_call 14; (with_reducible refine (omnibusref01_Sum.calls k js9 t131 _ A16.out).mono ?_); rintro e w' ⟨rfl, ⟨nd, rfl⟩⟩) | (go_at_call 15; (with_reducible refine (crc_Close.calls k js9 t132 _ A18.out).mono ?_); rintro e w20 ⟨rfl, hb⟩; have n0_ := Aside0.mk (below_step (by repeat (first | (with_reducible first | exact HB.out | apply below_alloc | apply pw_below_drewN | apply below_drew1) | exact HB.out)) hb); clear HB; have HB := n0_; clear n0_; (try clear hb); (try clear hb2); (try clear hk); (try clear hi)) | (go_at_call 16; (with_reducible refine (omnibusref01_Close.calls k js9 t133 _ A19.out).mono ?_); rintro e w21 ⟨rfl, hb⟩; have n0_ := Aside0.mk (below_step (by repeat (first | (with_reducible first | exact HB.out | apply below_alloc | apply pw_below_drewN | apply below_drew1) | exact HB.out)) hb); clear HB; have HB := n0_; clear n0_; (try clear hb); (try clear hb2); (try clear hk); (try clear hi)))
            go_meet
            case rel => exact ⟨_, ((t132.toList != t133.toList)), (by first | rfl | (simp; done) | (simp [*]; done)), H', ⟨by first | omega | exact Nat.le_refl _⟩, ⟨by repeat (first | (with_reducible first | exact HB.out | apply below_alloc | apply pw_below_drewN | apply below_drew1) | exact HB.out)⟩⟩
          · rw [if_neg c17] at H
            have c17b0 : (t130 == t131) = false := beq_eq_false_iff_ne.mpr c17
            have c17b1 : (t130 != t131) = true := bne_iff_ne.mpr c17
            have H' := Aside0.mk H
            clear H
            go_wp2_with (first | ((with_reducible refine gate_callee (f := 11) rfl ?_); refine goesL_ (some 26) rfl rfl Try.func11 (by kernel_rfl) rfl #[.int .i64 a0, .string js9] rfl (by (try simp only [List.map_toArray, List.map_cons, List.map_nil]); first | done | rfl | (simp only [List.length_drop, List.length_take]; rfl)) ?_; (with_reducible refine (crc_Add.calls k a0 js9 t128 _ A12.out).mono ?_); rintro e w' ⟨rfl, ⟨nd, rfl⟩⟩; refine ⟨_, rfl, ?_⟩) | ((with_reducible refine gate_callee (f := 12) rfl ?_); refine goesL_ (some 29) rfl rfl Try.func12 (by kernel_rfl) rfl #[.int .i64 a0, .string js9] rfl (by (try simp only [List.map_toArray, List.map_cons, List.map_nil]); first | done | rfl | (simp only [List.length_drop, List.length_take]; rfl)) ?_; (with_reducible refine (omnibusref01_Add.calls k a0 js9 t129 _ A13.out).mono ?_); rintro e w' ⟨rfl, ⟨nd, rfl⟩⟩; refine ⟨_, rfl, ?_⟩) | (go_at_call 13; (with_reducible refine (crc_Sum.calls k js9 t130 _ A15.out).mono ?_); rintro e w' ⟨rfl, ⟨nd, rfl⟩⟩) | (go_at_call 14; (with_reducible refine (omnibusref01_Sum.calls k js9 t131 _ A16.out).mono ?_); rintro e w' ⟨rfl, ⟨nd, rfl⟩⟩))
            go_meet
            case rel => exact ⟨_, (true), (by first | rfl | (simp; done) | (simp [*]; done)), H', ⟨by first | omega | exact Nat.le_refl _⟩, ⟨by repeat (first | (with_reducible first | exact HB.out | apply below_alloc | apply pw_below_drewN | apply below_drew1) | exact HB.out)⟩⟩
        · rw [if_neg c14] at H
          have c14b0 : (t128 == t129) = false := beq_eq_false_iff_ne.mpr c14
          have c14b1 : (t128 != t129) = true := bne_iff_ne.mpr c14
          (first | rw [c14b0] | (simp only [i64_w, i32_w]; rw [c14b0]) | skip)
          have H' := Aside0.mk H
          clear H
          go_wp2_with (first | ((with_reducible refine gate_callee (f := 11) rfl ?_); refine goesL_ (some 26) rfl rfl Try.func11 (by kernel_rfl) rfl #[.int .i64 a0, .string js9] rfl (by (try simp only [List.map_toArray, List.map_cons, List.map_nil]); first | done | rfl | (simp only [List.length_drop, List.length_take]; rfl)) ?_; (with_reducible refine (crc_Add.calls k a0 js9 t128 _ A12.out).mono ?_); rintro e w' ⟨rfl, ⟨nd, rfl⟩⟩; refine ⟨_, rfl, ?_⟩) | ((with_reducible refine gate_callee (f := 12) rfl ?_); refine goesL_ (some 29) rfl rfl Try.func12 (by kernel_rfl) rfl #[.int .i64 a0, .string js9] rfl (by (try simp only [List.map_toArray, List.map_cons, List.map_nil]); first | done | rfl | (simp only [List.length_drop, List.length_take]; rfl)) ?_; (with_reducible refine (omnibusref01_Add.calls k a0 js9 t129 _ A13.out).mono ?_); rintro e w' ⟨rfl, ⟨nd, rfl⟩⟩; refine ⟨_, rfl, ?_⟩))
          go_meet
          case rel => exact ⟨_, (true), (by first | rfl | (simp; done) | (simp [*]; done)), H', ⟨by first | omega | exact Nat.le_refl _⟩, ⟨by repeat (first | (with_reducible first | exact HB.out | apply below_alloc | apply pw_below_drewN | apply below_drew1) | exact HB.out)⟩⟩
      case rest =>
        clear HC10
        try clear c1
        try clear p2
        try clear c3
        try clear c7
        try clear c7b0
        try clear c7b1
        try clear c8
        try clear c8b0
        try clear c8b1
        try clear c10
        try clear c11
        try clear c12
        try clear c14
        try clear c14b0
        try clear c14b1
        try clear c17
        try clear c17b0
        try clear c17b1
        obtain ⟨kq, x44_9, rfl, HA, HJ9, HB⟩ := hcut
        cases kq with
        | zero => exact absurd HA.out (by simp [omnibuslaw01_CrcTells.j0])
        | succ kj9 =>
          have H := HA.out
          clear HA
          simp only [omnibuslaw01_CrcTells.j0] at H
          by_cases c22 : x44_9 = true
          · subst c22
            have H1 : (some false) = some r := by rw [if_pos rfl] at H; exact H
            clear H
            have H := H1
            clear H1
            obtain rfl := Option.some.inj H
            go_wp2
            go_ret
            exact ⟨by first | rfl | (simp [errW_none, errW_some] <;> rfl) | (simp only [← hji6, ← hjs9]; first | rfl | (simp [errW_none, errW_some] <;> rfl)) | (simp [*, errW_none, errW_some] <;> rfl), by repeat (first | (with_reducible first | exact HB.out | apply below_alloc | apply pw_below_drewN | apply below_drew1) | exact HB.out)⟩
          · replace c22 := Bool.eq_false_iff.mpr c22
            subst c22
            have H1 : ((omnibusref01_Close.f kj9 js9).bind fun t134 => ((omnibusref01_Close.f kj9 js9).bind fun t135 => ((omnibusref01_Burst.f t135 a2 a3).bind fun t136 => ((some (([js9, t134, t136] : List ByteArray) : List ByteArray)).bind fun y137 => (omnibuslaw01_CrcTells.l0 kj9 a2 a3 t127 y137 (y137.length : Int) 0))))) = some r := by rw [if_neg (show ¬ (false = true) by decide)] at H; exact H
            clear H
            have H := H1
            clear H1
            replace H := Option.bind_eq_some_iff.mp H
            obtain ⟨t134, A230, H⟩ := H
            replace H : ((omnibusref01_Close.f kj9 js9).bind fun t135 => ((omnibusref01_Burst.f t135 a2 a3).bind fun t136 => ((some (([js9, t134, t136] : List ByteArray) : List ByteArray)).bind fun y137 => (omnibuslaw01_CrcTells.l0 kj9 a2 a3 t127 y137 (y137.length : Int) 0)))) = some r := H
            have A23 := Aside0.mk A230
            clear A230
            replace H := Option.bind_eq_some_iff.mp H
            obtain ⟨t135, A240, H⟩ := H
            replace H : ((omnibusref01_Burst.f t135 a2 a3).bind fun t136 => ((some (([js9, t134, t136] : List ByteArray) : List ByteArray)).bind fun y137 => (omnibuslaw01_CrcTells.l0 kj9 a2 a3 t127 y137 (y137.length : Int) 0))) = some r := H
            have A24 := Aside0.mk A240
            clear A240
            replace H := Option.bind_eq_some_iff.mp H
            obtain ⟨t136, A250, H⟩ := H
            replace H : ((some (([js9, t134, t136] : List ByteArray) : List ByteArray)).bind fun y137 => (omnibuslaw01_CrcTells.l0 kj9 a2 a3 t127 y137 (y137.length : Int) 0)) = some r := H
            have A25 := Aside0.mk A250
            clear A250
            obtain ⟨y137, hy137⟩ : ∃ y_ : List ByteArray, y_ = (([js9, t134, t136] : List ByteArray)) := ⟨_, rfl⟩
            replace H : (omnibuslaw01_CrcTells.l0 kj9 a2 a3 t127 y137 (y137.length : Int) 0) = some r := by first | (rw [hy137]; with_reducible exact H) | (have H2_ := (Option.bind_some _ _).symm.trans H; rw [hy137]; with_reducible exact H2_) | (have H2_ := (Option.bind_some _ _).symm.trans H; with_reducible exact H2_) | with_reducible exact H | (rw [hy137]; exact H) | exact H
            have Ny137 := Aside0.mk hy137
            clear hy137
            have H' := Aside0.mk H
            clear H
            go_wp2_with (first | ((with_reducible refine gate_callee (f := 16) rfl ?_); refine goesL_ (some 47) rfl rfl Try.func16 (by kernel_rfl) rfl #[.string js9] rfl (by (try simp only [List.map_toArray, List.map_cons, List.map_nil]); first | done | rfl | (simp only [List.length_drop, List.length_take]; rfl)) ?_; (with_reducible refine (omnibusref01_Close.calls kj9 js9 t134 _ A23.out).mono ?_); rintro e w26 ⟨rfl, hb⟩; refine ⟨_, rfl, ?_⟩; have n0_ := Aside0.mk (below_step (by repeat (first | (with_reducible first | exact HB.out | apply below_alloc | apply pw_below_drewN | apply below_drew1) | exact HB.out)) hb); clear HB; have HB := n0_; clear n0_; (try clear hb); (try clear hb2); (try clear hk); (try clear hi)) | ((with_reducible refine gate_callee (f := 16) rfl ?_); refine goesL_ (some 49) rfl rfl Try.func16 (by kernel_rfl) rfl #[.string js9] rfl (by (try simp only [List.map_toArray, List.map_cons, List.map_nil]); first | done | rfl | (simp only [List.length_drop, List.length_take]; rfl)) ?_; (with_reducible refine (omnibusref01_Close.calls kj9 js9 t135 _ A24.out).mono ?_); rintro e w27 ⟨rfl, hb⟩; refine ⟨_, rfl, ?_⟩; have n0_ := Aside0.mk (below_step (by repeat (first | (with_reducible first | exact HB.out | apply below_alloc | apply pw_below_drewN | apply below_drew1) | exact HB.out)) hb); clear HB; have HB := n0_; clear n0_; (try clear hb); (try clear hb2); (try clear hk); (try clear hi)) | ((with_reducible refine gate_callee (f := 17) rfl ?_); refine goesL_ (some 52) rfl rfl Try.func17 (by kernel_rfl) rfl #[.string t135, .int .i64 a2, .int .i64 a3] rfl (by (try simp only [List.map_toArray, List.map_cons, List.map_nil]); first | done | rfl | (simp only [List.length_drop, List.length_take]; rfl)) ?_; (with_reducible refine (omnibusref01_Burst.calls t135 a2 a3 t136 _ A25.out).mono ?_); rintro e w28 ⟨rfl, hb⟩; refine ⟨_, rfl, ?_⟩; have n0_ := Aside0.mk (below_step (by repeat (first | (with_reducible first | exact HB.out | apply below_alloc | apply pw_below_drewN | apply below_drew1) | exact HB.out)) hb); clear HB; have HB := n0_; clear n0_; (try clear hb); (try clear hb2); (try clear hk); (try clear hi)) | ((with_reducible refine gate_dst (N := 53) rfl ?_); refine Kd.R_lit Kd.string _ 9 ?hg (N := 53) ?hd (xs := ([js9, t134, t136] : List ByteArray)) (inner := [.string js9, .string t134, .string t136]) (ok := fun _ => True) (okp := fun _ => True) ?hr ?hp (fun _ hk => hk) trivial (Below.refl _ _) (Nat.le_refl _) (by simp) ?_; (case hd => rfl); (case hg => rfl); (case hr => first | (go_simp; done) | (go_simp; rfl)); (case hp => exact (Reps.one (show Kd.M Kd.string _ _ _ js9 [.string js9] from rfl) (Reps.one (show Kd.M Kd.string _ _ _ t134 [.string t134] from rfl) (Reps.one (show Kd.M Kd.string _ _ _ t136 [.string t136] from rfl) (Reps.none _ _))))); intro v138 w29 ho30 hb hg_ hnew_; clear hg_ hnew_; (first | rw [← Ny137.out] at ho30 | (simp only [Int.reduceToNat] at ho30; rw [← Ny137.out] at ho30)); have n0_ := Aside0.mk (Kd.R_lower ho30 (below_size (by repeat (first | (with_reducible first | exact HB.out | apply below_alloc | apply pw_below_drewN | apply below_drew1) | exact HB.out)))); have n1_ := Aside0.mk (below_step (by repeat (first | (with_reducible first | exact HB.out | apply below_alloc | apply pw_below_drewN | apply below_drew1) | exact HB.out)) hb); clear HB; have HO139 := n0_; have HB := n1_; clear n0_ n1_; clear hb ho30; obtain ⟨Ao31, co31, eo31⟩ := Kd.R_slice HO139.out; subst eo31))
            go_loopg [55] kj9 (fun kq v55 w' => ∃ (x55_2 : Int), v55 = .int .i64 x55_2 ∧ Aside0 (omnibuslaw01_CrcTells.l0 kq a2 a3 t127 y137 (y137.length : Int) x55_2 = some r) ∧ Aside0 (kq ≤ kj9) ∧ Aside0 (Kd.R Kd.string 9 w' w.heap.size (fun _ => True) (.slice Ao31 y137.length co31) y137) ∧ Aside0 (Below w.heap.size w w'))
            case atStart => exact ⟨(0), (by first | rfl | (simp; done) | (simp [*]; done)), H', ⟨Nat.le_refl _⟩, ⟨by (with_reducible repeat (first | apply Kd.R_alloc | apply Kd.R_drewN | apply Kd.R_drew)); exact HO139.out⟩, ⟨by repeat (first | (with_reducible first | exact HB.out | apply below_alloc | apply pw_below_drewN | apply below_drew1) | exact HB.out)⟩⟩
            case round =>
              clear H'
              try clear c1
              try clear c2
              try clear p2
              try clear c3
              try clear c7
              try clear c7b0
              try clear c7b1
              try clear c8
              try clear c8b0
              try clear c8b1
              try clear c10
              try clear c11
              try clear c12
              try clear c14
              try clear c14b0
              try clear c14b1
              try clear c16
              try clear c17
              try clear c17b0
              try clear c17b1
              try clear c22
              try clear p2
              obtain ⟨x55_2, rfl, HA, HK2, HO_53, HB⟩ := hrel
              cases gk with
              | zero => exact absurd HA.out (by simp [omnibuslaw01_CrcTells.l0])
              | succ k2 =>
                have H := HA.out
                clear HA
                simp only [omnibuslaw01_CrcTells.l0] at H
                by_cases c32 : x55_2 < (y137.length : Int)
                · rw [if_pos c32] at H
                  have c32b0 : decide (x55_2 < (y137.length : Int)) = true := decide_eq_true c32
                  clear c32
                  by_cases c33 : 0 ≤ x55_2
                  · rw [if_pos c33] at H
                    have c33b0 : decide (0 ≤ x55_2) = true := decide_eq_true c33
                    clear c33
                    by_cases c34 : x55_2 < (y137.length : Int)
                    · rw [if_pos c34] at H
                      have c34b0 : decide (x55_2 < (y137.length : Int)) = true := decide_eq_true c34
                      clear c34
                      replace H := Option.bind_eq_some_iff.mp H
                      obtain ⟨⟨t141, t142⟩, A350, H⟩ := H
                      replace H : ((omnibusref01_Open.f k2 (rdOf ByteArray.empty y137 x55_2)).bind fun bt143 => ((omnibuslaw01_pick.f a2 (wrap64 ((wrap64 (8 * ((rdOf ByteArray.empty y137 x55_2).size : Int))) + 1))).bind fun t145 => (if t141.toList = bt143.1.toList then (if (t142 != bt143.2) = true then (some false) else ((crc_Burst.f (rdOf ByteArray.empty y137 x55_2) a2 a3).bind fun t146 => ((omnibusref01_Burst.f (rdOf ByteArray.empty y137 x55_2) a2 a3).bind fun t147 => (if t146.toList = t147.toList then ((crc_Burst.f (rdOf ByteArray.empty y137 x55_2) t145 a3).bind fun t148 => ((omnibusref01_Burst.f (rdOf ByteArray.empty y137 x55_2) t145 a3).bind fun t149 => (if t148.toList = t149.toList then (omnibuslaw01_CrcTells.l0 k2 a2 a3 t127 y137 (y137.length : Int) (wrap64 (x55_2 + 1))) else (some false)))) else (some false))))) else (some false)))) = some r := H
                      have A35 := Aside0.mk A350
                      clear A350
                      replace H := Option.bind_eq_some_iff.mp H
                      obtain ⟨⟨t143, t144⟩, A360, H⟩ := H
                      replace H : ((omnibuslaw01_pick.f a2 (wrap64 ((wrap64 (8 * ((rdOf ByteArray.empty y137 x55_2).size : Int))) + 1))).bind fun t145 => (if t141.toList = t143.toList then (if (t142 != t144) = true then (some false) else ((crc_Burst.f (rdOf ByteArray.empty y137 x55_2) a2 a3).bind fun t146 => ((omnibusref01_Burst.f (rdOf ByteArray.empty y137 x55_2) a2 a3).bind fun t147 => (if t146.toList = t147.toList then ((crc_Burst.f (rdOf ByteArray.empty y137 x55_2) t145 a3).bind fun t148 => ((omnibusref01_Burst.f (rdOf ByteArray.empty y137 x55_2) t145 a3).bind fun t149 => (if t148.toList = t149.toList then (omnibuslaw01_CrcTells.l0 k2 a2 a3 t127 y137 (y137.length : Int) (wrap64 (x55_2 + 1))) else (some false)))) else (some false))))) else (some false))) = some r := H
                      have A36 := Aside0.mk A360
                      clear A360
                      replace H := Option.bind_eq_some_iff.mp H
                      obtain ⟨t145, A370, H⟩ := H
                      replace H : (if t141.toList = t143.toList then (if (t142 != t144) = true then (some false) else ((crc_Burst.f (rdOf ByteArray.empty y137 x55_2) a2 a3).bind fun t146 => ((omnibusref01_Burst.f (rdOf ByteArray.empty y137 x55_2) a2 a3).bind fun t147 => (if t146.toList = t147.toList then ((crc_Burst.f (rdOf ByteArray.empty y137 x55_2) t145 a3).bind fun t148 => ((omnibusref01_Burst.f (rdOf ByteArray.empty y137 x55_2) t145 a3).bind fun t149 => (if t148.toList = t149.toList then (omnibuslaw01_CrcTells.l0 k2 a2 a3 t127 y137 (y137.length : Int) (wrap64 (x55_2 + 1))) else (some false)))) else (some false))))) else (some false)) = some r := H
                      have A37 := Aside0.mk A370
                      clear A370
                      by_cases c38 : t141.toList = t143.toList
                      · rw [if_pos c38] at H
                        have c38b0 : (t141.toList == t143.toList) = true := beq_iff_eq.mpr c38
                        have c38b1 : (t141.toList != t143.toList) = false := bne_eq_false_iff_eq.mpr c38
                        clear c38
                        by_cases c39 : (t142 != t144) = true
                        · rw [if_pos c39] at H
                          have c39b0 : (t142 != t144) = true := c39
                          (try (have c39b1 : decide (t142 = t144) = false := by simpa using c39))
                          (try (have c39b2 : (t142 == t144) = false := by simpa using c39))
                          (try (have c39b3 : ¬ (t142 = t144) := by simpa using c39))
                          clear c39
                          obtain rfl := Option.some.inj H
                          have p140 : 0 ≤ (x55_2 : Int) := of_decide_eq_true (by first | (with_reducible assumption) | assumption)
                          have q140 : x55_2 < (y137.length : Int) := of_decide_eq_true (by first | (with_reducible assumption) | assumption)
                          obtain ⟨ad140, e140, hx140_0⟩ := Kd.at_string (Kd.R_reads' HO_53.out).2.2 x55_2 p140 q140
                          cases e140
                          replace p140 := eq_true p140
                          replace q140 := eq_true q140
                          go_wp2_with (first | ((with_reducible refine gate_callee (f := 18) rfl ?_); refine goesL_ (some 61) rfl rfl Try.func18 (by kernel_rfl) rfl #[.string (rdOf ByteArray.empty y137 x55_2)] rfl (by (try simp only [List.map_toArray, List.map_cons, List.map_nil]); first | done | rfl | (simp only [List.length_drop, List.length_take]; rfl)) ?_; (with_reducible refine (crc_Open.calls k2 (rdOf ByteArray.empty y137 x55_2) t141 t142 _ A35.out).mono ?_); rintro e w' ⟨rfl, ⟨nd, rfl⟩⟩; refine ⟨_, rfl, ?_⟩) | ((with_reducible refine gate_callee (f := 19) rfl ?_); refine goesL_ (some 66) rfl rfl Try.func19 (by kernel_rfl) rfl #[.string (rdOf ByteArray.empty y137 x55_2)] rfl (by (try simp only [List.map_toArray, List.map_cons, List.map_nil]); first | done | rfl | (simp only [List.length_drop, List.length_take]; rfl)) ?_; (with_reducible refine (omnibusref01_Open.calls k2 (rdOf ByteArray.empty y137 x55_2) t143 t144 _ A36.out).mono ?_); rintro e w40 ⟨rfl, hb⟩; refine ⟨_, rfl, ?_⟩; have n0_ := Aside0.mk (Kd.R_below (by (with_reducible repeat (first | apply Kd.R_alloc | apply Kd.R_drewN | apply Kd.R_drew)); exact HO_53.out) hb); have n1_ := Aside0.mk (below_step (by repeat (first | (with_reducible first | exact HB.out | apply below_alloc | apply pw_below_drewN | apply below_drew1) | exact HB.out)) hb); clear HO_53; clear HB; have HO_53 := n0_; have HB := n1_; clear n0_ n1_; (try clear hb); (try clear hb2); (try clear hk); (try clear hi)) | ((with_reducible refine gate_callee (f := 20) rfl ?_); refine goesL_ (some 74) rfl rfl Try.func20 (by kernel_rfl) rfl #[.int .i64 a2, .int .i64 (wrap64 ((wrap64 (8 * ((rdOf ByteArray.empty y137 x55_2).size : Int))) + 1))] rfl (by (try simp only [List.map_toArray, List.map_cons, List.map_nil]); first | done | rfl | (simp only [List.length_drop, List.length_take]; rfl)) ?_; (with_reducible refine (omnibuslaw01_pick.calls a2 (wrap64 ((wrap64 (8 * ((rdOf ByteArray.empty y137 x55_2).size : Int))) + 1)) t145 _ A37.out).mono ?_); rintro e w' ⟨rfl, ⟨nd, rfl⟩⟩; refine ⟨_, rfl, ?_⟩))
                          go_ret
                          exact ⟨by first | rfl | (simp [errW_none, errW_some] <;> rfl) | (simp only [← hji6, ← hjs9]; first | rfl | (simp [errW_none, errW_some] <;> rfl)) | (simp [*, errW_none, errW_some] <;> rfl), by repeat (first | (with_reducible first | exact HB.out | apply below_alloc | apply pw_below_drewN | apply below_drew1) | exact HB.out)⟩
                        · rw [if_neg c39] at H
                          have c39b0 : (t142 != t144) = false := by simpa using c39
                          (try (have c39b1 : decide (t142 = t144) = true := by simpa using c39))
                          (try (have c39b2 : (t142 == t144) = true := by simpa using c39))
                          clear c39
                          replace H := Option.bind_eq_some_iff.mp H
                          obtain ⟨t146, A410, H⟩ := H
                          replace H : ((omnibusref01_Burst.f (rdOf ByteArray.empty y137 x55_2) a2 a3).bind fun t147 => (if t146.toList = t147.toList then ((crc_Burst.f (rdOf ByteArray.empty y137 x55_2) t145 a3).bind fun t148 => ((omnibusref01_Burst.f (rdOf ByteArray.empty y137 x55_2) t145 a3).bind fun t149 => (if t148.toList = t149.toList then (omnibuslaw01_CrcTells.l0 k2 a2 a3 t127 y137 (y137.length : Int) (wrap64 (x55_2 + 1))) else (some false)))) else (some false))) = some r := H
                          have A41 := Aside0.mk A410
                          clear A410
                          replace H := Option.bind_eq_some_iff.mp H
                          obtain ⟨t147, A420, H⟩ := H
                          replace H : (if t146.toList = t147.toList then ((crc_Burst.f (rdOf ByteArray.empty y137 x55_2) t145 a3).bind fun t148 => ((omnibusref01_Burst.f (rdOf ByteArray.empty y137 x55_2) t145 a3).bind fun t149 => (if t148.toList = t149.toList then (omnibuslaw01_CrcTells.l0 k2 a2 a3 t127 y137 (y137.length : Int) (wrap64 (x55_2 + 1))) else (some false)))) else (some false)) = some r := H
                          have A42 := Aside0.mk A420
                          clear A420
                          by_cases c43 : t146.toList = t147.toList
                          · rw [if_pos c43] at H
                            have c43b0 : (t146.toList == t147.toList) = true := beq_iff_eq.mpr c43
                            have c43b1 : (t146.toList != t147.toList) = false := bne_eq_false_iff_eq.mpr c43
                            clear c43
                            replace H := Option.bind_eq_some_iff.mp H
                            obtain ⟨t148, A440, H⟩ := H
                            replace H : ((omnibusref01_Burst.f (rdOf ByteArray.empty y137 x55_2) t145 a3).bind fun t149 => (if t148.toList = t149.toList then (omnibuslaw01_CrcTells.l0 k2 a2 a3 t127 y137 (y137.length : Int) (wrap64 (x55_2 + 1))) else (some false))) = some r := H
                            have A44 := Aside0.mk A440
                            clear A440
                            replace H := Option.bind_eq_some_iff.mp H
                            obtain ⟨t149, A450, H⟩ := H
                            replace H : (if t148.toList = t149.toList then (omnibuslaw01_CrcTells.l0 k2 a2 a3 t127 y137 (y137.length : Int) (wrap64 (x55_2 + 1))) else (some false)) = some r := H
                            have A45 := Aside0.mk A450
                            clear A450
                            by_cases c46 : t148.toList = t149.toList
                            · rw [if_pos c46] at H
                              have c46b0 : (t148.toList == t149.toList) = true := beq_iff_eq.mpr c46
                              have c46b1 : (t148.toList != t149.toList) = false := bne_eq_false_iff_eq.mpr c46
                              clear c46
                              have H' := Aside0.mk H
                              clear H
                              have p140 : 0 ≤ (x55_2 : Int) := of_decide_eq_true (by first | (with_reducible assumption) | assumption)
                              have q140 : x55_2 < (y137.length : Int) := of_decide_eq_true (by first | (with_reducible assumption) | assumption)
                              obtain ⟨ad140, e140, hx140_0⟩ := Kd.at_string (Kd.R_reads' HO_53.out).2.2 x55_2 p140 q140
                              cases e140
                              replace p140 := eq_true p140
                              replace q140 := eq_true q140
                              go_wp2_with (first | ((with_reducible refine gate_callee (f := 18) rfl ?_); refine goesL_ (some 61) rfl rfl Try.func18 (by kernel_rfl) rfl #[.string (rdOf ByteArray.empty y137 x55_2)] rfl (by (try simp only [List.map_toArray, List.map_cons, List.map_nil]); first | done | rfl | (simp only [List.length_drop, List.length_take]; rfl)) ?_; (with_reducible refine (crc_Open.calls k2 (rdOf ByteArray.empty y137 x55_2) t141 t142 _ A35.out).mono ?_); rintro e w' ⟨rfl, ⟨nd, rfl⟩⟩; refine ⟨_, rfl, ?_⟩) | ((with_reducible refine gate_callee (f := 19) rfl ?_); refine goesL_ (some 66) rfl rfl Try.func19 (by kernel_rfl) rfl #[.string (rdOf ByteArray.empty y137 x55_2)] rfl (by (try simp only [List.map_toArray, List.map_cons, List.map_nil]); first | done | rfl | (simp only [List.length_drop, List.length_take]; rfl)) ?_; (with_reducible refine (omnibusref01_Open.calls k2 (rdOf ByteArray.empty y137 x55_2) t143 t144 _ A36.out).mono ?_); rintro e w47 ⟨rfl, hb⟩; refine ⟨_, rfl, ?_⟩; have n0_ := Aside0.mk (Kd.R_below (by (with_reducible repeat (first | apply Kd.R_alloc | apply Kd.R_drewN | apply Kd.R_drew)); exact HO_53.out) hb); have n1_ := Aside0.mk (below_step (by repeat (first | (with_reducible first | exact HB.out | apply below_alloc | apply pw_below_drewN | apply below_drew1) | exact HB.out)) hb); clear HO_53; clear HB; have HO_53 := n0_; have HB := n1_; clear n0_ n1_; (try clear hb); (try clear hb2); (try clear hk); (try clear hi)) | ((with_reducible refine gate_callee (f := 20) rfl ?_); refine goesL_ (some 74) rfl rfl Try.func20 (by kernel_rfl) rfl #[.int .i64 a2, .int .i64 (wrap64 ((wrap64 (8 * ((rdOf ByteArray.empty y137 x55_2).size : Int))) + 1))] rfl (by (try simp only [List.map_toArray, List.map_cons, List.map_nil]); first | done | rfl | (simp only [List.length_drop, List.length_take]; rfl)) ?_; (with_reducible refine (omnibuslaw01_pick.calls a2 (wrap64 ((wrap64 (8 * ((rdOf ByteArray.empty y137 x55_2).size : Int))) + 1)) t145 _ A37.out).mono ?_); rintro e w' ⟨rfl, ⟨nd, rfl⟩⟩; refine ⟨_, rfl, ?_⟩) | (go_at_call 21; (with_reducible refine (crc_Burst.calls (rdOf ByteArray.empty y137 x55_2) a2 a3 t146 _ A41.out).mono ?_); rintro e w48 ⟨rfl, hb⟩; have n0_ := Aside0.mk (Kd.R_below (by (with_reducible repeat (first | apply Kd.R_alloc | apply Kd.R_drewN | apply Kd.R_drew)); exact HO_53.out) hb); have n1_ := Aside0.mk (below_step (by repeat (first | (with_reducible first | exact HB.out | apply below_alloc | apply pw_below_drewN | apply below_drew1) | exact HB.out)) hb); clear HO_53; clear HB; have HO_53 := n0_; have HB := n1_; clear n0_ n1_; (try clear hb); (try clear hb2); (try clear hk); (try clear hi)) | (go_at_call 17; (with_reducible refine (omnibusref01_Burst.calls (rdOf ByteArray.empty y137 x55_2) a2 a3 t147 _ A42.out).mono ?_); rintro e w49 ⟨rfl, hb⟩; have n0_ := Aside0.mk (Kd.R_below (by (with_reducible repeat (first | apply Kd.R_alloc | apply Kd.R_drewN | apply Kd.R_drew)); exact HO_53.out) hb); have n1_ := Aside0.mk (below_step (by repeat (first | (with_reducible first | exact HB.out | apply below_alloc | apply pw_below_drewN | apply below_drew1) | exact HB.out)) hb); clear HO_53; clear HB; have HO_53 := n0_; have HB := n1_; clear n0_ n1_; (try clear hb); (try clear hb2); (try clear hk); (try clear hi)) | (go_at_call 21; (with_reducible refine (crc_Burst.calls (rdOf ByteArray.empty y137 x55_2) t145 a3 t148 _ A44.out).mono ?_); rintro e w50 ⟨rfl, hb⟩; have n0_ := Aside0.mk (Kd.R_below (by (with_reducible repeat (first | apply Kd.R_alloc | apply Kd.R_drewN | apply Kd.R_drew)); exact HO_53.out) hb); have n1_ := Aside0.mk (below_step (by repeat (first | (with_reducible first | exact HB.out | apply below_alloc | apply pw_below_drewN | apply below_drew1) | exact HB.out)) hb); clear HO_53; clear HB; have HO_53 := n0_; have HB := n1_; clear n0_ n1_; (try clear hb); (try clear hb2); (try clear hk); (try clear hi)) | (go_at_call 17; (with_reducible refine (omnibusref01_Burst.calls (rdOf ByteArray.empty y137 x55_2) t145 a3 t149 _ A45.out).mono ?_); rintro e w51 ⟨rfl, hb⟩; have n0_ := Aside0.mk (Kd.R_below (by (with_reducible repeat (first | apply Kd.R_alloc | apply Kd.R_drewN | apply Kd.R_drew)); exact HO_53.out) hb); have n1_ := Aside0.mk (below_step (by repeat (first | (with_reducible first | exact HB.out | apply below_alloc | apply pw_below_drewN | apply below_drew1) | exact HB.out)) hb); clear HO_53; clear HB; have HO_53 := n0_; have HB := n1_; clear n0_ n1_; (try clear hb); (try clear hb2); (try clear hk); (try clear hi)))
                              go_roundg k2
                              case measure => have := HJ9.out; have := HK2.out; omega
                              case rel => exact ⟨(wrap64 (x55_2 + 1)), (by first | rfl | (simp; done) | (simp [*]; done)), H', ⟨by have := HJ9.out; have := HK2.out; omega⟩, ⟨by (with_reducible repeat (first | apply Kd.R_alloc | apply Kd.R_drewN | apply Kd.R_drew)); exact HO_53.out⟩, ⟨by repeat (first | (with_reducible first | exact HB.out | apply below_alloc | apply pw_below_drewN | apply below_drew1) | exact HB.out)⟩⟩
                            · rw [if_neg c46] at H
                              have c46b0 : (t148.toList == t149.toList) = false := beq_eq_false_iff_ne.mpr c46
                              have c46b1 : (t148.toList != t149.toList) = true := bne_iff_ne.mpr c46
                              obtain rfl := Option.some.inj H
                              have p140 : 0 ≤ (x55_2 : Int) := of_decide_eq_true (by first | (with_reducible assumption) | assumption)
                              have q140 : x55_2 < (y137.length : Int) := of_decide_eq_true (by first | (with_reducible assumption) | assumption)
                              obtain ⟨ad140, e140, hx140_0⟩ := Kd.at_string (Kd.R_reads' HO_53.out).2.2 x55_2 p140 q140
                              cases e140
                              replace p140 := eq_true p140
                              replace q140 := eq_true q140
                              go_wp2_with (first | ((with_reducible refine gate_callee (f := 18) rfl ?_); refine goesL_ (some 61) rfl rfl Try.func18 (by kernel_rfl) rfl #[.string (rdOf ByteArray.empty y137 x55_2)] rfl (by (try simp only [List.map_toArray, List.map_cons, List.map_nil]); first | done | rfl | (simp only [List.length_drop, List.length_take]; rfl)) ?_; (with_reducible refine (crc_Open.calls k2 (rdOf ByteArray.empty y137 x55_2) t141 t142 _ A35.out).mono ?_); rintro e w' ⟨rfl, ⟨nd, rfl⟩⟩; refine ⟨_, rfl, ?_⟩) | ((with_reducible refine gate_callee (f := 19) rfl ?_); refine goesL_ (some 66) rfl rfl Try.func19 (by kernel_rfl) rfl #[.string (rdOf ByteArray.empty y137 x55_2)] rfl (by (try simp only [List.map_toArray, List.map_cons, List.map_nil]); first | done | rfl | (simp only [List.length_drop, List.length_take]; rfl)) ?_; (with_reducible refine (omnibusref01_Open.calls k2 (rdOf ByteArray.empty y137 x55_2) t143 t144 _ A36.out).mono ?_); rintro e w52 ⟨rfl, hb⟩; refine ⟨_, rfl, ?_⟩; have n0_ := Aside0.mk (Kd.R_below (by (with_reducible repeat (first | apply Kd.R_alloc | apply Kd.R_drewN | apply Kd.R_drew)); exact HO_53.out) hb); have n1_ := Aside0.mk (below_step (by repeat (first | (with_reducible first | exact HB.out | apply below_alloc | apply pw_below_drewN | apply below_drew1) | exact HB.out)) hb); clear HO_53; clear HB; have HO_53 := n0_; have HB := n1_; clear n0_ n1_; (try clear hb); (try clear hb2); (try clear hk); (try clear hi)) | ((with_reducible refine gate_callee (f := 20) rfl ?_); refine goesL_ (some 74) rfl rfl Try.func20 (by kernel_rfl) rfl #[.int .i64 a2, .int .i64 (wrap64 ((wrap64 (8 * ((rdOf ByteArray.empty y137 x55_2).size : Int))) + 1))] rfl (by (try simp only [List.map_toArray, List.map_cons, List.map_nil]); first | done | rfl | (simp only [List.length_drop, List.length_take]; rfl)) ?_; (with_reducible refine (omnibuslaw01_pick.calls a2 (wrap64 ((wrap64 (8 * ((rdOf ByteArray.empty y137 x55_2).size : Int))) + 1)) t145 _ A37.out).mono ?_); rintro e w' ⟨rfl, ⟨nd, rfl⟩⟩; refine ⟨_, rfl, ?_⟩) | (go_at_call 21; (with_reducible refine (crc_Burst.calls (rdOf ByteArray.empty y137 x55_2) a2 a3 t146 _ A41.out).mono ?_); rintro e w53 ⟨rfl, hb⟩; have n0_ := Aside0.mk (Kd.R_below (by (with_reducible repeat (first | apply Kd.R_alloc | apply Kd.R_drewN | apply Kd.R_drew)); exact HO_53.out) hb); have n1_ := Aside0.mk (below_step (by repeat (first | (with_reducible first | exact HB.out | apply below_alloc | apply pw_below_drewN | apply below_drew1) | exact HB.out)) hb); clear HO_53; clear HB; have HO_53 := n0_; have HB := n1_; clear n0_ n1_; (try clear hb); (try clear hb2); (try clear hk); (try clear hi)) | (go_at_call 17; (with_reducible refine (omnibusref01_Burst.calls (rdOf ByteArray.empty y137 x55_2) a2 a3 t147 _ A42.out).mono ?_); rintro e w54 ⟨rfl, hb⟩; have n0_ := Aside0.mk (Kd.R_below (by (with_reducible repeat (first | apply Kd.R_alloc | apply Kd.R_drewN | apply Kd.R_drew)); exact HO_53.out) hb); have n1_ := Aside0.mk (below_step (by repeat (first | (with_reducible first | exact HB.out | apply below_alloc | apply pw_below_drewN | apply below_drew1) | exact HB.out)) hb); clear HO_53; clear HB; have HO_53 := n0_; have HB := n1_; clear n0_ n1_; (try clear hb); (try clear hb2); (try clear hk); (try clear hi)) | (go_at_call 21; (with_reducible refine (crc_Burst.calls (rdOf ByteArray.empty y137 x55_2) t145 a3 t148 _ A44.out).mono ?_); rintro e w55 ⟨rfl, hb⟩; have n0_ := Aside0.mk (Kd.R_below (by (with_reducible repeat (first | apply Kd.R_alloc | apply Kd.R_drewN | apply Kd.R_drew)); exact HO_53.out) hb); have n1_ := Aside0.mk (below_step (by repeat (first | (with_reducible first | exact HB.out | apply below_alloc | apply pw_below_drewN | apply below_drew1) | exact HB.out)) hb); clear HO_53; clear HB; have HO_53 := n0_; have HB := n1_; clear n0_ n1_; (try clear hb); (try clear hb2); (try clear hk); (try clear hi)) | (go_at_call 17; (with_reducible refine (omnibusref01_Burst.calls (rdOf ByteArray.empty y137 x55_2) t145 a3 t149 _ A45.out).mono ?_); rintro e w56 ⟨rfl, hb⟩; have n0_ := Aside0.mk (Kd.R_below (by (with_reducible repeat (first | apply Kd.R_alloc | apply Kd.R_drewN | apply Kd.R_drew)); exact HO_53.out) hb); have n1_ := Aside0.mk (below_step (by repeat (first | (with_reducible first | exact HB.out | apply below_alloc | apply pw_below_drewN | apply below_drew1) | exact HB.out)) hb); clear HO_53; clear HB; have HO_53 := n0_; have HB := n1_; clear n0_ n1_; (try clear hb); (try clear hb2); (try clear hk); (try clear hi)))
                              go_ret
                              exact ⟨by first | rfl | (simp [errW_none, errW_some] <;> rfl) | (simp only [← hji6, ← hjs9]; first | rfl | (simp [errW_none, errW_some] <;> rfl)) | (simp [*, errW_none, errW_some] <;> rfl), by repeat (first | (with_reducible first | exact HB.out | apply below_alloc | apply pw_below_drewN | apply below_drew1) | exact HB.out)⟩
                          · rw [if_neg c43] at H
                            have c43b0 : (t146.toList == t147.toList) = false := beq_eq_false_iff_ne.mpr c43
                            have c43b1 : (t146.toList != t147.toList) = true := bne_iff_ne.mpr c43
                            obtain rfl := Option.some.inj H
                            have p140 : 0 ≤ (x55_2 : Int) := of_decide_eq_true (by first | (with_reducible assumption) | assumption)
                            have q140 : x55_2 < (y137.length : Int) := of_decide_eq_true (by first | (with_reducible assumption) | assumption)
                            obtain ⟨ad140, e140, hx140_0⟩ := Kd.at_string (Kd.R_reads' HO_53.out).2.2 x55_2 p140 q140
                            cases e140
                            replace p140 := eq_true p140
                            replace q140 := eq_true q140
                            go_wp2_with (first | ((with_reducible refine gate_callee (f := 18) rfl ?_); refine goesL_ (some 61) rfl rfl Try.func18 (by kernel_rfl) rfl #[.string (rdOf ByteArray.empty y137 x55_2)] rfl (by (try simp only [List.map_toArray, List.map_cons, List.map_nil]); first | done | rfl | (simp only [List.length_drop, List.length_take]; rfl)) ?_; (with_reducible refine (crc_Open.calls k2 (rdOf ByteArray.empty y137 x55_2) t141 t142 _ A35.out).mono ?_); rintro e w' ⟨rfl, ⟨nd, rfl⟩⟩; refine ⟨_, rfl, ?_⟩) | ((with_reducible refine gate_callee (f := 19) rfl ?_); refine goesL_ (some 66) rfl rfl Try.func19 (by kernel_rfl) rfl #[.string (rdOf ByteArray.empty y137 x55_2)] rfl (by (try simp only [List.map_toArray, List.map_cons, List.map_nil]); first | done | rfl | (simp only [List.length_drop, List.length_take]; rfl)) ?_; (with_reducible refine (omnibusref01_Open.calls k2 (rdOf ByteArray.empty y137 x55_2) t143 t144 _ A36.out).mono ?_); rintro e w57 ⟨rfl, hb⟩; refine ⟨_, rfl, ?_⟩; have n0_ := Aside0.mk (Kd.R_below (by (with_reducible repeat (first | apply Kd.R_alloc | apply Kd.R_drewN | apply Kd.R_drew)); exact HO_53.out) hb); have n1_ := Aside0.mk (below_step (by repeat (first | (with_reducible first | exact HB.out | apply below_alloc | apply pw_below_drewN | apply below_drew1) | exact HB.out)) hb); clear HO_53; clear HB; have HO_53 := n0_; have HB := n1_; clear n0_ n1_; (try clear hb); (try clear hb2); (try clear hk); (try clear hi)) | ((with_reducible refine gate_callee (f := 20) rfl ?_); refine goesL_ (some 74) rfl rfl Try.func20 (by kernel_rfl) rfl #[.int .i64 a2, .int .i64 (wrap64 ((wrap64 (8 * ((rdOf ByteArray.empty y137 x55_2).size : Int))) + 1))] rfl (by (try simp only [List.map_toArray, List.map_cons, List.map_nil]); first | done | rfl | (simp only [List.length_drop, List.length_take]; rfl)) ?_; (with_reducible refine (omnibuslaw01_pick.calls a2 (wrap64 ((wrap64 (8 * ((rdOf ByteArray.empty y137 x55_2).size : Int))) + 1)) t145 _ A37.out).mono ?_); rintro e w' ⟨rfl, ⟨nd, rfl⟩⟩; refine ⟨_, rfl, ?_⟩) | (go_at_call 21; (with_reducible refine (crc_Burst.calls (rdOf ByteArray.empty y137 x55_2) a2 a3 t146 _ A41.out).mono ?_); rintro e w58 ⟨rfl, hb⟩; have n0_ := Aside0.mk (Kd.R_below (by (with_reducible repeat (first | apply Kd.R_alloc | apply Kd.R_drewN | apply Kd.R_drew)); exact HO_53.out) hb); have n1_ := Aside0.mk (below_step (by repeat (first | (with_reducible first | exact HB.out | apply below_alloc | apply pw_below_drewN | apply below_drew1) | exact HB.out)) hb); clear HO_53; clear HB; have HO_53 := n0_; have HB := n1_; clear n0_ n1_; (try clear hb); (try clear hb2); (try clear hk); (try clear hi)) | (go_at_call 17; (with_reducible refine (omnibusref01_Burst.calls (rdOf ByteArray.empty y137 x55_2) a2 a3 t147 _ A42.out).mono ?_); rintro e w59 ⟨rfl, hb⟩; have n0_ := Aside0.mk (Kd.R_below (by (with_reducible repeat (first | apply Kd.R_alloc | apply Kd.R_drewN | apply Kd.R_drew)); exact HO_53.out) hb); have n1_ := Aside0.mk (below_step (by repeat (first | (with_reducible first | exact HB.out | apply below_alloc | apply pw_below_drewN | apply below_drew1) | exact HB.out)) hb); clear HO_53; clear HB; have HO_53 := n0_; have HB := n1_; clear n0_ n1_; (try clear hb); (try clear hb2); (try clear hk); (try clear hi)))
                            go_ret
                            exact ⟨by first | rfl | (simp [errW_none, errW_some] <;> rfl) | (simp only [← hji6, ← hjs9]; first | rfl | (simp [errW_none, errW_some] <;> rfl)) | (simp [*, errW_none, errW_some] <;> rfl), by repeat (first | (with_reducible first | exact HB.out | apply below_alloc | apply pw_below_drewN | apply below_drew1) | exact HB.out)⟩
                      · rw [if_neg c38] at H
                        have c38b0 : (t141.toList == t143.toList) = false := beq_eq_false_iff_ne.mpr c38
                        have c38b1 : (t141.toList != t143.toList) = true := bne_iff_ne.mpr c38
                        obtain rfl := Option.some.inj H
                        have p140 : 0 ≤ (x55_2 : Int) := of_decide_eq_true (by first | (with_reducible assumption) | assumption)
                        have q140 : x55_2 < (y137.length : Int) := of_decide_eq_true (by first | (with_reducible assumption) | assumption)
                        obtain ⟨ad140, e140, hx140_0⟩ := Kd.at_string (Kd.R_reads' HO_53.out).2.2 x55_2 p140 q140
                        cases e140
                        replace p140 := eq_true p140
                        replace q140 := eq_true q140
                        go_wp2_with (first | ((with_reducible refine gate_callee (f := 18) rfl ?_); refine goesL_ (some 61) rfl rfl Try.func18 (by kernel_rfl) rfl #[.string (rdOf ByteArray.empty y137 x55_2)] rfl (by (try simp only [List.map_toArray, List.map_cons, List.map_nil]); first | done | rfl | (simp only [List.length_drop, List.length_take]; rfl)) ?_; (with_reducible refine (crc_Open.calls k2 (rdOf ByteArray.empty y137 x55_2) t141 t142 _ A35.out).mono ?_); rintro e w' ⟨rfl, ⟨nd, rfl⟩⟩; refine ⟨_, rfl, ?_⟩) | ((with_reducible refine gate_callee (f := 19) rfl ?_); refine goesL_ (some 66) rfl rfl Try.func19 (by kernel_rfl) rfl #[.string (rdOf ByteArray.empty y137 x55_2)] rfl (by (try simp only [List.map_toArray, List.map_cons, List.map_nil]); first | done | rfl | (simp only [List.length_drop, List.length_take]; rfl)) ?_; (with_reducible refine (omnibusref01_Open.calls k2 (rdOf ByteArray.empty y137 x55_2) t143 t144 _ A36.out).mono ?_); rintro e w60 ⟨rfl, hb⟩; refine ⟨_, rfl, ?_⟩; have n0_ := Aside0.mk (Kd.R_below (by (with_reducible repeat (first | apply Kd.R_alloc | apply Kd.R_drewN | apply Kd.R_drew)); exact HO_53.out) hb); have n1_ := Aside0.mk (below_step (by repeat (first | (with_reducible first | exact HB.out | apply below_alloc | apply pw_below_drewN | apply below_drew1) | exact HB.out)) hb); clear HO_53; clear HB; have HO_53 := n0_; have HB := n1_; clear n0_ n1_; (try clear hb); (try clear hb2); (try clear hk); (try clear hi)) | ((with_reducible refine gate_callee (f := 20) rfl ?_); refine goesL_ (some 74) rfl rfl Try.func20 (by kernel_rfl) rfl #[.int .i64 a2, .int .i64 (wrap64 ((wrap64 (8 * ((rdOf ByteArray.empty y137 x55_2).size : Int))) + 1))] rfl (by (try simp only [List.map_toArray, List.map_cons, List.map_nil]); first | done | rfl | (simp only [List.length_drop, List.length_take]; rfl)) ?_; (with_reducible refine (omnibuslaw01_pick.calls a2 (wrap64 ((wrap64 (8 * ((rdOf ByteArray.empty y137 x55_2).size : Int))) + 1)) t145 _ A37.out).mono ?_); rintro e w' ⟨rfl, ⟨nd, rfl⟩⟩; refine ⟨_, rfl, ?_⟩))
                        go_ret
                        exact ⟨by first | rfl | (simp [errW_none, errW_some] <;> rfl) | (simp only [← hji6, ← hjs9]; first | rfl | (simp [errW_none, errW_some] <;> rfl)) | (simp [*, errW_none, errW_some] <;> rfl), by repeat (first | (with_reducible first | exact HB.out | apply below_alloc | apply pw_below_drewN | apply below_drew1) | exact HB.out)⟩
                    · rw [if_neg c34] at H
                      exact absurd H (by simp)
                  · rw [if_neg c33] at H
                    exact absurd H (by simp)
                · rw [if_neg c32] at H
                  have c32b0 : decide (x55_2 < (y137.length : Int)) = false := decide_eq_false c32
                  clear c32
                  obtain rfl := Option.some.inj H
                  go_wp2
                  go_ret
                  exact ⟨by first | rfl | (simp [errW_none, errW_some] <;> rfl) | (simp only [← hji6, ← hjs9]; first | rfl | (simp [errW_none, errW_some] <;> rfl)) | (simp [*, errW_none, errW_some] <;> rfl), by repeat (first | (with_reducible first | exact HB.out | apply below_alloc | apply pw_below_drewN | apply below_drew1) | exact HB.out)⟩
    · rw [if_neg c8] at H
      exact absurd H (by simp)
  · rw [if_neg c7] at H
    exact absurd H (by simp)

/-- THE ONE PURE STATEMENT of omnibuslaw01_CrcTells: yours. -/
def omnibuslaw01_CrcTells.Pure : Prop := ∀ (a0 : Int) (a1 : ByteArray) (a2 : Int) (a3 : Int), (Lit.int .i64 a0).wf = true → a1.size ≤ 140737488351232 → (Lit.int .i64 a2).wf = true → (Lit.int .i64 a3).wf = true → ∃ k, omnibuslaw01_CrcTells.f k a0 a1 a2 a3 = some true
theorem omnibuslaw01_CrcTells.walk (P : omnibuslaw01_CrcTells.Pure) (a0 : Int) (a1 : ByteArray) (a2 : Int) (a3 : Int) (w : World) (w0 : (Lit.int .i64 a0).wf = true) (w1 : a1.size ≤ 140737488351232) (w2 : (Lit.int .i64 a2).wf = true) (w3 : (Lit.int .i64 a3).wf = true) :
    Calls Try.prog 3 #[.int .i64 a0, .string a1, .int .i64 a2, .int .i64 a3] w fun e w' => e = .returned (.bool true) ∧ Below w.heap.size w w' := by
  obtain ⟨k, h⟩ := P a0 a1 a2 a3 w0 w1 w2 w3
  refine (omnibuslaw01_CrcTells.calls k a0 a1 a2 a3 true w h).mono ?_
  rintro e w' ⟨rfl, hd⟩
  exact ⟨rfl, hd⟩

end Go.Proofs.Ythnnnhbfhimkpaa.R
