/- Go functions as Lean functions, each with a proof that the machine's call comes to what its Lean function tells; no condition beside those that each theorem states. Written by this project's program drive.py. -/
import Derived.Test.YthnnnhbfhimkpaaQx0
import Derived.Test.YthnnnhbfhimkpaaQx3
import Derived.Test.YthnnnhbfhimkpaaQx4
import Derived.Test.YthnnnhbfhimkpaaQx7
namespace Go.Proofs.Ythnnnhbfhimkpaa.Q
open Go.RowKit Go.Proofs.YthnnnhbfhimkpaaW.PrintWords Go.Proofs.YthnnnhbfhimkpaaW.PrintLast Go.Proofs.YthnnnhbfhimkpaaW.PrintMore
attribute [local go_sem] max2_int min2_int max_two min_two max_three min_three max_four min_four   -- for this text's walks alone
set_option linter.unusedVariables false
set_option linter.unusedSimpArgs false

/-! ### omnibuslaw01_CrcBits: function 8 -/
def omnibuslaw01_CrcBits.l0 : Nat → Bool → ByteArray → Int → ByteArray → Int → Option (Bool)
  | 0, _, _, _, _, _ => none
  | k + 1, x5, x6, x7, x8, x9 => if x9 < (x6.size : Int) then (if 0 ≤ x9 then (if x9 = (wrap64 (Int.tdiv x7 8)) then (if 0 ≤ (Int.tmod x7 8) then (if x9 < (x8.size : Int) then (if (bt x8 x9) = (Go.bits .xor .u8 (bt x6 x9) (shr .u8 128 (Int.tmod x7 8))) then (omnibuslaw01_CrcBits.l0 k x5 x6 x7 x8 (wrap64 (x9 + 1))) else (some false)) else (none)) else (none)) else (if x9 < (x8.size : Int) then (if (bt x8 x9) = (bt x6 x9) then (omnibuslaw01_CrcBits.l0 k x5 x6 x7 x8 (wrap64 (x9 + 1))) else (some false)) else (none))) else (none)) else (if x5 = true then ((crc_Burst.f x8 (wrap64 (x7 + 1)) 32768).bind fun t182 => ((crc_Burst.f x6 x7 49152).bind fun t183 => (if t182.toList = t183.toList then ((crc_Burst.f x6 x7 0).bind fun t184 => (some (t184.toList == x6.toList))) else (some false)))) else (some false))
def omnibuslaw01_CrcBits.f (k : Nat) (a0 : ByteArray) (a1 : Int) : Option (Bool) := (omnibuslaw01_awake.f k).bind fun t179 => (if a0.size + 1 ≤ 9223372036854775807 then (if 0 ≤ (mn (wrap64 ((a0.size : Int) + 1)) 300) then (if (mn (wrap64 ((a0.size : Int) + 1)) 300) ≤ ((a0 ++ (⟨#[120]⟩ : ByteArray)).size : Int) then ((omnibuslaw01_pick.f a1 (wrap64 (8 * (((a0 ++ (⟨#[120]⟩ : ByteArray)).extract 0 ((mn (wrap64 ((a0.size : Int) + 1)) 300) : Int).toNat).size : Int)))).bind fun t180 => ((crc_Burst.f ((a0 ++ (⟨#[120]⟩ : ByteArray)).extract 0 ((mn (wrap64 ((a0.size : Int) + 1)) 300) : Int).toNat) t180 32768).bind fun t181 => (if (t181.size : Int) = (((a0 ++ (⟨#[120]⟩ : ByteArray)).extract 0 ((mn (wrap64 ((a0.size : Int) + 1)) 300) : Int).toNat).size : Int) then (omnibuslaw01_CrcBits.l0 k t179 ((a0 ++ (⟨#[120]⟩ : ByteArray)).extract 0 ((mn (wrap64 ((a0.size : Int) + 1)) 300) : Int).toNat) t180 t181 0) else (some false)))) else (none)) else (none)) else (none))
theorem omnibuslaw01_CrcBits.mono_l : ∀ k, (∀ y0 y1 y2 y3 y4, LeO (omnibuslaw01_CrcBits.l0 k y0 y1 y2 y3 y4) (omnibuslaw01_CrcBits.l0 (k + 1) y0 y1 y2 y3 y4))
  | 0 => fun _ _ _ _ _ r h => by simp [omnibuslaw01_CrcBits.l0] at h
  | k + 1 => by
    have ih0 := omnibuslaw01_CrcBits.mono_l k
    · intro y0 y1 y2 y3 y4
      unfold omnibuslaw01_CrcBits.l0
      repeat' first
      | (with_reducible exact ih0 _ _ _ _ _)
      | (with_reducible exact omnibuslaw01_awake.mono _)
      | (with_reducible exact LeO.refl _)
      | (with_reducible exact LeO.none _)
      | (with_reducible refine LeO.ite ?_ ?_)
      | (with_reducible refine LeO.bind ?_ (fun _ => ?_))
      | exact ih0 _ _ _ _ _
      | exact omnibuslaw01_awake.mono _
      | exact LeO.none _
      | refine LeO.ite ?_ ?_
      | refine LeO.bind ?_ (fun _ => ?_)
theorem omnibuslaw01_CrcBits.mono : ∀ a0 a1 k, LeO (omnibuslaw01_CrcBits.f k a0 a1) (omnibuslaw01_CrcBits.f (k + 1) a0 a1) := by
  intro a0 a1 k
  have ih0 := omnibuslaw01_CrcBits.mono_l k
  unfold omnibuslaw01_CrcBits.f
  repeat' first
      | (with_reducible exact ih0 _ _ _ _ _)
      | (with_reducible exact omnibuslaw01_awake.mono _)
      | (with_reducible exact LeO.refl _)
      | (with_reducible exact LeO.none _)
      | (with_reducible refine LeO.ite ?_ ?_)
      | (with_reducible refine LeO.bind ?_ (fun _ => ?_))
      | exact ih0 _ _ _ _ _
      | exact omnibuslaw01_awake.mono _
      | exact LeO.none _
      | refine LeO.ite ?_ ?_
      | refine LeO.bind ?_ (fun _ => ?_)
set_option maxHeartbeats 8000000 in
set_option maxRecDepth 100000 in
theorem omnibuslaw01_CrcBits.calls (k : Nat) (a0 : ByteArray) (a1 : Int) (r : Bool) (w : World) (h : omnibuslaw01_CrcBits.f k a0 a1 = some r) :
    Calls Try.prog 8 #[.string a0, .int .i64 a1] w fun e w' => e = .returned (.bool r) ∧ Below w.heap.size w w' := by
  have HB := Aside0.mk (Below.refl w.heap.size w)
  have H : ((omnibuslaw01_awake.f k).bind fun t179 => (if a0.size + 1 ≤ 9223372036854775807 then (if 0 ≤ (mn (wrap64 ((a0.size : Int) + 1)) 300) then (if (mn (wrap64 ((a0.size : Int) + 1)) 300) ≤ ((a0 ++ (⟨#[120]⟩ : ByteArray)).size : Int) then ((omnibuslaw01_pick.f a1 (wrap64 (8 * (((a0 ++ (⟨#[120]⟩ : ByteArray)).extract 0 ((mn (wrap64 ((a0.size : Int) + 1)) 300) : Int).toNat).size : Int)))).bind fun t180 => ((crc_Burst.f ((a0 ++ (⟨#[120]⟩ : ByteArray)).extract 0 ((mn (wrap64 ((a0.size : Int) + 1)) 300) : Int).toNat) t180 32768).bind fun t181 => (if (t181.size : Int) = (((a0 ++ (⟨#[120]⟩ : ByteArray)).extract 0 ((mn (wrap64 ((a0.size : Int) + 1)) 300) : Int).toNat).size : Int) then (omnibuslaw01_CrcBits.l0 k t179 ((a0 ++ (⟨#[120]⟩ : ByteArray)).extract 0 ((mn (wrap64 ((a0.size : Int) + 1)) 300) : Int).toNat) t180 t181 0) else (some false)))) else (none)) else (none)) else (none))) = some r := h
  clear h
  replace H := Option.bind_eq_some_iff.mp H
  obtain ⟨t179, A30, H⟩ := H
  replace H : (if a0.size + 1 ≤ 9223372036854775807 then (if 0 ≤ (mn (wrap64 ((a0.size : Int) + 1)) 300) then (if (mn (wrap64 ((a0.size : Int) + 1)) 300) ≤ ((a0 ++ (⟨#[120]⟩ : ByteArray)).size : Int) then ((omnibuslaw01_pick.f a1 (wrap64 (8 * (((a0 ++ (⟨#[120]⟩ : ByteArray)).extract 0 ((mn (wrap64 ((a0.size : Int) + 1)) 300) : Int).toNat).size : Int)))).bind fun t180 => ((crc_Burst.f ((a0 ++ (⟨#[120]⟩ : ByteArray)).extract 0 ((mn (wrap64 ((a0.size : Int) + 1)) 300) : Int).toNat) t180 32768).bind fun t181 => (if (t181.size : Int) = (((a0 ++ (⟨#[120]⟩ : ByteArray)).extract 0 ((mn (wrap64 ((a0.size : Int) + 1)) 300) : Int).toNat).size : Int) then (omnibuslaw01_CrcBits.l0 k t179 ((a0 ++ (⟨#[120]⟩ : ByteArray)).extract 0 ((mn (wrap64 ((a0.size : Int) + 1)) 300) : Int).toNat) t180 t181 0) else (some false)))) else (none)) else (none)) else (none)) = some r := H
  have A3 := Aside0.mk A30
  clear A30
  by_cases c4 : a0.size + 1 ≤ 9223372036854775807
  · rw [if_pos c4] at H
    have c4b0 := eq_true c4
    have c4b1 : decide (a0.size + 1 ≤ 9223372036854775807) = true := decide_eq_true c4
    try have c4b2 : (9223372036854775807 < a0.size + 1) = False := eq_false (Nat.not_lt.2 c4)
    obtain ⟨js5, hjs5⟩ : ∃ j_ : ByteArray, (a0 ++ (⟨#[120]⟩ : ByteArray)) = j_ := ⟨_, rfl⟩
    replace H : (if 0 ≤ (mn (wrap64 ((a0.size : Int) + 1)) 300) then (if (mn (wrap64 ((a0.size : Int) + 1)) 300) ≤ (js5.size : Int) then ((omnibuslaw01_pick.f a1 (wrap64 (8 * ((js5.extract 0 ((mn (wrap64 ((a0.size : Int) + 1)) 300) : Int).toNat).size : Int)))).bind fun t180 => ((crc_Burst.f (js5.extract 0 ((mn (wrap64 ((a0.size : Int) + 1)) 300) : Int).toNat) t180 32768).bind fun t181 => (if (t181.size : Int) = ((js5.extract 0 ((mn (wrap64 ((a0.size : Int) + 1)) 300) : Int).toNat).size : Int) then (omnibuslaw01_CrcBits.l0 k t179 (js5.extract 0 ((mn (wrap64 ((a0.size : Int) + 1)) 300) : Int).toNat) t180 t181 0) else (some false)))) else (none)) else (none)) = some r := by first | (rw [hjs5] at H; exact H) | (simp only [hjs5] at H ⊢; exact H) | exact H
    (try rw [hjs5] at A3)
    obtain ⟨ji6, hji6⟩ : ∃ j_ : Int, (mn (wrap64 ((a0.size : Int) + 1)) 300) = j_ := ⟨_, rfl⟩
    replace H : (if 0 ≤ (ji6) then (if (ji6) ≤ (js5.size : Int) then ((omnibuslaw01_pick.f a1 (wrap64 (8 * ((js5.extract 0 ((ji6) : Int).toNat).size : Int)))).bind fun t180 => ((crc_Burst.f (js5.extract 0 ((ji6) : Int).toNat) t180 32768).bind fun t181 => (if (t181.size : Int) = ((js5.extract 0 ((ji6) : Int).toNat).size : Int) then (omnibuslaw01_CrcBits.l0 k t179 (js5.extract 0 ((ji6) : Int).toNat) t180 t181 0) else (some false)))) else (none)) else (none)) = some r := by first | (rw [hji6] at H; exact H) | (simp only [hji6] at H ⊢; exact H)
    (try rw [hji6] at A3)
    (try (have hji6h : ji6 ≤ 300 := by (rw [← hji6]; unfold mn; (repeat' split) <;> omega)))
    (try (have hji6g : ji6 ≤ 64 := by omega))
    have hji6_ : (if 300 < (wrap64 ((a0.size : Int) + 1)) then 300 else (wrap64 ((a0.size : Int) + 1))) = ji6 := hji6
    (try (have hji6u_ : (if 300 < ((a0.size : Int) + 1) then 300 else ((a0.size : Int) + 1)) = ji6 := by (have e0_ : wrap64 ((a0.size : Int) + 1) = ((a0.size : Int) + 1) := (by (unfold wrap64; omega)); rw [e0_] at hji6_; exact hji6_)))
    by_cases c7 : 0 ≤ (ji6)
    · rw [if_pos c7] at H
      have c7b0 := eq_true c7
      have c7b1 : decide (0 ≤ (ji6)) = true := decide_eq_true c7
      clear c7
      by_cases c8 : (ji6) ≤ (js5.size : Int)
      · rw [if_pos c8] at H
        have c8b0 := eq_true c8
        have c8b1 : decide ((ji6) ≤ (js5.size : Int)) = true := decide_eq_true c8
        clear c8
        obtain ⟨js9, hjs9⟩ : ∃ j_ : ByteArray, (js5.extract 0 ((ji6) : Int).toNat) = j_ := ⟨_, rfl⟩
        replace H : ((omnibuslaw01_pick.f a1 (wrap64 (8 * (js9.size : Int)))).bind fun t180 => ((crc_Burst.f js9 t180 32768).bind fun t181 => (if (t181.size : Int) = (js9.size : Int) then (omnibuslaw01_CrcBits.l0 k t179 js9 t180 t181 0) else (some false)))) = some r := by first | (rw [hjs9] at H; exact H) | (simp only [hjs9] at H ⊢; exact H) | exact H
        (try rw [hjs9] at A3)
        replace H := Option.bind_eq_some_iff.mp H
        obtain ⟨t180, A100, H⟩ := H
        replace H : ((crc_Burst.f js9 t180 32768).bind fun t181 => (if (t181.size : Int) = (js9.size : Int) then (omnibuslaw01_CrcBits.l0 k t179 js9 t180 t181 0) else (some false))) = some r := H
        have A10 := Aside0.mk A100
        clear A100
        replace H := Option.bind_eq_some_iff.mp H
        obtain ⟨t181, A110, H⟩ := H
        replace H : (if (t181.size : Int) = (js9.size : Int) then (omnibuslaw01_CrcBits.l0 k t179 js9 t180 t181 0) else (some false)) = some r := H
        have A11 := Aside0.mk A110
        clear A110
        by_cases c12 : (t181.size : Int) = (js9.size : Int)
        · rw [if_pos c12] at H
          have c12b0 : ((t181.size : Int) == (js9.size : Int)) = true := beq_iff_eq.mpr c12
          have c12b1 : ((t181.size : Int) != (js9.size : Int)) = false := bne_eq_false_iff_eq.mpr c12
          have c12b2 : (t181.size == js9.size) = true := by first | simpa using c12 | (simp at c12 ⊢; omega)
          clear c12
          have H' := Aside0.mk H
          clear H
          go_enter Try.func8, Try.ntmps8
          go_wp2_with (first | ((with_reducible refine gate_callee (f := 10) rfl ?_); refine goesL_ (some 11) rfl rfl Try.func10 (by kernel_rfl) rfl #[] rfl (by (try simp only [List.map_toArray, List.map_cons, List.map_nil]); first | done | rfl | (simp only [List.length_drop, List.length_take]; rfl)) ?_; (with_reducible refine (omnibuslaw01_awake.calls k  t179 _ A3.out).mono ?_); rintro e w13 ⟨rfl, hb⟩; refine ⟨_, rfl, ?_⟩; have n0_ := Aside0.mk (below_step (by repeat (first | (with_reducible first | exact HB.out | apply below_alloc | apply pw_below_drewN | apply below_drew1) | exact HB.out)) hb); clear HB; have HB := n0_; clear n0_; (try clear hb); (try clear hb2); (try clear hk); (try clear hi)) | ((with_reducible refine gate_callee (f := 20) rfl ?_); refine goesL_ (some 23) rfl rfl Try.func20 (by kernel_rfl) rfl #[.int .i64 a1, .int .i64 (wrap64 (8 * (js9.size : Int)))] rfl (by (try simp only [List.map_toArray, List.map_cons, List.map_nil]); first | done | rfl | (simp only [List.length_drop, List.length_take]; rfl)) ?_; (with_reducible refine (omnibuslaw01_pick.calls a1 (wrap64 (8 * (js9.size : Int))) t180 _ A10.out).mono ?_); rintro e w' ⟨rfl, ⟨nd, rfl⟩⟩; refine ⟨_, rfl, ?_⟩) | ((with_reducible refine gate_callee (f := 21) rfl ?_); refine goesL_ (some 26) rfl rfl Try.func21 (by kernel_rfl) rfl #[.string js9, .int .i64 t180, .int .i64 32768] rfl (by (try simp only [List.map_toArray, List.map_cons, List.map_nil]); first | done | rfl | (simp only [List.length_drop, List.length_take]; rfl)) ?_; (with_reducible refine (crc_Burst.calls js9 t180 32768 t181 _ A11.out).mono ?_); rintro e w14 ⟨rfl, hb⟩; refine ⟨_, rfl, ?_⟩; have n0_ := Aside0.mk (below_step (by repeat (first | (with_reducible first | exact HB.out | apply below_alloc | apply pw_below_drewN | apply below_drew1) | exact HB.out)) hb); clear HB; have HB := n0_; clear n0_; (try clear hb); (try clear hb2); (try clear hk); (try clear hi)))
          go_loopg [9] k (fun kq v9 w' => ∃ (x9_1 : Int), v9 = .int .i64 x9_1 ∧ Aside0 (omnibuslaw01_CrcBits.l0 kq t179 js9 t180 t181 x9_1 = some r) ∧ Aside0 (kq ≤ k) ∧ Aside0 (Below w.heap.size w w'))
          case atStart => exact ⟨(0), (by first | rfl | (simp; done) | (simp [*]; done)), H', ⟨Nat.le_refl _⟩, ⟨by repeat (first | (with_reducible first | exact HB.out | apply below_alloc | apply pw_below_drewN | apply below_drew1) | exact HB.out)⟩⟩
          case round =>
            clear H'
            try clear c1
            try clear c2
            try clear p2
            try clear c4
            try clear c4b0
            try clear c4b1
            try clear c4b2
            try clear p6
            try clear c7
            try clear c7b0
            try clear c7b1
            try clear c8
            try clear c8b0
            try clear c8b1
            try clear c10
            try clear c12
            try clear c12b0
            try clear c12b1
            try clear c12b2
            obtain ⟨x9_1, rfl, HA, HK1, HB⟩ := hrel
            cases gk with
            | zero => exact absurd HA.out (by simp [omnibuslaw01_CrcBits.l0])
            | succ k1 =>
              have H := HA.out
              clear HA
              simp only [omnibuslaw01_CrcBits.l0] at H
              by_cases c15 : x9_1 < (js9.size : Int)
              · rw [if_pos c15] at H
                have c15b0 : decide (x9_1 < (js9.size : Int)) = true := decide_eq_true c15
                clear c15
                by_cases c16 : 0 ≤ x9_1
                · rw [if_pos c16] at H
                  have c16b0 : decide (0 ≤ x9_1) = true := decide_eq_true c16
                  clear c16
                  by_cases c18 : x9_1 = (wrap64 (Int.tdiv t180 8))
                  · rw [if_pos c18] at H
                    have c18b0 : (x9_1 == (wrap64 (Int.tdiv t180 8))) = true := beq_iff_eq.mpr c18
                    have c18b1 : (x9_1 != (wrap64 (Int.tdiv t180 8))) = false := bne_eq_false_iff_eq.mpr c18
                    clear c18
                    obtain ⟨ji19, hji19⟩ : ∃ j_ : Int, (Int.tmod t180 8) = j_ := ⟨_, rfl⟩
                    replace H : (if 0 ≤ (ji19) then (if x9_1 < (t181.size : Int) then (if (bt t181 x9_1) = (Go.bits .xor .u8 (bt js9 x9_1) (shr .u8 128 (ji19))) then (omnibuslaw01_CrcBits.l0 k1 t179 js9 t180 t181 (wrap64 (x9_1 + 1))) else (some false)) else (none)) else (none)) = some r := by first | (rw [hji19] at H; exact H) | (simp only [hji19] at H ⊢; exact H)
                    by_cases c20 : 0 ≤ (ji19)
                    · rw [if_pos c20] at H
                      have c20b0 := eq_true c20
                      have c20b1 : decide (0 ≤ (ji19)) = true := decide_eq_true c20
                      clear c20
                      obtain ⟨ji21, hji21⟩ : ∃ j_ : Int, (shr .u8 128 (ji19)) = j_ := ⟨_, rfl⟩
                      replace H : (if x9_1 < (t181.size : Int) then (if (bt t181 x9_1) = (Go.bits .xor .u8 (bt js9 x9_1) (ji21)) then (omnibuslaw01_CrcBits.l0 k1 t179 js9 t180 t181 (wrap64 (x9_1 + 1))) else (some false)) else (none)) = some r := by first | (rw [hji21] at H; exact H) | (simp only [hji21] at H ⊢; exact H)
                      have hji21_ : (128 / 2 ^ min (ji19).toNat 8) = ji21 := hji21
                      have hji21z : (ji19) ≤ 8 → (128 / 2 ^ (ji19).toNat) = ji21 := shr_small hji21
                      by_cases c22 : x9_1 < (t181.size : Int)
                      · rw [if_pos c22] at H
                        have c22b0 : decide (x9_1 < (t181.size : Int)) = true := decide_eq_true c22
                        clear c22
                        by_cases c24 : (bt t181 x9_1) = (Go.bits .xor .u8 (bt js9 x9_1) (ji21))
                        · rw [if_pos c24] at H
                          have c24b0 : ((bt t181 x9_1) == (Go.bits .xor .u8 (bt js9 x9_1) (ji21))) = true := beq_iff_eq.mpr c24
                          have c24b1 : ((bt t181 x9_1) != (Go.bits .xor .u8 (bt js9 x9_1) (ji21))) = false := bne_eq_false_iff_eq.mpr c24
                          clear c24
                          have H' := Aside0.mk H
                          clear H
                          have p17 : 0 ≤ (x9_1 : Int) := of_decide_eq_true (by first | (with_reducible assumption) | assumption)
                          have q17 : x9_1 < (js9.size : Int) := of_decide_eq_true (by first | (with_reducible assumption) | assumption)
                          have hx17 := bt_at js9 x9_1
                          replace p17 := eq_true p17
                          replace q17 := eq_true q17
                          have p23 : 0 ≤ (x9_1 : Int) := of_decide_eq_true (by first | (with_reducible assumption) | assumption)
                          have q23 : x9_1 < (t181.size : Int) := of_decide_eq_true (by first | (with_reducible assumption) | assumption)
                          have hx23 := bt_at t181 x9_1
                          replace p23 := eq_true p23
                          replace q23 := eq_true q23
                          go_wp2
                          go_roundg k1
                          case measure => have := HK1.out; omega
                          case rel => exact ⟨(wrap64 (x9_1 + 1)), (by first | rfl | (simp; done) | (simp [*]; done)), H', ⟨by have := HK1.out; omega⟩, ⟨by repeat (first | (with_reducible first | exact HB.out | apply below_alloc | apply pw_below_drewN | apply below_drew1) | exact HB.out)⟩⟩
                        · rw [if_neg c24] at H
                          have c24b0 : ((bt t181 x9_1) == (Go.bits .xor .u8 (bt js9 x9_1) (ji21))) = false := beq_eq_false_iff_ne.mpr c24
                          have c24b1 : ((bt t181 x9_1) != (Go.bits .xor .u8 (bt js9 x9_1) (ji21))) = true := bne_iff_ne.mpr c24
                          obtain rfl := Option.some.inj H
                          have p17 : 0 ≤ (x9_1 : Int) := of_decide_eq_true (by first | (with_reducible assumption) | assumption)
                          have q17 : x9_1 < (js9.size : Int) := of_decide_eq_true (by first | (with_reducible assumption) | assumption)
                          have hx17 := bt_at js9 x9_1
                          replace p17 := eq_true p17
                          replace q17 := eq_true q17
                          have p23 : 0 ≤ (x9_1 : Int) := of_decide_eq_true (by first | (with_reducible assumption) | assumption)
                          have q23 : x9_1 < (t181.size : Int) := of_decide_eq_true (by first | (with_reducible assumption) | assumption)
                          have hx23 := bt_at t181 x9_1
                          replace p23 := eq_true p23
                          replace q23 := eq_true q23
                          go_wp2
                          go_ret
                          exact ⟨by first | rfl | (simp [errW_none, errW_some] <;> rfl) | (simp only [← hjs5, ← hji6, ← hjs9, ← hji19, ← hji21]; first | rfl | (simp [errW_none, errW_some] <;> rfl)) | (simp [*, errW_none, errW_some] <;> rfl), by repeat (first | (with_reducible first | exact HB.out | apply below_alloc | apply pw_below_drewN | apply below_drew1) | exact HB.out)⟩
                      · rw [if_neg c22] at H
                        exact absurd H (by simp)
                    · rw [if_neg c20] at H
                      exact absurd H (by simp)
                  · rw [if_neg c18] at H
                    have c18b0 : (x9_1 == (wrap64 (Int.tdiv t180 8))) = false := beq_eq_false_iff_ne.mpr c18
                    have c18b1 : (x9_1 != (wrap64 (Int.tdiv t180 8))) = true := bne_iff_ne.mpr c18
                    by_cases c25 : x9_1 < (t181.size : Int)
                    · rw [if_pos c25] at H
                      have c25b0 : decide (x9_1 < (t181.size : Int)) = true := decide_eq_true c25
                      clear c25
                      by_cases c27 : (bt t181 x9_1) = (bt js9 x9_1)
                      · rw [if_pos c27] at H
                        have c27b0 : ((bt t181 x9_1) == (bt js9 x9_1)) = true := beq_iff_eq.mpr c27
                        have c27b1 : ((bt t181 x9_1) != (bt js9 x9_1)) = false := bne_eq_false_iff_eq.mpr c27
                        clear c27
                        have H' := Aside0.mk H
                        clear H
                        have p17 : 0 ≤ (x9_1 : Int) := of_decide_eq_true (by first | (with_reducible assumption) | assumption)
                        have q17 : x9_1 < (js9.size : Int) := of_decide_eq_true (by first | (with_reducible assumption) | assumption)
                        have hx17 := bt_at js9 x9_1
                        replace p17 := eq_true p17
                        replace q17 := eq_true q17
                        have p26 : 0 ≤ (x9_1 : Int) := of_decide_eq_true (by first | (with_reducible assumption) | assumption)
                        have q26 : x9_1 < (t181.size : Int) := of_decide_eq_true (by first | (with_reducible assumption) | assumption)
                        have hx26 := bt_at t181 x9_1
                        replace p26 := eq_true p26
                        replace q26 := eq_true q26
                        go_wp2
                        go_roundg k1
                        case measure => have := HK1.out; omega
                        case rel => exact ⟨(wrap64 (x9_1 + 1)), (by first | rfl | (simp; done) | (simp [*]; done)), H', ⟨by have := HK1.out; omega⟩, ⟨by repeat (first | (with_reducible first | exact HB.out | apply below_alloc | apply pw_below_drewN | apply below_drew1) | exact HB.out)⟩⟩
                      · rw [if_neg c27] at H
                        have c27b0 : ((bt t181 x9_1) == (bt js9 x9_1)) = false := beq_eq_false_iff_ne.mpr c27
                        have c27b1 : ((bt t181 x9_1) != (bt js9 x9_1)) = true := bne_iff_ne.mpr c27
                        obtain rfl := Option.some.inj H
                        have p17 : 0 ≤ (x9_1 : Int) := of_decide_eq_true (by first | (with_reducible assumption) | assumption)
                        have q17 : x9_1 < (js9.size : Int) := of_decide_eq_true (by first | (with_reducible assumption) | assumption)
                        have hx17 := bt_at js9 x9_1
                        replace p17 := eq_true p17
                        replace q17 := eq_true q17
                        have p26 : 0 ≤ (x9_1 : Int) := of_decide_eq_true (by first | (with_reducible assumption) | assumption)
                        have q26 : x9_1 < (t181.size : Int) := of_decide_eq_true (by first | (with_reducible assumption) | assumption)
                        have hx26 := bt_at t181 x9_1
                        replace p26 := eq_true p26
                        replace q26 := eq_true q26
                        go_wp2
                        go_ret
                        exact ⟨by first | rfl | (simp [errW_none, errW_some] <;> rfl) | (simp only [← hjs5, ← hji6, ← hjs9]; first | rfl | (simp [errW_none, errW_some] <;> rfl)) | (simp [*, errW_none, errW_some] <;> rfl), by repeat (first | (with_reducible first | exact HB.out | apply below_alloc | apply pw_below_drewN | apply below_drew1) | exact HB.out)⟩
                    · rw [if_neg c25] at H
                      exact absurd H (by simp)
                · rw [if_neg c16] at H
                  exact absurd H (by simp)
              · rw [if_neg c15] at H
                have c15b0 : decide (x9_1 < (js9.size : Int)) = false := decide_eq_false c15
                clear c15
                by_cases c28 : t179 = true
                · subst c28
                  have H1 : ((crc_Burst.f t181 (wrap64 (t180 + 1)) 32768).bind fun t182 => ((crc_Burst.f js9 t180 49152).bind fun t183 => (if t182.toList = t183.toList then ((crc_Burst.f js9 t180 0).bind fun t184 => (some (t184.toList == js9.toList))) else (some false)))) = some r := by rw [if_pos rfl] at H; exact H
                  clear H
                  have H := H1
                  clear H1
                  replace H := Option.bind_eq_some_iff.mp H
                  obtain ⟨t182, A290, H⟩ := H
                  replace H : ((crc_Burst.f js9 t180 49152).bind fun t183 => (if t182.toList = t183.toList then ((crc_Burst.f js9 t180 0).bind fun t184 => (some (t184.toList == js9.toList))) else (some false))) = some r := H
                  have A29 := Aside0.mk A290
                  clear A290
                  replace H := Option.bind_eq_some_iff.mp H
                  obtain ⟨t183, A300, H⟩ := H
                  replace H : (if t182.toList = t183.toList then ((crc_Burst.f js9 t180 0).bind fun t184 => (some (t184.toList == js9.toList))) else (some false)) = some r := H
                  have A30 := Aside0.mk A300
                  clear A300
                  by_cases c31 : t182.toList = t183.toList
                  · rw [if_pos c31] at H
                    have c31b0 : (t182.toList == t183.toList) = true := beq_iff_eq.mpr c31
                    have c31b1 : (t182.toList != t183.toList) = false := bne_eq_false_iff_eq.mpr c31
                    clear c31
                    replace H := Option.bind_eq_some_iff.mp H
                    obtain ⟨t184, A320, H⟩ := H
                    replace H : (some (t184.toList == js9.toList)) = some r := H
                    have A32 := Aside0.mk A320
                    clear A320
                    obtain rfl := Option.some.inj H
                    go_wp2_with (first | (go_at_call 21; (with_reducible refine (crc_Burst.calls t181 (wrap64 (t180 + 1)) 32768 t182 _ A29.out).mono ?_); rintro e w33 ⟨rfl, hb⟩; have n0_ := Aside0.mk (below_step (by repeat (first | (with_reducible first | exact HB.out | apply below_alloc | apply pw_below_drewN | apply below_drew1) | exact HB.out)) hb); clear HB; have HB := n0_; clear n0_; (try clear hb); (try clear hb2); (try clear hk); (try clear hi)) | (go_at_call 21; (with_reducible refine (crc_Burst.calls js9 t180 49152 t183 _ A30.out).mono ?_); rintro e w34 ⟨rfl, hb⟩; have n0_ := Aside0.mk (below_step (by repeat (first | (with_reducible first | exact HB.out | apply below_alloc | apply pw_below_drewN | apply below_drew1) | exact HB.out)) hb); clear HB; have HB := n0_; clear n0_; (try clear hb); (try clear hb2); (try clear hk); (try clear hi)) | (go_at_call 21; (with_reducible refine (crc_Burst.calls js9 t180 0 t184 _ A32.out).mono ?_); rintro e w35 ⟨rfl, hb⟩; have n0_ := Aside0.mk (below_step (by repeat (first | (with_reducible first | exact HB.out | apply below_alloc | apply pw_below_drewN | apply below_drew1) | exact HB.out)) hb); clear HB; have HB := n0_; clear n0_; (try clear hb); (try clear hb2); (try clear hk); (try clear hi)))
                    go_ret
                    exact ⟨by first | rfl | (simp [errW_none, errW_some] <;> rfl) | (simp only [← hjs5, ← hji6, ← hjs9]; first | rfl | (simp [errW_none, errW_some] <;> rfl)) | (simp [*, errW_none, errW_some] <;> rfl), by repeat (first | (with_reducible first | exact HB.out | apply below_alloc | apply pw_below_drewN | apply below_drew1) | exact HB.out)⟩
                  · rw [if_neg c31] at H
                    have c31b0 : (t182.toList == t183.toList) = false := beq_eq_false_iff_ne.mpr c31
                    have c31b1 : (t182.toList != t183.toList) = true := bne_iff_ne.mpr c31
                    obtain rfl := Option.some.inj H
                    go_wp2_with (first | (go_at_call 21; (with_reducible refine (crc_Burst.calls t181 (wrap64 (t180 + 1)) 32768 t182 _ A29.out).mono ?_); rintro e w36 ⟨rfl, hb⟩; have n0_ := Aside0.mk (below_step (by repeat (first | (with_reducible first | exact HB.out | apply below_alloc | apply pw_below_drewN | apply below_drew1) | exact HB.out)) hb); clear HB; have HB := n0_; clear n0_; (try clear hb); (try clear hb2); (try clear hk); (try clear hi)) | (go_at_call 21; (with_reducible refine (crc_Burst.calls js9 t180 49152 t183 _ A30.out).mono ?_); rintro e w37 ⟨rfl, hb⟩; have n0_ := Aside0.mk (below_step (by repeat (first | (with_reducible first | exact HB.out | apply below_alloc | apply pw_below_drewN | apply below_drew1) | exact HB.out)) hb); clear HB; have HB := n0_; clear n0_; (try clear hb); (try clear hb2); (try clear hk); (try clear hi)))
                    go_ret
                    exact ⟨by first | rfl | (simp [errW_none, errW_some] <;> rfl) | (simp only [← hjs5, ← hji6, ← hjs9]; first | rfl | (simp [errW_none, errW_some] <;> rfl)) | (simp [*, errW_none, errW_some] <;> rfl), by repeat (first | (with_reducible first | exact HB.out | apply below_alloc | apply pw_below_drewN | apply below_drew1) | exact HB.out)⟩
                · replace c28 := Bool.eq_false_iff.mpr c28
                  subst c28
                  have H1 : (some false) = some r := by rw [if_neg (show ¬ (false = true) by decide)] at H; exact H
                  clear H
                  have H := H1
                  clear H1
                  obtain rfl := Option.some.inj H
                  go_wp2
                  go_ret
                  exact ⟨by first | rfl | (simp [errW_none, errW_some] <;> rfl) | (simp only [← hjs5, ← hji6, ← hjs9]; first | rfl | (simp [errW_none, errW_some] <;> rfl)) | (simp [*, errW_none, errW_some] <;> rfl), by repeat (first | (with_reducible first | exact HB.out | apply below_alloc | apply pw_below_drewN | apply below_drew1) | exact HB.out)⟩
        · rw [if_neg c12] at H
          have c12b0 : ((t181.size : Int) == (js9.size : Int)) = false := beq_eq_false_iff_ne.mpr c12
          have c12b1 : ((t181.size : Int) != (js9.size : Int)) = true := bne_iff_ne.mpr c12
          have c12b2 : (t181.size == js9.size) = false := by first | simpa using c12 | (simp at c12 ⊢; omega)
          obtain rfl := Option.some.inj H
          go_enter Try.func8, Try.ntmps8
          go_wp2_with (first | ((with_reducible refine gate_callee (f := 10) rfl ?_); refine goesL_ (some 11) rfl rfl Try.func10 (by kernel_rfl) rfl #[] rfl (by (try simp only [List.map_toArray, List.map_cons, List.map_nil]); first | done | rfl | (simp only [List.length_drop, List.length_take]; rfl)) ?_; (with_reducible refine (omnibuslaw01_awake.calls k  t179 _ A3.out).mono ?_); rintro e w38 ⟨rfl, hb⟩; refine ⟨_, rfl, ?_⟩; have n0_ := Aside0.mk (below_step (by repeat (first | (with_reducible first | exact HB.out | apply below_alloc | apply pw_below_drewN | apply below_drew1) | exact HB.out)) hb); clear HB; have HB := n0_; clear n0_; (try clear hb); (try clear hb2); (try clear hk); (try clear hi)) | ((with_reducible refine gate_callee (f := 20) rfl ?_); refine goesL_ (some 23) rfl rfl Try.func20 (by kernel_rfl) rfl #[.int .i64 a1, .int .i64 (wrap64 (8 * (js9.size : Int)))] rfl (by (try simp only [List.map_toArray, List.map_cons, List.map_nil]); first | done | rfl | (simp only [List.length_drop, List.length_take]; rfl)) ?_; (with_reducible refine (omnibuslaw01_pick.calls a1 (wrap64 (8 * (js9.size : Int))) t180 _ A10.out).mono ?_); rintro e w' ⟨rfl, ⟨nd, rfl⟩⟩; refine ⟨_, rfl, ?_⟩) | ((with_reducible refine gate_callee (f := 21) rfl ?_); refine goesL_ (some 26) rfl rfl Try.func21 (by kernel_rfl) rfl #[.string js9, .int .i64 t180, .int .i64 32768] rfl (by (try simp only [List.map_toArray, List.map_cons, List.map_nil]); first | done | rfl | (simp only [List.length_drop, List.length_take]; rfl)) ?_; (with_reducible refine (crc_Burst.calls js9 t180 32768 t181 _ A11.out).mono ?_); rintro e w39 ⟨rfl, hb⟩; refine ⟨_, rfl, ?_⟩; have n0_ := Aside0.mk (below_step (by repeat (first | (with_reducible first | exact HB.out | apply below_alloc | apply pw_below_drewN | apply below_drew1) | exact HB.out)) hb); clear HB; have HB := n0_; clear n0_; (try clear hb); (try clear hb2); (try clear hk); (try clear hi)))
          go_ret
          exact ⟨by first | rfl | (simp [errW_none, errW_some] <;> rfl) | (simp only [← hjs5, ← hji6, ← hjs9]; first | rfl | (simp [errW_none, errW_some] <;> rfl)) | (simp [*, errW_none, errW_some] <;> rfl), by repeat (first | (with_reducible first | exact HB.out | apply below_alloc | apply pw_below_drewN | apply below_drew1) | exact HB.out)⟩
      · rw [if_neg c8] at H
        exact absurd H (by simp)
    · rw [if_neg c7] at H
      exact absurd H (by simp)
  · rw [if_neg c4] at H
    exact absurd H (by simp)

/-- THE ONE PURE STATEMENT of omnibuslaw01_CrcBits: yours. -/
def omnibuslaw01_CrcBits.Pure : Prop := ∀ (a0 : ByteArray) (a1 : Int), a0.size ≤ 140737488351232 → (Lit.int .i64 a1).wf = true → ∃ k, omnibuslaw01_CrcBits.f k a0 a1 = some true
theorem omnibuslaw01_CrcBits.walk (P : omnibuslaw01_CrcBits.Pure) (a0 : ByteArray) (a1 : Int) (w : World) (w0 : a0.size ≤ 140737488351232) (w1 : (Lit.int .i64 a1).wf = true) :
    Calls Try.prog 8 #[.string a0, .int .i64 a1] w fun e w' => e = .returned (.bool true) ∧ Below w.heap.size w w' := by
  obtain ⟨k, h⟩ := P a0 a1 w0 w1
  refine (omnibuslaw01_CrcBits.calls k a0 a1 true w h).mono ?_
  rintro e w' ⟨rfl, hd⟩
  exact ⟨rfl, hd⟩

end Go.Proofs.Ythnnnhbfhimkpaa.Q
