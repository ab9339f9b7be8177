/- Go functions as Lean functions, each with a proof that the machine's call comes to what its Lean function tells; no condition beside those that each theorem states. Written by this project's program drive.py. -/
import Derived.Test.YthnnnhbfhimkpaaSx0
namespace Go.Proofs.Ythnnnhbfhimkpaa.S
open Go.RowKit Go.Proofs.YthnnnhbfhimkpaaW.PrintWords Go.Proofs.YthnnnhbfhimkpaaW.PrintLast Go.Proofs.YthnnnhbfhimkpaaW.PrintMore
attribute [local go_sem] max2_int min2_int max_two min_two max_three min_three max_four min_four   -- for this text's walks alone
set_option linter.unusedVariables false
set_option linter.unusedSimpArgs false

/-- A row of bytes at block B, none of them frozen. -/
def RowB (W : World) (B : Nat) (l : List Int) : Prop := (∀ j, j < l.length → W.cell? ⟨B, j, none⟩ = some (.int .u8 (l.getD j 0))) ∧ ∀ j, j < l.length → W.frozen? ⟨B, j, none⟩ = false
theorem RowB.set {W : World} {B : Nat} {l : List Int} (h : RowB W B l) (i : Nat) (hi : i < l.length) (v : Int) : RowB (W.setCell ⟨B, i, none⟩ (.int .u8 v)) B (l.set i v) := by
  refine ⟨fun j hj => ?_, fun j hj => ?_⟩
  · rw [List.length_set] at hj
    by_cases e : j = i
    · subst e
      rw [World.cell?_setCell_same _ _ _ (h.1 j hj)]
      simp [List.getD_eq_getElem?_getD, hj]
    · rw [World.cell?_setCell_other _ _ _ _ (by simp [Ne.symm e]), h.1 j hj]
      simp [List.getD_eq_getElem?_getD, List.getElem?_set, Ne.symm e]
  · rw [List.length_set] at hj
    rw [World.frozen?_setCell]
    exact h.2 j hj
theorem RowB.drew {W : World} {B : Nat} {l : List Int} (h : RowB W B l) : RowB W.drew B l := h
theorem RowB.bytes (W : World) (e : TypeId) (s : ByteArray) : RowB (Lib.bytesWorld W e s) W.heap.size (bytesOf s) := by
  refine ⟨fun j hj => ?_, fun j hj => ?_⟩
  · rw [bytesOf_length] at hj
    rw [Lib.bytesWorld_cell W e s j hj]
    have h' : j < s.data.toList.length := by rw [data_length]; exact hj
    simp [bytesOf, List.getD_eq_getElem?_getD, List.getElem?_eq_getElem h']
  · rw [bytesOf_length] at hj
    have h' : j < (Lib.bytesCells W e s).size := by simp [Lib.bytesCells]; have : s.data.size = s.size := rfl; omega
    simp [World.frozen?, Lib.bytesWorld_at_new]
    omega

/-! ### crc_one: function 23 (proved by hand) -/
def step (r : Int) : Int := if (Go.bits .and .i64 r 32768 != 0) = true then Go.bits .and .i64 (Go.bits .xor .i64 (wrap64 (r * 2)) 4129) 65535 else Go.bits .and .i64 (wrap64 (r * 2)) 65535
def steps : Nat → Int → Int
  | 0, r => r
  | n + 1, r => step (steps n r)
theorem steps_t (j : Nat) (r r0 : Int) (h : r = steps j r0) (c : (Go.bits .and .i64 r 32768 != 0) = true) : Go.bits .and .i64 (Go.bits .xor .i64 (wrap64 (r * 2)) 4129) 65535 = steps (j + 1) r0 := by
  rw [steps, ← h, step, if_pos c]
theorem steps_f (j : Nat) (r r0 : Int) (h : r = steps j r0) (c : (Go.bits .and .i64 r 32768 != 0) = false) : Go.bits .and .i64 (wrap64 (r * 2)) 65535 = steps (j + 1) r0 := by
  rw [steps, ← h, step, if_neg (by rw [c]; decide)]
def crc_one.f (a0 a1 : Int) : Option Int := some (steps 8 (Go.bits .xor .i64 a0 (wrap64 (wrap64 a1 * 256))))
set_option maxRecDepth 100000 in
theorem crc_one.calls (a0 a1 : Int) (r : Int) (w : World) (h : crc_one.f a0 a1 = some r) :
    Calls Try.prog 23 #[.int .i64 a0, .int .u8 a1] w fun e w' => e = .returned (.int .i64 r) ∧ Drawn0 w w' := by
  obtain rfl := Option.some.inj h
  clear h
  go_enter Try.func23, Try.ntmps23
  generalize hr0 : Go.bits .xor .i64 a0 (wrap64 (wrap64 a1 * 256)) = r0
  go_wp2
  refine wp_scope_jumps 0 (fun a' w' => Drawn0 w w' ∧ ∃ (j : Nat) (r : Int) (u2 u3 u6 u7 u8 u9 u10 u11 u12 u13 u14 u15 u16 u17 u18 u19 u20 u21 u22 u23 u24 u25 : Value), a' = { tmps := #[.int .i64 r, .int .u8 a1, u2, u3, .int .i64 0, .int .i64 j, u6, u7, u8, u9, u10, u11, u12, u13, u14, u15, u16, u17, u18, u19, u20, u21, u22, u23, u24, u25], defers := [] } ∧ Aside0 (r = steps j r0) ∧ j < 8) (fun a' _ => (8 - intOf (a'.tmps.getD 5 undef)).toNat) rfl ?_ ?_
  · go_wp2
    go_step3
    go_wp2
    all_goals go_step3
    all_goals refine ⟨rfl, by repeat (first | exact Drawn0.refl _ | apply Drawn0.step), 1, _, _, _, _, _, _, _, _, _, _, _, _, _, _, _, _, _, _, _, _, _, _, _, rfl, ⟨?_⟩, by omega⟩
    · exact steps_t 0 _ _ rfl (by assumption)
    · exact steps_f 0 _ _ rfl (by assumption)
  · rintro a' w' ⟨hd, j, r, u2, u3, u6, u7, u8, u9, u10, u11, u12, u13, u14, u15, u16, u17, u18, u19, u20, u21, u22, u23, u24, u25, rfl, hr, hj⟩
    go_wp2
    · go_step3
      exact ⟨rfl, ⟨hd, j + 1, _, _, _, _, _, _, _, _, _, _, _, _, _, _, _, _, _, _, _, _, _, _, _, rfl, ⟨steps_t j _ _ hr.out (by assumption)⟩, by omega⟩, by simp [intOf]; omega⟩
    · simp only [Exit.jump]
      go_ret
      have e8 : j + 1 = 8 := by omega
      have := steps_t j _ _ hr.out (by assumption)
      rw [e8] at this
      exact ⟨by rw [this]; rfl, hd⟩
    · go_step3
      exact ⟨rfl, ⟨hd, j + 1, _, _, _, _, _, _, _, _, _, _, _, _, _, _, _, _, _, _, _, _, _, _, _, rfl, ⟨steps_f j _ _ hr.out (by assumption)⟩, by omega⟩, by simp [intOf]; omega⟩
    · simp only [Exit.jump]
      go_ret
      have e8 : j + 1 = 8 := by omega
      have := steps_f j _ _ hr.out (by assumption)
      rw [e8] at this
      exact ⟨by rw [this]; rfl, hd⟩

/-! ### crc_Add: function 11 -/
def crc_Add.l0 : Nat → Int → ByteArray → Int → Int → Option (Int)
  | 0, _, _, _, _ => none
  | k + 1, x0, x1, x9, x10 => if x10 < x9 then (if 0 ≤ x10 then (if x10 < (x1.size : Int) then ((crc_one.f x0 (bt x1 x10)).bind fun t101 => (crc_Add.l0 k t101 x1 x9 (wrap64 (x10 + 1)))) else (none)) else (none)) else (some x0)
def crc_Add.f (k : Nat) (a0 : Int) (a1 : ByteArray) : Option (Int) := crc_Add.l0 k (Go.bits .and .i64 a0 65535) a1 (a1.size : Int) 0
theorem crc_Add.mono_l : ∀ k, (∀ y0 y1 y2 y3, LeO (crc_Add.l0 k y0 y1 y2 y3) (crc_Add.l0 (k + 1) y0 y1 y2 y3))
  | 0 => fun _ _ _ _ r h => by simp [crc_Add.l0] at h
  | k + 1 => by
    have ih0 := crc_Add.mono_l k
    · intro y0 y1 y2 y3
      unfold crc_Add.l0
      repeat' first
      | (with_reducible exact ih0 _ _ _ _)
      | (with_reducible exact LeO.refl _)
      | (with_reducible exact LeO.none _)
      | (with_reducible refine LeO.ite ?_ ?_)
      | (with_reducible refine LeO.bind ?_ (fun _ => ?_))
      | exact ih0 _ _ _ _
      | exact LeO.none _
      | refine LeO.ite ?_ ?_
      | refine LeO.bind ?_ (fun _ => ?_)
theorem crc_Add.mono : ∀ a0 a1 k, LeO (crc_Add.f k a0 a1) (crc_Add.f (k + 1) a0 a1) := by
  intro a0 a1 k
  have ih0 := crc_Add.mono_l k
  unfold crc_Add.f
  repeat' first
      | (with_reducible exact ih0 _ _ _ _)
      | (with_reducible exact LeO.refl _)
      | (with_reducible exact LeO.none _)
      | (with_reducible refine LeO.ite ?_ ?_)
      | (with_reducible refine LeO.bind ?_ (fun _ => ?_))
      | exact ih0 _ _ _ _
      | exact LeO.none _
      | refine LeO.ite ?_ ?_
      | refine LeO.bind ?_ (fun _ => ?_)
set_option maxHeartbeats 8000000 in
set_option maxRecDepth 100000 in
theorem crc_Add.calls (k : Nat) (a0 : Int) (a1 : ByteArray) (r : Int) (w : World) (h : crc_Add.f k a0 a1 = some r) :
    Calls Try.prog 11 #[.int .i64 a0, .string a1] w fun e w' => e = .returned (.int .i64 r) ∧ Drawn0 w w' := by
  have H : (crc_Add.l0 k (Go.bits .and .i64 a0 65535) a1 (a1.size : Int) 0) = some r := h
  clear h
  have H' := Aside0.mk H
  clear H
  go_enter Try.func11, Try.ntmps11
  go_wp2
  go_loopg [0, 10] k (fun kq v0 v10 w' => ∃ (x0_1 : Int) (x10_1 : Int), v0 = .int .i64 x0_1 ∧ v10 = .int .i64 x10_1 ∧ Aside0 (crc_Add.l0 kq x0_1 a1 (a1.size : Int) x10_1 = some r) ∧ Aside0 (kq ≤ k) ∧ Drawn0 w w')
  case atStart => exact ⟨(Go.bits .and .i64 a0 65535), (0), (by first | rfl | (simp; done) | (simp [*]; done)), (by first | rfl | (simp; done) | (simp [*]; done)), H', ⟨Nat.le_refl _⟩, by repeat (first | exact Drawn0.refl _ | apply Drawn0.step)⟩
  case round =>
    clear H'
    try clear c1
    try clear p2
    obtain ⟨x0_1, x10_1, rfl, rfl, HA, HK1, ⟨m1, rfl⟩⟩ := hrel
    cases gk with
    | zero => exact absurd HA.out (by simp [crc_Add.l0])
    | succ k1 =>
      have H := HA.out
      clear HA
      simp only [crc_Add.l0] at H
      by_cases c3 : x10_1 < (a1.size : Int)
      · rw [if_pos c3] at H
        have c3b0 : decide (x10_1 < (a1.size : Int)) = true := decide_eq_true c3
        clear c3
        by_cases c4 : 0 ≤ x10_1
        · rw [if_pos c4] at H
          have c4b0 : decide (0 ≤ x10_1) = true := decide_eq_true c4
          clear c4
          by_cases c5 : x10_1 < (a1.size : Int)
          · rw [if_pos c5] at H
            have c5b0 : decide (x10_1 < (a1.size : Int)) = true := decide_eq_true c5
            clear c5
            replace H := Option.bind_eq_some_iff.mp H
            obtain ⟨t101, A70, H⟩ := H
            replace H : (crc_Add.l0 k1 t101 a1 (a1.size : Int) (wrap64 (x10_1 + 1))) = some r := H
            have A7 := Aside0.mk A70
            clear A70
            have H' := Aside0.mk H
            clear H
            have p6 : 0 ≤ (x10_1 : Int) := of_decide_eq_true (by first | (with_reducible assumption) | assumption)
            have q6 : x10_1 < (a1.size : Int) := of_decide_eq_true (by first | (with_reducible assumption) | assumption)
            have hx6 := bt_at a1 x10_1
            replace p6 := eq_true p6
            replace q6 := eq_true q6
            go_wp2_with (first | ((with_reducible refine gate_callee (f := 23) rfl ?_); refine goesL_ (some 17) rfl rfl Try.func23 (by kernel_rfl) rfl #[.int .i64 x0_1, .int .u8 (bt a1 x10_1)] rfl (by (try simp only [List.map_toArray, List.map_cons, List.map_nil]); first | done | rfl | (simp only [List.length_drop, List.length_take]; rfl)) ?_; (with_reducible refine (crc_one.calls x0_1 (bt a1 x10_1) t101 _ A7.out).mono ?_); rintro e w' ⟨rfl, ⟨nd, rfl⟩⟩; refine ⟨_, rfl, ?_⟩))
            go_roundg k1
            case measure => have := HK1.out; omega
            case rel => exact ⟨(t101), (wrap64 (x10_1 + 1)), (by first | rfl | (simp; done) | (simp [*]; done)), (by first | rfl | (simp; done) | (simp [*]; done)), H', ⟨by have := HK1.out; omega⟩, by repeat (first | exact Drawn0.refl _ | apply Drawn0.step)⟩
          · rw [if_neg c5] at H
            exact absurd H (by simp)
        · rw [if_neg c4] at H
          exact absurd H (by simp)
      · rw [if_neg c3] at H
        have c3b0 : decide (x10_1 < (a1.size : Int)) = false := decide_eq_false c3
        clear c3
        obtain rfl := Option.some.inj H
        go_wp2
        go_ret
        exact ⟨by first | rfl | (simp; done) | (simp [*]; done), by repeat (first | exact Drawn0.refl _ | apply Drawn0.step)⟩

/-! ### crc_New: function 22 -/
def crc_New.f  : Option (Int) := some 65535
set_option maxHeartbeats 8000000 in
set_option maxRecDepth 100000 in
theorem crc_New.calls  (r : Int) (w : World) (h : crc_New.f  = some r) :
    Calls Try.prog 22 #[] w fun e w' => e = .returned (.int .i64 r) ∧ Drawn0 w w' := by
  have H : (some 65535) = some r := h
  clear h
  obtain rfl := Option.some.inj H
  go_enter Try.func22, Try.ntmps22
  go_wp2
  go_ret
  exact ⟨by first | rfl | (simp; done) | (simp [*]; done), by repeat (first | exact Drawn0.refl _ | apply Drawn0.step)⟩

end Go.Proofs.Ythnnnhbfhimkpaa.S
