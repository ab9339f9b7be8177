/- Go functions as Lean functions, each with a proof that the machine's call comes to what its Lean function tells; no condition beside those that each theorem states. Written by this project's program drive.py. -/
import Derived.Test.YtemajoafhamhgaaDoorBase
import Derived.Test.YtemajoafhamhgaaDoorQx0
import Derived.Test.YtemajoafhamhgaaDoorQx2
namespace Go.Proofs.YtemajoafhamhgaaDoor.Q
open Go.RowKit Go.Proofs.YtemajoafhamhgaaDoorW.PrintWords Go.Proofs.YtemajoafhamhgaaDoorW.PrintLast Go.Proofs.YtemajoafhamhgaaDoorW.PrintMore
attribute [local go_sem] Go.Proofs.YtemajoafhamhgaaDoor.Base.cell_there
attribute [local go_sem] max2_int min2_int max_two min_two max_three min_three max_four min_four   -- for this text's walks alone
set_option linter.unusedVariables false
set_option linter.unusedSimpArgs false

/-! ### ident_Print: function 14 (proved by hand) -/
def u32of (e : Bool) (n : Int) : Int := if e = true then Go.bits .or .u32 (n % 4294967296) 2147483648 else n % 4294967296
/-- The first k of a number's four bytes. -/
def pl (n : Int) (k : Nat) : List Int := (List.range 4).map fun (j : Nat) => if j < k then n / 2 ^ (8 * (3 - j)) % 256 else 0
def ident_Print.f (a0_0 : Bool) (a0_1 : Int) : Option (ByteArray × Int) := (ident_Right.f a0_0 a0_1).bind fun t => if t = true then some (strOfNums (pl (u32of a0_0 a0_1) 4), 0) else some (ByteArray.empty, 1)
theorem pl_length (n : Int) (k : Nat) : (pl n k).length = 4 := by simp [pl]
theorem pl_1 (n : Int) : pl n 1 = (pl n 0).set 0 (n / 2 ^ 24 % 256) := by simp [pl, List.range, List.range.loop]
theorem pl_2 (n : Int) : pl n 2 = (pl n 1).set 1 (n / 2 ^ 16 % 256) := by simp [pl, List.range, List.range.loop]
theorem pl_3 (n : Int) : pl n 3 = (pl n 2).set 2 (n / 2 ^ 8 % 256) := by simp [pl, List.range, List.range.loop]
theorem pl_4 (n : Int) : pl n 4 = (pl n 3).set 3 (n % 256) := by simp [pl, List.range, List.range.loop]
theorem RowB.four (w : World) (t : TypeId) {n : Int} : RowB (w.alloc (.cells #[.int .u8 0, .int .u8 0, .int .u8 0, .int .u8 0] t)) w.heap.size (pl n 0) := by
  refine ⟨fun j hj => ?_, fun j hj => ?_⟩ <;> rw [pl_length] at hj
  · have : j = 0 ∨ j = 1 ∨ j = 2 ∨ j = 3 := by omega
    rcases this with rfl | rfl | rfl | rfl <;> exact (blk_cell (heap_alloc_new w _) _).trans (by simp [pl])
  · have : j = 0 ∨ j = 1 ∨ j = 2 ∨ j = 3 := by omega
    rcases this with rfl | rfl | rfl | rfl <;> exact blk_frozen (heap_alloc_new w _) _
theorem ident_Print.callsT (a1 : Int) (w : World) (hG0 : GV w) (h : ident_Right.f true a1 = some true) :
    Calls Tryd.prog 14 #[.agg #[.bool true, .int .i64 a1]] w fun e w' => e = .returned (.tuple #[.string (strOfNums (pl (u32of true a1) 4)), .int .i64 0]) ∧ Below w.heap.size w w' := by
  have HG := Aside0.mk hG0
  have A := Aside0.mk h
  clear hG0 h
  have hu23 := Tryd.underlying23
  go_enter Tryd.func14, Tryd.ntmps14
  go_wp2_with (first | (go_at_call 16; refine (ident_Right.calls true a1 true _ (GV.below (below_alloc (Below.refl _ _) _) HG.out) A.out).mono ?_; rintro e w' ⟨rfl, hb⟩; have hk := (hb.block w.heap.size (by simp)).trans (heap_alloc_new w _); have c0 := (blk_cell hk 0).trans rfl; have c1 := (blk_cell hk 1).trans rfl))
  have hB1 : Below w.heap.size w (w'.alloc (.cells #[.int .u8 0, .int .u8 0, .int .u8 0, .int .u8 0] 54)) := below_alloc (below_step (below_alloc (Below.refl _ _) _) hb) _
  have hge : w.heap.size ≤ w'.heap.size := below_size (below_step (below_alloc (Below.refl _ _) _) hb)
  have hR0 : RowB (w'.alloc (.cells #[.int .u8 0, .int .u8 0, .int .u8 0, .int .u8 0] 54)) w'.heap.size (pl (u32of true a1) 0) := RowB.four w' 54
  obtain ⟨m, hm⟩ : ∃ m, u32of true a1 = m := ⟨_, rfl⟩
  have hm2 : bits BinOp.or IntKind.u32 (a1 % 4294967296) 2147483648 = m := hm
  rw [hm] at hR0
  simp only [hm2]
  have HM := Aside0.mk hm
  have HB1 := Aside0.mk hB1
  have HR0 := Aside0.mk hR0
  have HGE := Aside0.mk hge
  obtain ⟨B, hBe⟩ : ∃ B, w'.heap.size = B := ⟨_, rfl⟩
  rw [hBe] at HR0 HGE ⊢
  clear hm hm2 hB1 hR0 hge hb c0 c1 hk A
  go_loopw [17] (fun i W => ∃ k : Nat, k ≤ 4 ∧ i = .int .i64 k ∧ Aside0 (RowB W B (pl m k)) ∧ Aside0 (Below w.heap.size w W)) (fun i _ => 4 - (intOf i).toNat)
  case atStart => exact ⟨0, by omega, rfl, HR0, HB1⟩
  case round =>
    obtain ⟨k, hk, rfl, hR, hB⟩ := hrel
    clear HR0 HB1 hBe
    have hk5 : k = 0 ∨ k = 1 ∨ k = 2 ∨ k = 3 ∨ k = 4 := by omega
    have hc := fun j (h : j < 4) => hR.out.1 j (by rw [pl_length]; exact h)
    have hf := fun j (h : j < 4) => hR.out.2 j (by rw [pl_length]; exact h)
    rcases hk5 with rfl | rfl | rfl | rfl | rfl
    · have h1 := hc 0 (by omega)
      have h2 := hf 0 (by omega)
      clear hc hf
      go_wp2
      go_roundw
      case rel => exact ⟨1, by omega, by go_num, ⟨by rw [pl_1]; exact RowB.set hR.out 0 (by rw [pl_length]; omega) _⟩, ⟨below_set hB.out HGE.out⟩⟩
      case measure => simp [intOf]
    · have h1 := hc 1 (by omega)
      have h2 := hf 1 (by omega)
      clear hc hf
      go_wp2
      go_roundw
      case rel => exact ⟨2, by omega, by go_num, ⟨by rw [pl_2]; exact RowB.set hR.out 1 (by rw [pl_length]; omega) _⟩, ⟨below_set hB.out HGE.out⟩⟩
      case measure => simp [intOf]
    · have h1 := hc 2 (by omega)
      have h2 := hf 2 (by omega)
      clear hc hf
      go_wp2
      go_roundw
      case rel => exact ⟨3, by omega, by go_num, ⟨by rw [pl_3]; exact RowB.set hR.out 2 (by rw [pl_length]; omega) _⟩, ⟨below_set hB.out HGE.out⟩⟩
      case measure => simp [intOf]
    · have h1 := hc 3 (by omega)
      have h2 := hf 3 (by omega)
      clear hc hf
      go_wp2
      go_roundw
      case rel => exact ⟨4, by omega, by go_num, ⟨by rw [pl_4]; exact RowB.set hR.out 3 (by rw [pl_length]; omega) _⟩, ⟨below_set hB.out HGE.out⟩⟩
      case measure => simp [intOf]
    · clear hc hf
      have kc := fun c => run_convert_bytes_arg (P := Tryd.prog) wr 55 5 Tryd.underlying55 Tryd.underlying5 B 0 4 c (pl m 4) (pl_length m 4) (fun i hi => by have := hR.out.1 i (by rw [pl_length]; omega); simpa using this) 9 Tryd.underlying9
      go_wp2
      go_ret2
      exact ⟨by rw [HM.out]; rfl, hB.out⟩
theorem ident_Print.callsF (a1 : Int) (w : World) (hG0 : GV w) (h : ident_Right.f false a1 = some true) :
    Calls Tryd.prog 14 #[.agg #[.bool false, .int .i64 a1]] w fun e w' => e = .returned (.tuple #[.string (strOfNums (pl (u32of false a1) 4)), .int .i64 0]) ∧ Below w.heap.size w w' := by
  have HG := Aside0.mk hG0
  have A := Aside0.mk h
  clear hG0 h
  have hu23 := Tryd.underlying23
  go_enter Tryd.func14, Tryd.ntmps14
  go_wp2_with (first | (go_at_call 16; refine (ident_Right.calls false a1 true _ (GV.below (below_alloc (Below.refl _ _) _) HG.out) A.out).mono ?_; rintro e w' ⟨rfl, hb⟩; have hk := (hb.block w.heap.size (by simp)).trans (heap_alloc_new w _); have c0 := (blk_cell hk 0).trans rfl; have c1 := (blk_cell hk 1).trans rfl))
  have hB1 : Below w.heap.size w (w'.alloc (.cells #[.int .u8 0, .int .u8 0, .int .u8 0, .int .u8 0] 54)) := below_alloc (below_step (below_alloc (Below.refl _ _) _) hb) _
  have hge : w.heap.size ≤ w'.heap.size := below_size (below_step (below_alloc (Below.refl _ _) _) hb)
  have hR0 : RowB (w'.alloc (.cells #[.int .u8 0, .int .u8 0, .int .u8 0, .int .u8 0] 54)) w'.heap.size (pl (u32of false a1) 0) := RowB.four w' 54
  obtain ⟨m, hm⟩ : ∃ m, u32of false a1 = m := ⟨_, rfl⟩
  have hm2 : a1 % 4294967296 = m := hm
  rw [hm] at hR0
  simp only [hm2]
  have HM := Aside0.mk hm
  have HB1 := Aside0.mk hB1
  have HR0 := Aside0.mk hR0
  have HGE := Aside0.mk hge
  obtain ⟨B, hBe⟩ : ∃ B, w'.heap.size = B := ⟨_, rfl⟩
  rw [hBe] at HR0 HGE ⊢
  clear hm hm2 hB1 hR0 hge hb c0 c1 hk A
  go_loopw [17] (fun i W => ∃ k : Nat, k ≤ 4 ∧ i = .int .i64 k ∧ Aside0 (RowB W B (pl m k)) ∧ Aside0 (Below w.heap.size w W)) (fun i _ => 4 - (intOf i).toNat)
  case atStart => exact ⟨0, by omega, rfl, HR0, HB1⟩
  case round =>
    obtain ⟨k, hk, rfl, hR, hB⟩ := hrel
    clear HR0 HB1 hBe
    have hk5 : k = 0 ∨ k = 1 ∨ k = 2 ∨ k = 3 ∨ k = 4 := by omega
    have hc := fun j (h : j < 4) => hR.out.1 j (by rw [pl_length]; exact h)
    have hf := fun j (h : j < 4) => hR.out.2 j (by rw [pl_length]; exact h)
    rcases hk5 with rfl | rfl | rfl | rfl | rfl
    · have h1 := hc 0 (by omega)
      have h2 := hf 0 (by omega)
      clear hc hf
      go_wp2
      go_roundw
      case rel => exact ⟨1, by omega, by go_num, ⟨by rw [pl_1]; exact RowB.set hR.out 0 (by rw [pl_length]; omega) _⟩, ⟨below_set hB.out HGE.out⟩⟩
      case measure => simp [intOf]
    · have h1 := hc 1 (by omega)
      have h2 := hf 1 (by omega)
      clear hc hf
      go_wp2
      go_roundw
      case rel => exact ⟨2, by omega, by go_num, ⟨by rw [pl_2]; exact RowB.set hR.out 1 (by rw [pl_length]; omega) _⟩, ⟨below_set hB.out HGE.out⟩⟩
      case measure => simp [intOf]
    · have h1 := hc 2 (by omega)
      have h2 := hf 2 (by omega)
      clear hc hf
      go_wp2
      go_roundw
      case rel => exact ⟨3, by omega, by go_num, ⟨by rw [pl_3]; exact RowB.set hR.out 2 (by rw [pl_length]; omega) _⟩, ⟨below_set hB.out HGE.out⟩⟩
      case measure => simp [intOf]
    · have h1 := hc 3 (by omega)
      have h2 := hf 3 (by omega)
      clear hc hf
      go_wp2
      go_roundw
      case rel => exact ⟨4, by omega, by go_num, ⟨by rw [pl_4]; exact RowB.set hR.out 3 (by rw [pl_length]; omega) _⟩, ⟨below_set hB.out HGE.out⟩⟩
      case measure => simp [intOf]
    · clear hc hf
      have kc := fun c => run_convert_bytes_arg (P := Tryd.prog) wr 55 5 Tryd.underlying55 Tryd.underlying5 B 0 4 c (pl m 4) (pl_length m 4) (fun i hi => by have := hR.out.1 i (by rw [pl_length]; omega); simpa using this) 9 Tryd.underlying9
      go_wp2
      go_ret2
      exact ⟨by rw [HM.out]; rfl, hB.out⟩
theorem ident_Print.calls (a0_0 : Bool) (a0_1 : Int) (r1 : ByteArray) (r2 : Int) (w : World) (hG0 : GV w) (h : ident_Print.f a0_0 a0_1 = some (r1, r2)) :
    Calls Tryd.prog 14 #[.agg #[.bool a0_0, .int .i64 a0_1]] w fun e w' => e = .returned (.tuple #[.string r1, .int .i64 r2]) ∧ Below w.heap.size w w' := by
  unfold ident_Print.f at h
  obtain ⟨t, ht, h⟩ := Option.bind_eq_some_iff.mp h
  cases t with
  | true =>
    rw [if_pos rfl] at h
    simp only [Option.some.injEq, Prod.mk.injEq] at h
    obtain ⟨rfl, rfl⟩ := h
    cases a0_0 with
    | true => exact ident_Print.callsT a0_1 w hG0 ht
    | false => exact ident_Print.callsF a0_1 w hG0 ht
  | false =>
    rw [if_neg (by decide)] at h
    simp only [Option.some.injEq, Prod.mk.injEq] at h
    obtain ⟨rfl, rfl⟩ := h
    have HG := Aside0.mk hG0
    have A := Aside0.mk ht
    clear hG0 ht
    have hu23 := Tryd.underlying23
    go_enter Tryd.func14, Tryd.ntmps14
    go_wp2_with (first | (go_at_call 16; refine (ident_Right.calls a0_0 a0_1 false _ (GV.below (below_alloc (Below.refl _ _) _) HG.out) A.out).mono ?_; rintro e w' ⟨rfl, hb⟩))
    go_ret2
    exact ⟨rfl, below_step (below_alloc (Below.refl _ _) _) hb⟩

end Go.Proofs.YtemajoafhamhgaaDoor.Q
