/- Go functions as Lean functions, each with a proof that the machine's call comes to what its Lean function tells; no condition beside those that each theorem states. Written by this project's program drive.py. -/
import Derived.Test.YthnnnhbfhimkpaaSx0
import Derived.Test.YthnnnhbfhimkpaaSx1
namespace Go.Proofs.Ythnnnhbfhimkpaa.S
open Go.RowKit Go.Proofs.YthnnnhbfhimkpaaW.PrintWords Go.Proofs.YthnnnhbfhimkpaaW.PrintLast Go.Proofs.YthnnnhbfhimkpaaW.PrintMore
attribute [local go_sem] max2_int min2_int max_two min_two max_three min_three max_four min_four   -- for this text's walks alone
set_option linter.unusedVariables false
set_option linter.unusedSimpArgs false

/-! ### crc_Burst: function 21 (proved by hand) -/
def turn (m q : Int) (l : List Int) (i : Nat) : List Int := if q + i < l.length then l.set (q + i).toNat (Go.bits .xor .u8 (rd l (q + i)) (m / 2 ^ (16 - 8 * i) % 256)) else l
def turns (m q : Int) (l : List Int) : Nat → List Int
  | 0 => l
  | n + 1 => turn m q (turns m q l n) n
theorem turn_length (m q : Int) (l : List Int) (i : Nat) : (turn m q l i).length = l.length := by unfold turn; split <;> simp
theorem turns_length (m q : Int) (l : List Int) (i : Nat) : (turns m q l i).length = l.length := by
  induction i with
  | zero => rfl
  | succ n ih => rw [turns, turn_length, ih]
def burstMask (a1 a2 : Int) : Int := bits BinOp.and IntKind.i64 a2 65535 % 4294967296 * 2 ^ (8 - a1 % 8).toNat % 4294967296
def crc_Burst.f (a0 : ByteArray) (a1 a2 : Int) : Option ByteArray :=
  if a1 < 0 then some a0 else if (a0.size : Int) ≤ wrap64 (Int.tdiv a1 8) then some a0
  else if 0 ≤ wrap64 (Int.tdiv a1 8) ∧ a0.size ≤ 140737488351232 then some (strOfNums (turns (burstMask a1 a2) (wrap64 (Int.tdiv a1 8)) (bytesOf a0) 3)) else none
set_option maxRecDepth 100000 in
theorem crc_Burst.main (a0 : ByteArray) (a1 a2 m : Int) (q : Nat) (w : World) (h0 : 0 ≤ a1) (hq : wrap64 (Int.tdiv a1 8) = q) (h1 : q < a0.size) (hs : a0.size ≤ 140737488351232)
    (hm : bits BinOp.and IntKind.i64 a2 65535 % 4294967296 * 2 ^ (8 - a1 % 8).toNat % 4294967296 = m) (hm0 : 0 ≤ m) (hm1 : m ≤ 4294967295) :
    Calls Try.prog 21 #[.string a0, .int .i64 a1, .int .i64 a2] w fun e w' => e = .returned (.string (strOfNums (turns m q (bytesOf a0) 3))) ∧ Below w.heap.size w w' := by
  have kb := fun W => print_bytes (P := Try.prog) 9 34 5 Try.underlying9 Try.underlying34 Try.underlying5 a0 W
  have hd1 : decide (a1 < 0) = false := decide_eq_false (by omega)
  have hd2 : decide ((a0.size : Int) ≤ (q : Int)) = false := decide_eq_false (by omega)
  have hd3 : decide (a0.size ≤ q) = false := decide_eq_false (by omega)
  go_enter Try.func21, Try.ntmps21
  go_wp2_with fail
  simp only [hm, hq]
  have HM := Aside0.mk hm
  clear hm
  go_loopw [30] (fun i W => ∃ k : Nat, k ≤ 3 ∧ i = .int .i64 k ∧ Aside0 (RowB W w.heap.size (turns m q (bytesOf a0) k)) ∧ Aside0 (Below w.heap.size w W)) (fun i _ => 3 - (intOf i).toNat)
  case atStart => exact ⟨0, by omega, rfl, ⟨RowB.bytes _ _ _⟩, ⟨bytes_below (Below.refl _ _) (Nat.le_refl _) _ _⟩⟩
  case round =>
    obtain ⟨k, hk, rfl, hR, hB⟩ := hrel
    by_cases hlt : k < 3
    · by_cases hb : q + k < a0.size
      · obtain ⟨l, hl⟩ : ∃ l, turns m q (bytesOf a0) k = l := ⟨_, rfl⟩
        have hll : a0.size = l.length := by rw [← hl, turns_length, bytesOf_length]
        rw [hl] at hR
        have HL := Aside0.mk hl
        have HLL := Aside0.mk hll
        obtain ⟨p, hp⟩ : ∃ p : Nat, (q : Int) + k = p := ⟨q + k, by omega⟩
        have hpl : p < a0.size := by omega
        have hc := hR.out.1 p (by omega)
        have hf := hR.out.2 p (by omega)
        generalize hx : l.getD p 0 = x at hc
        have HX := Aside0.mk hx
        clear hl hll hx
        go_wp2_with fail
        have HP := Aside0.mk hp
        clear hp
        obtain ⟨e8, he8⟩ : ∃ e : Int, IntKind.i64.wrap (8 * (k : Int)) = e := ⟨_, rfl⟩
        have he8' : e8 = 8 * k := by rw [← he8]; exact IntWalk.i64_in _ (by omega)
        obtain ⟨sh, hsh⟩ : ∃ e : Int, IntKind.i64.wrap (16 - e8) = e := ⟨_, rfl⟩
        have hsh' : sh = 16 - 8 * k := by rw [← hsh, he8']; exact IntWalk.i64_in _ (by omega)
        have hs0 : 0 ≤ sh := by omega
        have hs1 : sh ≤ 16 := by omega
        have HSH := Aside0.mk hsh'
        clear he8' hsh'
        go_still_tail 12, (by kernel_rfl)
        change wpList _ _ _ _ _ wr.drew
        go_wp2_with fail
        go_roundw
        case rel =>
          refine ⟨k + 1, by omega, by go_num, ⟨?_⟩, ⟨?_⟩⟩
          · have e1 : turns m q (bytesOf a0) (k + 1) = l.set p (Go.bits .xor .u8 x (m / 2 ^ sh.toNat % 256)) := by
              have hp := HP.out
              have hll := HLL.out
              have hsh := HSH.out
              rw [turns, HL.out, turn, if_pos (by omega), rd, hp, show sh.toNat = 16 - 8 * k from by omega]
              simp only [Int.toNat_natCast, HX.out]
            rw [e1]
            exact RowB.drew (RowB.set hR.out p (by have := HLL.out; omega) _)
          · exact (hB.out.setCell (p := ⟨w.heap.size, p, none⟩) (Nat.le_refl _) _).drew
        case measure => simp [intOf]; omega
      · have hp : decide ((q : Int) + k < (a0.size : Int)) = false := decide_eq_false (by omega)
        go_wp2
        go_roundw
        case rel =>
          refine ⟨k + 1, by omega, by go_num, ⟨?_⟩, hB⟩
          have e1 : turns m q (bytesOf a0) (k + 1) = turns m q (bytesOf a0) k := by
            rw [turns, turn, if_neg (by rw [turns_length, bytesOf_length]; omega)]
          rw [e1]
          exact hR.out
        case measure => simp [intOf]; omega
    · obtain rfl : k = 3 := by omega
      obtain ⟨l, hl⟩ : ∃ l, turns m q (bytesOf a0) 3 = l := ⟨_, rfl⟩
      have hll : l.length = a0.size := by rw [← hl, turns_length, bytesOf_length]
      rw [hl] at hR
      have kc := fun c => run_convert_bytes_arg (P := Try.prog) wr 34 5 Try.underlying34 Try.underlying5 w.heap.size 0 a0.size c l hll (fun i hi => by have := hR.out.1 i (by omega); simpa using this) 9 Try.underlying9
      have HL := Aside0.mk hl
      clear hl hll kb
      go_wp2
      go_ret
      exact ⟨by rw [HL.out]; rfl, hB.out⟩
set_option maxRecDepth 100000 in
theorem crc_Burst.calls (a0 : ByteArray) (a1 a2 : Int) (r : ByteArray) (w : World) (h : crc_Burst.f a0 a1 a2 = some r) :
    Calls Try.prog 21 #[.string a0, .int .i64 a1, .int .i64 a2] w fun e w' => e = .returned (.string r) ∧ Below w.heap.size w w' := by
  unfold crc_Burst.f at h
  by_cases h0 : a1 < 0
  · rw [if_pos h0] at h
    obtain rfl := Option.some.inj h
    clear h
    have hd1 : decide (a1 < 0) = true := decide_eq_true h0
    go_enter Try.func21, Try.ntmps21
    go_wp2
    go_ret
    exact ⟨rfl, Below.refl _ _⟩
  · rw [if_neg h0] at h
    by_cases h1 : (a0.size : Int) ≤ wrap64 (Int.tdiv a1 8)
    · rw [if_pos h1] at h
      obtain rfl := Option.some.inj h
      clear h
      have hd1 : decide (a1 < 0) = false := decide_eq_false h0
      have hd2 : decide ((a0.size : Int) ≤ wrap64 (Int.tdiv a1 8)) = true := decide_eq_true h1
      go_enter Try.func21, Try.ntmps21
      go_wp2
      go_ret
      exact ⟨rfl, Below.refl _ _⟩
    · rw [if_neg h1] at h
      by_cases h2 : 0 ≤ wrap64 (Int.tdiv a1 8) ∧ a0.size ≤ 140737488351232
      · rw [if_pos h2] at h
        obtain rfl := Option.some.inj h
        obtain ⟨q, hq⟩ : ∃ q : Nat, wrap64 (Int.tdiv a1 8) = q := ⟨(wrap64 (Int.tdiv a1 8)).toNat, by omega⟩
        rw [hq]
        exact crc_Burst.main a0 a1 a2 _ q w (by omega) hq (by omega) h2.2 rfl (by unfold burstMask; omega) (by unfold burstMask; omega)
      · rw [if_neg h2] at h
        cases h

end Go.Proofs.Ythnnnhbfhimkpaa.S
