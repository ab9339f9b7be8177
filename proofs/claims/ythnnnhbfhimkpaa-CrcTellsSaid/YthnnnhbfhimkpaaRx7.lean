/- Go functions as Lean functions, each with a proof that the machine's call comes to what its Lean function tells; no condition beside those that each theorem states. Written by this project's program drive.py. -/
import Derived.Test.YthnnnhbfhimkpaaRx0
import Derived.Test.YthnnnhbfhimkpaaRx1
import Derived.Test.YthnnnhbfhimkpaaRx4
namespace Go.Proofs.Ythnnnhbfhimkpaa.R
open Go.RowKit Go.Proofs.YthnnnhbfhimkpaaW.PrintWords Go.Proofs.YthnnnhbfhimkpaaW.PrintLast Go.Proofs.YthnnnhbfhimkpaaW.PrintMore
attribute [local go_sem] max2_int min2_int max_two min_two max_three min_three max_four min_four   -- for this text's walks alone
set_option linter.unusedVariables false
set_option linter.unusedSimpArgs false

/-! ### omnibusref01_Burst: function 17 (proved by hand) -/
/-- One bit of the mask: byte (at + i) / 8 of a text. -/
def rturn (m p : Int) (l : List Int) (i : Nat) : List Int :=
  if p + i < 8 * l.length then
    (if (Go.bits .and .i64 (m / 2 ^ (15 - i)) 1 == 1) = true then l.set ((p + i) / 8).toNat (Go.bits .xor .u8 (l.getD ((p + i) / 8).toNat 0) (2 ^ (7 - (p + i) % 8).toNat % 256)) else l)
  else l
def rturns (m p : Int) (l : List Int) : Nat → List Int
  | 0 => l
  | n + 1 => rturn m p (rturns m p l n) n
theorem rturn_length (m p : Int) (l : List Int) (i : Nat) : (rturn m p l i).length = l.length := by unfold rturn; split <;> (try split) <;> simp
theorem rturns_length (m p : Int) (l : List Int) (i : Nat) : (rturns m p l i).length = l.length := by
  induction i with
  | zero => rfl
  | succ n ih => rw [rturns, rturn_length, ih]
theorem rturns_end (m p : Int) (l : List Int) (k : Nat) (h : ¬ p + k < 8 * l.length) (j : Nat) : rturns m p l (k + j) = rturns m p l k := by
  induction j with
  | zero => rfl
  | succ n ih => rw [Nat.add_succ, rturns, rturn, if_neg (by rw [rturns_length]; omega), ih]
set_option maxRecDepth 100000 in
theorem omnibusref01_Burst.main (a0 : ByteArray) (a1 a2 m : Int) (w : World) (h0 : 0 ≤ a1) (h1 : a1 < 8 * a0.size) (hs : a0.size ≤ 140737488351232) (hm : omnibusref01_mod.f a2 = some m) (hm0 : 0 ≤ m) (hm1 : m < 65536) :
    Calls Try.prog 17 #[.string a0, .int .i64 a1, .int .i64 a2] w fun e w' => e = .returned (.string (strOfNums (rturns m a1 (bytesOf a0) 16))) ∧ Below w.heap.size w w' := by
  have kb := fun W => print_bytes (P := Try.prog) 9 34 5 Try.underlying9 Try.underlying34 Try.underlying5 a0 W
  have hd1 : decide (a1 < 0) = false := decide_eq_false (by omega)
  have hd2 : decide (8 * (a0.size : Int) ≤ a1) = false := decide_eq_false (by omega)
  go_enter Try.func17, Try.ntmps17
  go_wp2_with (go_at_call 24; refine (omnibusref01_mod.calls a2 m _ hm).mono ?_; rintro e w' ⟨rfl, ⟨nd, rfl⟩⟩)
  go_loopw [9] (fun i W => ∃ k : Nat, k ≤ 16 ∧ i = .int .i64 k ∧ Aside0 (RowB W w.heap.size (rturns m a1 (bytesOf a0) k)) ∧ Aside0 (Below w.heap.size w W)) (fun i _ => 16 - (intOf i).toNat)
  case atStart => exact ⟨0, by omega, rfl, ⟨RowB.bytes _ _ _⟩, ⟨pw_below_drewN (bytes_below (Below.refl _ _) (Nat.le_refl _) _ _) _⟩⟩
  case round =>
    obtain ⟨k, hk, rfl, hR, hB⟩ := hrel
    by_cases hlt : k < 16
    · obtain ⟨p, hp⟩ : ∃ p : Nat, a1 + k = p := ⟨(a1 + k).toNat, by omega⟩
      by_cases hb : p < 8 * a0.size
      · have hb' : decide ((p : Int) < 8 * (a0.size : Int)) = true := decide_eq_true (by omega)
        have hk' : decide ((k : Int) < 16) = true := decide_eq_true (by omega)
        obtain ⟨l, hl⟩ : ∃ l, rturns m a1 (bytesOf a0) k = l := ⟨_, rfl⟩
        have hll : a0.size = l.length := by rw [← hl, rturns_length, bytesOf_length]
        rw [hl] at hR
        have HL := Aside0.mk hl
        have HLL := Aside0.mk hll
        obtain ⟨q, hq⟩ : ∃ q : Nat, p / 8 = q := ⟨_, rfl⟩
        have hql : q < a0.size := by omega
        have hc := hR.out.1 q (by omega)
        have hf := hR.out.2 q (by omega)
        generalize hx : l.getD q 0 = x at hc
        have HX := Aside0.mk hx
        have HQ := Aside0.mk hq
        clear hl hll hx hq
        go_wp2_with fail
        · have HP := Aside0.mk hp
          clear hp
          have he : IntKind.i64.wrap ((p : Int) / 8) = (q : Int) := by
            rw [IntWalk.i64_in _ (by omega)]
            have := HQ.out
            omega
          obtain ⟨s, hs8⟩ : ∃ s : Int, Int.tmod (p : Int) 8 = s := ⟨_, rfl⟩
          obtain ⟨e7, he7⟩ : ∃ e : Int, IntKind.i64.wrap (7 - s) = e := ⟨_, rfl⟩
          have hsv : s = a1 + k - 8 * q := by
            have := HP.out
            have := HQ.out
            rw [← hs8, Int.tmod_eq_emod_of_nonneg (by omega)]
            omega
          have hs0 : 0 ≤ s ∧ s ≤ 7 := by
            rw [← hs8, Int.tmod_eq_emod_of_nonneg (by omega)]
            omega
          have he7v : e7 = 7 - s := by rw [← he7]; exact IntWalk.i64_in _ (by omega)
          have hE0 : 0 ≤ e7 := by omega
          have hE1 : e7 ≤ 7 := by omega
          have HS := Aside0.mk hsv
          have HE := Aside0.mk he7v
          clear hsv he7v hs0
          go_still_tail 14, (by kernel_rfl)
          change wpList _ _ _ _ _ wr.drew
          go_wp2_with fail
          go_roundw
          case rel =>
            refine ⟨k + 1, by omega, by go_num, ⟨?_⟩, ⟨?_⟩⟩
            · have hbit : (Go.bits .and .i64 (m / 2 ^ (15 - k)) 1 == 1) = true := by assumption
              have hp' := HP.out
              have hll := HLL.out
              have hq' := HQ.out
              have hE := HE.out
              have hS := HS.out
              have e1 : rturns m a1 (bytesOf a0) (k + 1) = l.set q (Go.bits .xor .u8 x (2 ^ e7.toNat % 256)) := by
                rw [rturns, HL.out, rturn, if_pos (by omega), hbit, if_pos rfl, show ((a1 + (k : Int)) / 8).toNat = q by omega, HX.out, show (7 - (a1 + (k : Int)) % 8) = e7 by omega]
              rw [e1]
              exact RowB.drew (RowB.set hR.out q (by omega) _)
            · exact (hB.out.setCell (p := ⟨w.heap.size, q, none⟩) (Nat.le_refl _) _).drew
          case measure => simp [intOf]; omega
        · go_roundw
          case rel =>
            refine ⟨k + 1, by omega, by go_num, ⟨?_⟩, hB⟩
            have hbit : (Go.bits .and .i64 (m / 2 ^ (15 - k)) 1 == 1) = false := by assumption
            have hp' := hp
            have hll := HLL.out
            rw [rturns, HL.out, rturn, if_pos (by omega), hbit, if_neg (by decide)]
            exact hR.out
          case measure => simp [intOf]; omega
      · have hb' : decide ((p : Int) < 8 * (a0.size : Int)) = false := decide_eq_false (by omega)
        have hk' : decide ((k : Int) < 16) = true := decide_eq_true (by omega)
        obtain ⟨l, hl⟩ : ∃ l, rturns m a1 (bytesOf a0) k = l := ⟨_, rfl⟩
        have hll : l.length = a0.size := by rw [← hl, rturns_length, bytesOf_length]
        rw [hl] at hR
        have kc := fun c => run_convert_bytes_arg (P := Try.prog) wr 34 5 Try.underlying34 Try.underlying5 w.heap.size 0 a0.size c l hll (fun i hi => by have := hR.out.1 i (by omega); simpa using this) 9 Try.underlying9
        have HL := Aside0.mk hl
        have HP := Aside0.mk hp
        clear hl hll kb
        go_wp2
        go_ret
        have e16 : rturns m a1 (bytesOf a0) 16 = l := by
          have := rturns_end m a1 (bytesOf a0) k (by rw [bytesOf_length, HP.out]; omega) (16 - k)
          rw [show k + (16 - k) = 16 by omega] at this
          rw [this, HL.out]
        exact ⟨by rw [e16]; rfl, hB.out⟩
    · obtain rfl : k = 16 := by omega
      obtain ⟨l, hl⟩ : ∃ l, rturns m a1 (bytesOf a0) 16 = l := ⟨_, rfl⟩
      have hll : l.length = a0.size := by rw [← hl, rturns_length, bytesOf_length]
      rw [hl] at hR
      have kc := fun c => run_convert_bytes_arg (P := Try.prog) wr 34 5 Try.underlying34 Try.underlying5 w.heap.size 0 a0.size c l hll (fun i hi => by have := hR.out.1 i (by omega); simpa using this) 9 Try.underlying9
      have HL := Aside0.mk hl
      clear hl hll kb
      go_wp2
      go_ret
      exact ⟨by rw [HL.out]; rfl, hB.out⟩
def omnibusref01_Burst.f (a0 : ByteArray) (a1 a2 : Int) : Option ByteArray :=
  if a1 < 0 then some a0 else if a0.size ≤ 140737488351232 then
    (if 8 * (a0.size : Int) ≤ a1 then some a0 else
      (omnibusref01_mod.f a2).bind fun m => if 0 ≤ m ∧ m < 65536 then some (strOfNums (rturns m a1 (bytesOf a0) 16)) else none)
  else none
set_option maxRecDepth 100000 in
theorem omnibusref01_Burst.calls (a0 : ByteArray) (a1 a2 : Int) (r : ByteArray) (w : World) (h : omnibusref01_Burst.f a0 a1 a2 = some r) :
    Calls Try.prog 17 #[.string a0, .int .i64 a1, .int .i64 a2] w fun e w' => e = .returned (.string r) ∧ Below w.heap.size w w' := by
  unfold omnibusref01_Burst.f at h
  by_cases h0 : a1 < 0
  · rw [if_pos h0] at h
    obtain rfl := Option.some.inj h
    clear h
    have hd1 : decide (a1 < 0) = true := decide_eq_true h0
    go_enter Try.func17, Try.ntmps17
    go_wp2
    go_ret
    exact ⟨rfl, Below.refl _ _⟩
  · rw [if_neg h0] at h
    by_cases h2 : a0.size ≤ 140737488351232
    · rw [if_pos h2] at h
      by_cases h1 : 8 * (a0.size : Int) ≤ a1
      · rw [if_pos h1] at h
        obtain rfl := Option.some.inj h
        clear h
        have hd1 : decide (a1 < 0) = false := decide_eq_false h0
        have hd2 : decide (8 * (a0.size : Int) ≤ a1) = true := decide_eq_true h1
        go_enter Try.func17, Try.ntmps17
        go_wp2
        go_ret
        exact ⟨rfl, Below.refl _ _⟩
      · rw [if_neg h1] at h
        obtain ⟨m, hm, h⟩ := Option.bind_eq_some_iff.mp h
        by_cases h3 : 0 ≤ m ∧ m < 65536
        · rw [if_pos h3] at h
          obtain rfl := Option.some.inj h
          exact omnibusref01_Burst.main a0 a1 a2 m w (by omega) (by omega) h2 hm h3.1 h3.2
        · rw [if_neg h3] at h
          cases h
    · rw [if_neg h2] at h
      cases h

end Go.Proofs.Ythnnnhbfhimkpaa.R
