/- Go functions as Lean functions, each with a proof that the machine's call comes to what its Lean function tells; no condition beside those that each theorem states. Written by this project's program drive.py. -/
import Derived.Test.YtemajoafhamhgaaDoorBase
import Derived.Test.YtemajoafhamhgaaDoorQx0
import Derived.Test.YtemajoafhamhgaaDoorQx2
import Derived.Test.YtemajoafhamhgaaDoorQx6
namespace Go.Proofs.YtemajoafhamhgaaDoor.Q
open Go.RowKit Go.Proofs.YtemajoafhamhgaaDoorW.PrintWords Go.Proofs.YtemajoafhamhgaaDoorW.PrintLast Go.Proofs.YtemajoafhamhgaaDoorW.PrintMore
attribute [local go_sem] Go.Proofs.YtemajoafhamhgaaDoor.Base.cell_there
attribute [local go_sem] max2_int min2_int max_two min_two max_three min_three max_four min_four   -- for this text's walks alone
set_option linter.unusedVariables false
set_option linter.unusedSimpArgs false

/-! ### ident_Any: function 26 (proved by hand) -/
/-- Whether one of the filters lets an identifier through, asked one by one. -/
def anyW (e : Bool) (n : Int) : List S40 → Option Bool
  | [] => some false
  | x :: l => (ident_Match.f x.f0 x.f1 x.f2 e n).bind fun t => if t = true then some true else anyW e n l
theorem any_closure (f0 : Bool) (f1 f2 : Int) (e : Bool) (n : Int) (r : Bool) (B : Nat) (w : World) (hG0 : GV w) (h0 : w.cell? ⟨B, 0, none⟩ = some (.bool e)) (h1 : w.cell? ⟨B, 1, none⟩ = some (.int .i64 n)) (h : ident_Match.f f0 f1 f2 e n = some r) :
    Calls Tryd.prog 33 #[.agg #[.bool f0, .int .i64 f1, .int .i64 f2], .pointer (some ⟨B, 0, none⟩)] w fun en w' => en = .returned (.bool r) ∧ Below w.heap.size w w' := by
  have HG := Aside0.mk hG0
  have A := Aside0.mk h
  have hlt := World.block_lt_of_cell? w _ h0
  have a0 : (w.alloc (.cells #[.bool f0, .int .i64 f1, .int .i64 f2] 40)).cell? ⟨B, 0, none⟩ = some (.bool e) := (World.cell?_alloc_lt _ _ _ hlt).trans h0
  have a1 : (w.alloc (.cells #[.bool f0, .int .i64 f1, .int .i64 f2] 40)).cell? ⟨B, 1, none⟩ = some (.int .i64 n) := (World.cell?_alloc_lt w _ ⟨B, 1, none⟩ hlt).trans h1
  clear hG0 h hlt
  have hu23 := Tryd.underlying23
  have hu40 := Tryd.underlying40
  go_enter Tryd.func33, Tryd.ntmps33
  go_wp2_with (first | (go_at_call 24; refine (ident_Match.calls f0 f1 f2 e n r _ (GV.below (below_alloc (Below.refl _ _) _) HG.out) A.out).mono ?_; rintro e w' ⟨rfl, hb⟩))
  go_ret
  exact ⟨rfl, below_step (below_alloc (Below.refl _ _) _) hb⟩
theorem any_less (n k : Nat) (x : Int) (hx : x = ((k + 1 : Nat) : Int)) (h : k < n) : n - (intOf (.int .i64 x)).toNat < n - (intOf (.int .i64 (k : Int))).toNat := by
  subst hx
  show n - ((k + 1 : Nat) : Int).toNat < n - ((k : Nat) : Int).toNat
  rw [Int.toNat_natCast, Int.toNat_natCast]
  omega
theorem any_index (l : List S40) (Al : Option Addr) (c : Nat) (e : Bool) (n : Int) (r : Bool) (B : Nat) (w : World) (hG0 : GV w) (h0 : w.cell? ⟨B, 0, none⟩ = some (.bool e)) (h1 : w.cell? ⟨B, 1, none⟩ = some (.int .i64 n))
    (hr : Kd.C k40 w Al l.length l) (hc : l.length ≤ c) (hlen : l.length ≤ 1000) (h : anyW e n l = some r) :
    Calls Tryd.prog 35 #[.slice Al l.length c, .func (.func 33) #[] #[.pointer (some ⟨B, 0, none⟩)]] w fun en w' => (∃ j : Int, en = .returned (.int .i64 j) ∧ decide (0 ≤ j) = r) ∧ Below w.heap.size w w' := by
  have HG := Aside0.mk hG0
  have H0 := Aside0.mk h0
  have H1 := Aside0.mk h1
  have HR := Aside0.mk hr
  have A := Aside0.mk h
  have HLen := Aside0.mk hlen
  clear hG0 h h0 h1 hr hlen
  have hu23 := Tryd.underlying23
  have hu40 := Tryd.underlying40
  go_enter Tryd.func35, Tryd.ntmps35
  go_wp2_with fail
  go_loopw [8] (fun i W => ∃ k : Nat, k ≤ l.length ∧ i = .int .i64 k ∧ Aside0 (anyW e n (l.drop k) = some r) ∧ Aside0 (Below w.heap.size w W)) (fun i _ => l.length - (intOf i).toNat)
  case atStart => exact ⟨0, by omega, rfl, A, ⟨Below.refl _ _⟩⟩
  case round =>
    obtain ⟨k, hk, rfl, hA, hB⟩ := hrel
    clear A
    by_cases hlt : k < l.length
    · have ed : l.drop k = rd_T40 l k :: l.drop (k + 1) := by
        rw [List.drop_eq_getElem_cons hlt]
        congr 1
        unfold rd_T40
        rw [Int.toNat_natCast, List.getD_eq_getElem?_getD, List.getElem?_eq_getElem hlt]
        rfl
      have hA2 := hA.out
      rw [ed, anyW] at hA2
      obtain ⟨t, ht, hA3⟩ := Option.bind_eq_some_iff.mp hA2
      have HT := Aside0.mk ht
      obtain ⟨ad, ead, x0, x1, x2⟩ := at_T40 HR.out k (by omega) (by omega)
      subst ead
      replace x0 := (hB.out.cell (World.block_lt_of_cell? w _ x0)).trans x0
      replace x1 := (hB.out.cell (World.block_lt_of_cell? w _ x1)).trans x1
      replace x2 := (hB.out.cell (World.block_lt_of_cell? w _ x2)).trans x2
      simp only [Int.toNat_natCast] at x0 x1 x2
      have d1 : decide ((k : Int) < (l.length : Int)) = true := decide_eq_true (by omega)
      have p0 : (0 ≤ (k : Int)) = True := eq_true (by omega)
      have p1 : ((k : Int) < (l.length : Int)) = True := eq_true (by omega)
      clear hA hA2 ht ed
      cases t with
      | true =>
        rw [if_pos rfl] at hA3
        obtain rfl := Option.some.inj hA3
        clear hA3
        go_wp2_with (first | (go_at_call 33; refine (any_closure _ _ _ e n true B _ (GV.below hB.out HG.out) ((hB.out.cell (World.block_lt_of_cell? w _ H0.out)).trans H0.out) ((hB.out.cell (World.block_lt_of_cell? w _ H1.out)).trans H1.out) HT.out).mono ?_; rintro e w' ⟨rfl, hb⟩))
        go_ret
        exact ⟨⟨k, rfl, by simp⟩, below_step hB.out hb⟩
      | false =>
        rw [if_neg (by decide)] at hA3
        have HA3 := Aside0.mk hA3
        clear hA3
        go_wp2_with (first | (go_at_call 33; refine (any_closure _ _ _ e n false B _ (GV.below hB.out HG.out) ((hB.out.cell (World.block_lt_of_cell? w _ H0.out)).trans H0.out) ((hB.out.cell (World.block_lt_of_cell? w _ H1.out)).trans H1.out) HT.out).mono ?_; rintro e w' ⟨rfl, hb⟩))
        go_roundw
        case rel =>
          have hl := HLen.out
          have hw : (k : Int) + 1 ≤ 1000 := by omega
          exact ⟨k + 1, by omega, congrArg (Value.int .i64) (by unfold wrap64; omega), HA3, ⟨below_step hB.out hb⟩⟩
        case measure => have hl := HLen.out; exact any_less l.length k _ (by unfold wrap64; omega) hlt
    · obtain rfl : k = l.length := by omega
      have hA2 := hA.out
      rw [List.drop_length, anyW] at hA2
      obtain rfl := Option.some.inj hA2
      clear hA hA2
      have d1 : decide ((l.length : Int) < (l.length : Int)) = false := decide_eq_false (by omega)
      go_wp2
      go_ret
      exact ⟨⟨-1, rfl, by decide⟩, hB.out⟩
theorem any_contains (l : List S40) (Al : Option Addr) (c : Nat) (e : Bool) (n : Int) (r : Bool) (B : Nat) (w : World) (hG0 : GV w) (h0 : w.cell? ⟨B, 0, none⟩ = some (.bool e)) (h1 : w.cell? ⟨B, 1, none⟩ = some (.int .i64 n))
    (hr : Kd.C k40 w Al l.length l) (hc : l.length ≤ c) (hlen : l.length ≤ 1000) (h : anyW e n l = some r) :
    Calls Tryd.prog 32 #[.slice Al l.length c, .func (.func 33) #[] #[.pointer (some ⟨B, 0, none⟩)]] w fun en w' => en = .returned (.bool r) ∧ Below w.heap.size w w' := by
  have HX := Aside0.mk (any_index l Al c e n r B w hG0 h0 h1 hr hc hlen h)
  clear hG0 h0 h1 hr hc hlen h
  go_enter Tryd.func32, Tryd.ntmps32
  go_wp2_with (first | (go_at_call 35; refine HX.out.mono ?_; rintro e w' ⟨⟨j, rfl, hj⟩, hb⟩; have hj2 : decide (j ≥ 0) = r := hj))
  go_ret
  exact ⟨by first | rfl | (rw [hj2]) | (simp [hj2]), hb⟩
def ident_Any.f (a0_0 : Bool) (a0_1 : Int) (l1 : List S40) : Option Bool := if l1.length ≤ 1000 then anyW a0_0 a0_1 l1 else none
theorem ident_Any.calls (a0_0 : Bool) (a0_1 : Int) (A1 : Option Addr) (c1 : Nat) (l1 : List S40) (r : Bool) (w : World) (hG0 : GV w) (hr1 : Kd.C k40 w A1 l1.length l1) (hc1 : l1.length ≤ c1) (h : ident_Any.f a0_0 a0_1 l1 = some r) :
    Calls Tryd.prog 26 #[.agg #[.bool a0_0, .int .i64 a0_1], .slice A1 l1.length c1] w fun e w' => e = .returned (.bool r) ∧ Below w.heap.size w w' := by
  unfold ident_Any.f at h
  by_cases hlen : l1.length ≤ 1000
  · rw [if_pos hlen] at h
    have hB1 : Below w.heap.size w (w.alloc (.cells #[.bool a0_0, .int .i64 a0_1] 23)) := below_alloc (Below.refl _ _) _
    have HX := Aside0.mk (any_contains l1 A1 c1 a0_0 a0_1 r w.heap.size (w.alloc (.cells #[.bool a0_0, .int .i64 a0_1] 23)) (GV.below hB1 hG0) ((blk_cell (heap_alloc_new w _) 0).trans rfl) ((blk_cell (heap_alloc_new w _) 1).trans rfl) (Kd.C_alloc hr1 _) hc1 hlen h)
    have HB1 := Aside0.mk hB1
    clear hG0 hr1 hc1 h hlen hB1
    have hu23 := Tryd.underlying23
    go_enter Tryd.func26, Tryd.ntmps26
    go_wp2_with (first | (go_at_call 32; refine HX.out.mono ?_; rintro e w' ⟨rfl, hb⟩))
    go_ret
    exact ⟨rfl, below_step HB1.out hb⟩
  · rw [if_neg hlen] at h
    cases h

end Go.Proofs.YtemajoafhamhgaaDoor.Q
