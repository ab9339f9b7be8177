/- Go functions as Lean functions, each with a proof that the machine's call comes to what its Lean function tells; no condition beside those that each theorem states. Written by this project's program drive.py. -/
import Derived.Test.YtbndfdplcojjgaaQx0
import Derived.Test.YtbndfdplcojjgaaQx1
namespace Go.Proofs.Ytbndfdplcojjgaa.Q
open Go.RowKit Go.Proofs.YtbndfdplcojjgaaW.PrintWords Go.Proofs.YtbndfdplcojjgaaW.PrintLast Go.Proofs.YtbndfdplcojjgaaW.PrintMore
attribute [local go_sem] max2_int min2_int max_two min_two max_three min_three max_four min_four   -- for this text's walks alone
set_option linter.unusedVariables false
set_option linter.unusedSimpArgs false

/-! The nodes of a vector: the iterator, and what is counted and gathered over it. -/
section
open Go.Shelf
attribute [local go_sem] Oper.semAt_some
def vbit (v : Int) (k : Nat) : Bool := Go.bits .and .i64 (v / 2 ^ k) 1 == 1
/-- Those of the first k nodes that v has. -/
def vl (v : Int) : Nat → List Int
  | 0 => []
  | k + 1 => if vbit v k = true then vl v k ++ [(k : Int)] else vl v k
theorem vl_length (v : Int) (k : Nat) : (vl v k).length ≤ k := by
  induction k with
  | zero => simp [vl]
  | succ k ih => unfold vl; split <;> first | (simp; omega) | omega
theorem vl_yes (v : Int) (k : Nat) (h : vbit v k = true) : vl v (k + 1) = vl v k ++ [(k : Int)] := by rw [vl, if_pos h]
theorem vl_no (v : Int) (k : Nat) (h : vbit v k = false) : vl v (k + 1) = vl v k := by rw [vl, if_neg (by rw [h]; decide)]
theorem vec_cell_of {W : World} {B : Nat} {v : Value} {t : TypeId} (h : W.heap[B]? = some (.cells #[v] t (0, 0))) : W.cell? ⟨B, 0, none⟩ = some v ∧ W.frozen? ⟨B, 0, none⟩ = false := by
  constructor <;> simp [World.cell?, World.frozen?, h]
/-- What a round keeps: the captured cell. -/
def cellKp (B : Nat) (v : Value) (W W' : World) : Prop := W.cell? ⟨B, 0, none⟩ = some v → W'.cell? ⟨B, 0, none⟩ = some v
theorem cellKp_t {B : Nat} {v : Value} {A C D : World} (h : cellKp B v A C) (k : cellKp B v C D) : cellKp B v A D := fun e => k (h e)
theorem cellKp_b {B : Nat} {v : Value} {w : World} (W : World) (l : Nat) (o o' : Obj) (_ : w.heap.size ≤ l) (h : W.heap[l]? = some o) (hc : o.isCells = false) (_ : o.isWalk = false) : cellKp B v W (W.putObj l o') := fun e =>
  cell_kept e (grownBy_putObj' W l o') (fun r er => by cases er; exact ⟨_, h, hc⟩)
theorem cellKp_far {B : Nat} {v : Value} (W : World) (p : Addr) (u : Value) (h : p.block ≠ B) : cellKp B v W (W.setCell p u) := fun e => by
  rw [World.cell?_setCell_far _ _ _ _ h]; exact e
set_option maxRecDepth 100000 in
set_option maxHeartbeats 1000000 in
theorem vec_nodes1_in (F : Fence) (n : Nat) (h19 : F.fn 19) (hro : F.round = none) (hn : 1 ≤ n) (l Bn : Nat) (v : Int) (J Jx : List Int → World → Prop)
    (hY : ∀ pre x W, J pre W → pre.length < 16 → YieldAt F (n - 1) Try.prog l #[.int .i64 x] W fun e W' =>
      (e = .returned (.bool true) ∧ J (pre ++ [x]) W' ∧ cellKp Bn (.int .i64 v) W W') ∨ (e = .returned (.bool false) ∧ Jx (pre ++ [x]) W'))
    (W : World) (hBn : W.cell? ⟨Bn, 0, none⟩ = some (.int .i64 v)) (h0 : J [] W) :
    CallsIn F n Try.prog 19 #[.func (.yield l) #[] #[], .pointer (some ⟨Bn, 0, none⟩)] W fun e W' => (∃ v, e = .returned v) ∧
      ((∃ ys, ys = vl v 16 ∧ J ys W') ∨ (∃ pre, True ∧ Jx pre W')) := by
  refine callsIn_of_wp Try.func19 rfl h19 ?_ hro
  simp only [Try.ntmps19, List.size_toArray, List.length_cons, List.length_nil, Nat.reduceAdd, Nat.reduceSub, Array.replicate_succ, Array.replicate_zero, List.push_toArray, List.append_toArray, List.nil_append, List.cons_append]
  gi_wp2
  gi_loopw [4] (fun i wr => ∃ k : Nat, k ≤ 16 ∧ i = .int .i64 k ∧ J (vl v k) wr ∧ wr.cell? ⟨Bn, 0, none⟩ = some (.int .i64 v)) (fun i _ => 16 - (intOf i).toNat)
  case atStart => exact ⟨0, by omega, rfl, h0, hBn⟩
  case round =>
    obtain ⟨k, hk, rfl, hJs, hcx⟩ := hrel
    by_cases hlt : k < 16
    · obtain ⟨fn, tmps, assign, body, hy, hR⟩ := hY (vl v k) (k : Int) wr hJs (by have := vl_length v k; omega)
      cases hbit : vbit v k with
      | true =>
        have hJ1 := vl_yes v k hbit
        have hbt : (Go.bits .and .i64 (v / 2 ^ k) 1 == 1) = true := hbit
        have HJ1 := Aside0.mk hJ1
        clear hJ1 hbit
        gi_wp2
        refine hR.mono ?_
        rintro e W3 (⟨rfl, hJ3, hk3⟩ | ⟨rfl, hJx3⟩)
        · gi_wp2
          go_roundw
          case rel => exact ⟨k + 1, by omega, by first | rfl | go_num, by rw [HJ1.out]; exact hJ3, hk3 hcx⟩
          case measure => simp [intOf]; omega
        · gi_wp2
          refine bodyPost_ret (results_none rfl _ _ _) rfl ?_
          exact ⟨⟨_, rfl⟩, .inr ⟨_, trivial, hJx3⟩⟩
      | false =>
        have hJ1 := vl_no v k hbit
        have hbt : (Go.bits .and .i64 (v / 2 ^ k) 1 == 1) = false := hbit
        have HJ1 := Aside0.mk hJ1
        clear hJ1 hbit
        gi_wp2
        refine ⟨fun _ h => (by cases h), ?_⟩
        gi_wp2
        go_roundw
        case rel => exact ⟨k + 1, by omega, by first | rfl | go_num, by rw [HJ1.out]; exact hJs, hcx⟩
        case measure => simp [intOf]; omega
    · obtain rfl : k = 16 := by omega
      gi_wp2
      go_end0
      exact ⟨⟨_, rfl⟩, .inl ⟨_, rfl, hJs⟩⟩
set_option maxHeartbeats 1000000 in
theorem vec_nodes_in (F : Fence) (n : Nat) (h17 : F.fn 17) (hro : F.round = none) (v : Int) (w : World) :
    CallsIn F n Try.prog 17 #[.int .i64 v] w fun e w' => e = .returned (.func (.func 19) #[] #[.pointer (some ⟨w.heap.size, 0, none⟩)]) ∧ w' = w.alloc (.cells #[.int .i64 v] 3) := by
  refine callsIn_of_wp Try.func17 rfl h17 ?_ hro
  simp only [Try.ntmps17, List.size_toArray, List.length_cons, List.length_nil, Nat.reduceAdd, Nat.reduceSub, Array.replicate_succ, Array.replicate_zero, List.push_toArray, List.append_toArray, List.nil_append, List.cons_append]
  gi_wp2
  go_ret
  exact ⟨rfl, rfl⟩
theorem vec_nodes_stops (F : Fence) (n : Nat) (h19 : F.fn 19) (hro : F.round = none) (hn : 1 ≤ n) (Bn : Nat) (v : Int) (w : World) (hBn : Bn < w.heap.size)
    (hc : w.cell? ⟨Bn, 0, none⟩ = some (.int .i64 v)) :
    SeqStopsK F n Try.prog 19 #[.pointer (some ⟨Bn, 0, none⟩)] (fun x : Int => #[Value.int .i64 x]) (cellKp Bn (.int .i64 v)) (fun ys => ys = vl v 16) (fun _ => True) 16 w := fun l J Jx W hW _ _ hY h0 =>
  vec_nodes1_in F n h19 hro hn l Bn v J Jx hY W ((hW.cell (p := ⟨Bn, 0, none⟩) hBn).trans hc) h0
end

/-! ### vec_Count: function 10 (proved by hand) -/
section
open Go.Shelf
attribute [local go_sem] Oper.semAt_some
/-- How many: as the loop counts. -/
def cntW : List Int → Int := List.foldl (fun s _ => wrap64 (s + 1)) 0
theorem cntW_snoc (pre : List Int) (x : Int) : cntW (pre ++ [x]) = wrap64 (cntW pre + 1) := by simp [cntW]
def vec_Count.f (a0 : Int) : Option Int := some (cntW (vl a0 16))
set_option maxRecDepth 100000 in
set_option maxHeartbeats 2000000 in
theorem vec_Count_in (v : Int) (w : World) :
    CallsIn Fence.wide 5 Try.prog 10 #[.int .i64 v] w fun e W' => e = .returned (.int .i64 (cntW (vl v 16))) ∧ Below w.heap.size w W' := by
  have h1 : 1 ≤ 5 := by omega
  refine callsIn_of_wp_marks Try.func10 rfl trivial ?_ rfl
  simp only [Try.ntmps10, List.size_toArray, List.length_cons, List.length_nil, Nat.reduceAdd, Nat.reduceSub, Array.replicate_succ, Array.replicate_zero, List.push_toArray, List.append_toArray, List.nil_append, List.cons_append]
  gi_wp2_with (refine ⟨trivial, ?_⟩; gi_at_call 17; refine (vec_nodes_in Fence.wide (5 - 1) trivial rfl _ _).mono ?_; rintro e w' ⟨rfl, rfl⟩)
  have bS := Boxed.new w 3 (.int .i64 0)
  have bN := Boxed.new (w.alloc (.cells #[.int .i64 0] 3)) 3 (.int .i64 v)
  rw [World.size_alloc] at bN
  have hB0 : Below w.heap.size w ((w.alloc (.cells #[.int .i64 0] 3)).alloc (.cells #[.int .i64 v] 3)) := ((Below.refl _ w).alloc (Nat.le_refl _) _).alloc (by simp) _
  refine wpIn_rangeFunc_ownG rfl h1 (gf := 19) (lb := #[.pointer (some ⟨w.heap.size + 1, 0, none⟩)]) rfl trivial (enters_of Try.func19 (by kernel_rfl) rfl)
    (vec_nodes_stops Fence.wide (5 - 1) trivial rfl (by omega) (w.heap.size + 1) v _ (by simp) bN.cell) cellKp_t cellKp_b (Below.refl _ _) (fun _ => rfl)
    (fun pre W => (W.cell? ⟨w.heap.size, 0, none⟩ = some (.int .i64 (cntW pre)) ∧ W.frozen? ⟨w.heap.size, 0, none⟩ = false) ∧ Below w.heap.size w W)
    (fun _ _ _ => False)
    (OwnFrom.and (Own.from (fun s A B row hs hg hr => ⟨cell_kept hs.1 hg hr, (frozen_kept hs.1 hg hr).trans hs.2⟩) _) (ownFrom_below (Nat.le_refl _) (by simp; omega)))
    (fun _ _ _ _ _ hs _ _ => hs)
    ⟨⟨(bS.alloc _).cell, (bS.alloc _).frozen⟩, hB0⟩
    (fun x => { tmps := #[.int .i64 v, undef, .pointer (some ⟨w.heap.size, 0, none⟩), .int .i64 v, .func (.func 19) #[] #[.pointer (some ⟨w.heap.size + 1, 0, none⟩)], .int .i64 x, undef, undef, undef], defers := [] }) ?assign ?body ?done ?stop
  case assign =>
    intro l x W K hK
    gi_wp2
    first | exact hK | (simp; exact hK)
  case body =>
    rintro l pre x W ⟨⟨hc, hf⟩, hB⟩ _
    gi_wp2
    exact ⟨(KeepsOthers.setCell _ _ _).from _, cellKp_far _ _ _ (by simp), ⟨by rw [cntW_snoc]; exact World.cell?_setCell_same' _ _ _ (by rw [hc]; rfl), by rw [World.frozen?_setCell]; exact hf⟩, hB.setCell (p := ⟨w.heap.size, 0, none⟩) (Nat.le_refl _) _⟩
  case done =>
    rintro D ys W hD rfl ⟨⟨hc, hf⟩, hB⟩ hK
    gi_wp2
    have hK' := (KeepsOthers.setCell W ⟨w.heap.size, 0, none⟩ (.int .i64 (cntW (vl v 16)))).same D _ hK rfl
    have hc4 : (W.setCell ⟨w.heap.size, 0, none⟩ (.int .i64 (cntW (vl v 16)))).cell? ⟨w.heap.size, 0, none⟩ = some (.int .i64 (cntW (vl v 16))) := World.cell?_setCell_same' _ _ _ (by rw [hc]; rfl)
    have hc5 := cell_kept hc4 (grownBy_putObj' _ D (.deferred none)) (fun r e => by cases e; exact ⟨_, hK', rfl⟩)
    refine ⟨by simp, .inl ⟨_, _, rfl, run_takeDeferred hK', ?_⟩⟩
    refine ⟨.int .i64 (cntW (vl v 16)), ?_, rfl, (hB.setCell (p := ⟨w.heap.size, 0, none⟩) (Nat.le_refl _) _).trans (belowK_b (w := w) (Nat.le_refl _) _ D _ _ (by simp at hD; omega) hK' rfl rfl)⟩
    simp [results, Try.f10, go_sem, hc5]
  case stop =>
    rintro D c pre W _ _ h _
    exact h.elim
theorem vec_Count.calls (a0 : Int) (r : Int) (w : World) (h : vec_Count.f a0 = some r) : Calls Try.prog 10 #[.int .i64 a0] w fun e w' => e = .returned (.int .i64 r) ∧ Below w.heap.size w w' := by
  obtain rfl := Option.some.inj h
  exact callsIn_wide.1 (vec_Count_in a0 w)
end

/-! ### vec_Most: function 8 -/
def vec_Most.f (a0 : Int) (a1 : Int) : Option (Bool) := if a1 ≥ 1 then (if a1 ≤ 16 then ((vec_All.f a1).bind fun t102 => ((vec_Count.f (Go.bits .and .i64 a0 t102)).bind fun t103 => (some (decide ((wrap64 (2 * t103)) > a1))))) else (some false)) else (some false)
set_option maxHeartbeats 8000000 in
set_option maxRecDepth 100000 in
theorem vec_Most.calls (a0 : Int) (a1 : Int) (r : Bool) (w : World) (h : vec_Most.f a0 a1 = some r) :
    Calls Try.prog 8 #[.int .i64 a0, .int .i64 a1] w fun e w' => e = .returned (.bool r) ∧ Below w.heap.size w w' := by
  have HB := Aside0.mk (Below.refl w.heap.size w)
  have H : (if a1 ≥ 1 then (if a1 ≤ 16 then ((vec_All.f a1).bind fun t102 => ((vec_Count.f (Go.bits .and .i64 a0 t102)).bind fun t103 => (some (decide ((wrap64 (2 * t103)) > a1))))) else (some false)) else (some false)) = some r := h
  clear h
  by_cases c3 : a1 ≥ 1
  · rw [if_pos c3] at H
    have c3b0 : decide (1 ≤ a1) = true := decide_eq_true c3
    clear c3
    by_cases c4 : a1 ≤ 16
    · rw [if_pos c4] at H
      have c4b0 : decide (a1 ≤ 16) = true := decide_eq_true c4
      clear c4
      replace H := Option.bind_eq_some_iff.mp H
      obtain ⟨t102, A50, H⟩ := H
      replace H : ((vec_Count.f (Go.bits .and .i64 a0 t102)).bind fun t103 => (some (decide ((wrap64 (2 * t103)) > a1)))) = some r := H
      have A5 := Aside0.mk A50
      clear A50
      replace H := Option.bind_eq_some_iff.mp H
      obtain ⟨t103, A60, H⟩ := H
      replace H : (some (decide ((wrap64 (2 * t103)) > a1))) = some r := H
      have A6 := Aside0.mk A60
      clear A60
      obtain rfl := Option.some.inj H
      go_enter Try.func8, Try.ntmps8
      go_wp2_with (first | (go_at_call 9; (with_reducible refine (vec_All.calls a1 t102 _ A5.out).mono ?_); rintro e w7 ⟨rfl, hb⟩; have n0_ := Aside0.mk (below_step (by repeat (first | (with_reducible first | exact HB.out | apply below_alloc | apply pw_below_drewN | apply below_drew1) | exact HB.out)) hb); clear HB; have HB := n0_; clear n0_; (try clear hb); (try clear hb2); (try clear hk); (try clear hi)) | (go_at_call 10; (with_reducible refine (vec_Count.calls (Go.bits .and .i64 a0 t102) t103 _ A6.out).mono ?_); rintro e w8 ⟨rfl, hb⟩; have n0_ := Aside0.mk (below_step (by repeat (first | (with_reducible first | exact HB.out | apply below_alloc | apply pw_below_drewN | apply below_drew1) | exact HB.out)) hb); clear HB; have HB := n0_; clear n0_; (try clear hb); (try clear hb2); (try clear hk); (try clear hi)))
      go_ret
      exact ⟨by first | rfl | (simp [errW_none, errW_some] <;> rfl) | (simp [*, errW_none, errW_some] <;> rfl), by repeat (first | (with_reducible first | exact HB.out | apply below_alloc | apply pw_below_drewN | apply below_drew1) | exact HB.out)⟩
    · rw [if_neg c4] at H
      have c4b0 : decide (a1 ≤ 16) = false := decide_eq_false c4
      clear c4
      obtain rfl := Option.some.inj H
      go_enter Try.func8, Try.ntmps8
      go_wp2
      go_ret
      exact ⟨by first | rfl | (simp [errW_none, errW_some] <;> rfl) | (simp [*, errW_none, errW_some] <;> rfl), by repeat (first | (with_reducible first | exact HB.out | apply below_alloc | apply pw_below_drewN | apply below_drew1) | exact HB.out)⟩
  · rw [if_neg c3] at H
    have c3b0 : decide (1 ≤ a1) = false := decide_eq_false c3
    clear c3
    obtain rfl := Option.some.inj H
    go_enter Try.func8, Try.ntmps8
    go_wp2
    go_ret
    exact ⟨by first | rfl | (simp [errW_none, errW_some] <;> rfl) | (simp [*, errW_none, errW_some] <;> rfl), by repeat (first | (with_reducible first | exact HB.out | apply below_alloc | apply pw_below_drewN | apply below_drew1) | exact HB.out)⟩

/-! ### vec_cut: function 18 -/
def vec_cut.f (a0 : Int) : Option (Int) := some (Go.bits .and .i64 a0 65535)
set_option maxHeartbeats 8000000 in
set_option maxRecDepth 100000 in
theorem vec_cut.calls (a0 : Int) (r : Int) (w : World) (h : vec_cut.f a0 = some r) :
    Calls Try.prog 18 #[.int .i64 a0] w fun e w' => e = .returned (.int .i64 r) ∧ Drawn0 w w' := by
  have H : (some (Go.bits .and .i64 a0 65535)) = some r := h
  clear h
  obtain rfl := Option.some.inj H
  go_enter Try.func18, Try.ntmps18
  go_wp2
  go_ret
  exact ⟨by first | rfl | (simp; done) | (simp [*]; done), by repeat (first | exact Drawn0.refl _ | apply Drawn0.step)⟩

end Go.Proofs.Ytbndfdplcojjgaa.Q
