/- The row of the law IdentFilters, out of what its function's text comes to; no condition beside those that each theorem states. Written by this project's program rxlaw.py. -/
import Derived.Test.YtemajoafhamhgaaDoorRows
import Derived.Test.YtemajoafhamhgaaDoorRTells
import Derived.WalkKit
import Derived.ProofKit
import Derived.OpenShut
import Derived.ShutString
import Derived.ChangeOld
import Derived.Below
import Derived.SizedLaws
import Derived.Carry
import Derived.Deep.DeepHandedRow
import Derived.Lib.LaidTab
import Derived.Test.YtemajoafhamhgaaDoorCards
import Derived.Test.YtemajoafhamhgaaDoorTie
namespace Go.Proofs.YtemajoafhamhgaaDoor.identFilters
open Go.ChangeShapes Go.WideShapes Go.ChangeAt Go.RowKit Go.Proofs.YtemajoafhamhgaaDoor.X
open Go.ChangeMaps (open_string shut_string)
set_option linter.unusedVariables false
theorem own : ownKnob Tryd.prog.godebug = none := by kernel_rfl
theorem laidOut : laidOutB Tryd.prog = true := by kernel_rfl
theorem gTab : Tryd.prog.globalNamed "omnibus/ident.greatest" = some 0 := by kernel_rfl
theorem gTabType : (Tryd.prog.globals[0]?).map (·.type) = some 60 := by kernel_rfl
theorem cellsTab : Tryd.prog.cellsOf 60 = 2 := by kernel_rfl
theorem cellsOne : Tryd.prog.cellsOf 3 = 1 := by kernel_rfl
/-- What the row's list gives: the variable's cells hold its numbers. -/
theorem table {W : World} (h : laidMetH Tryd.prog Rows.identFiltersRow.laid W) : Lib.TabIs Tryd.prog W "omnibus/ident.greatest" .i64 [2047, 536870911] :=
  Lib.tabIs_of_head (rest := []) gTab gTabType Tryd.underlying60 Tryd.underlying3 cellsOne cellsTab h
/-- A world for the witness: the settled one, the variable as it is laid. -/
noncomputable def laidWorld (os : Os) : World :=
  { World.holding Tryd.prog os ⟨#[], #[], []⟩ with heap := (World.holding Tryd.prog os ⟨#[], #[], []⟩).heap.modify 0 fun
      | .cells _ t frozen => .cells #[.int .i64 2047, .int .i64 536870911] t frozen
      | o => o }
theorem laid_met (os : Os) : laidMet Tryd.prog Rows.identFiltersRow.laid ((laidWorld os).forCall (fun _ _ => 0) ⟨#[], #[.agg #[.bool false, .int .i64 0], .slice none 0 0], []⟩).memory :=
  laidMet_of_run' 8 (by kernel_rfl) (by kernel_rfl)
theorem reads (os : Os) {H : Type} (enc : TypeId × Value → H) : ∃ d places, DataW.whole enc Tryd.prog ((laidWorld os).forCall (fun _ _ => 0) ⟨#[], #[.agg #[.bool false, .int .i64 0], .slice none 0 0], []⟩).memory Tryd.f4.params.toList Rows.identFiltersSpec.vars false (#[Value.agg #[Value.bool false, Value.int .i64 0], Value.slice none 0 0] : Array Value).toList 8 = some (d, [], places) :=
  ⟨[.agg [.lit (.bool false), .lit (.int .i64 0)], .nil], [], by kernel_rfl⟩
set_option maxHeartbeats 8000000 in
set_option maxRecDepth 100000 in
theorem lifted (os : Os) (started : os.Started) (H : Type) (enc : TypeId × Value → H) (F : Stop.Interp) :
    ReturnsInHanded {} Tryd.checked os 4 .any ((OpenSpec.ofChange Rows.identFiltersSpec).preRow enc Tryd.prog Tryd.f4 Rows.identFiltersRow.domain false Rows.identFiltersRow.laid) (((OpenSpec.ofChange Rows.identFiltersSpec).at F).post enc Tryd.prog Tryd.f4 false true false false) := by
  obtain ⟨d, places, hx⟩ := reads os enc
  refine returnsInHanded_of_row (C := Tryd.checked) (s := OpenSpec.ofChange Rows.identFiltersSpec) own started (by kernel_rfl) Tryd.func4
    (witness_row_at (enc := enc) (C := Tryd.checked) false (laidWorld os) #[.agg #[.bool false, .int .i64 0], .slice none 0 0] rfl (by kernel_rfl) (by kernel_rfl) (by kernel_rfl)
      (OpenSpec.preRow_of_cond 8 hx (by kernel_rfl) (fun k hk => by cases hk) (by kernel_rfl) (laid_met os))) ?_
  intro W base args ds gs before hval0 hW hcnd _ hsz0 hL _ _
  have hsz : (DataW.weightsEach Tryd.prog (Tryd.f4.params.toList ++ Rows.identFiltersSpec.plain.varTypes Tryd.prog) (ds ++ gs)).all (· ≤ reachBytes) = true := hsz0
  have hval : ∀ (j : Nat) t v, Tryd.f4.params[j]? = some t → args[j]? = some v → Value.okWide Tryd.prog W .any base t v := hval0
  have hW' := hW
  obtain ⟨p, q, hA0, hV, rfl, hfz, hnd⟩ := hW
  have hA : DataW.TrodAll enc Tryd.prog W 0 (fun _ => true) true Tryd.f4.params.toList args.toList ds p := hA0
  rw [Tryd.params4] at hA hval hsz
  obtain ⟨v0, vs0, d0, ds0, p0, q0, hargs, rfl, rfl, h0, r0⟩ := trodAll_cons hA
  obtain ⟨v1, vs1, d1, ds1, p1, q1, rfl, rfl, rfl, h1, r1⟩ := trodAll_cons r0
  obtain ⟨rfl, rfl, rfl⟩ := trodAll_nil r1
  obtain rfl : args = #[v0, v1] := by cases args; simp_all
  obtain ⟨rfl, rfl⟩ := trodVars_none hV
  have k0 := h0
  have lt0 : ∀ x ∈ p0, x.block < W.heap.size := by obtain ⟨m, hm⟩ := k0; exact DataW.trod_lt m _ _ _ hm
  obtain ⟨cs0, rfl, L0_0⟩ := RX.open_agg (L := [.bool, .int .i64]) 8 (by kernel_rfl) (by kernel_rfl) (hval 0 23 v0 rfl rfl) h0
  obtain ⟨c0_0, cs0_0, rfl, l0_0, L0_1⟩ := L0_0.cons
  obtain ⟨a0_0, rfl⟩ := l0_0
  obtain ⟨c0_1, cs0_1, rfl, l0_1, L0_2⟩ := L0_1.cons
  obtain ⟨a0_1, rfl, w0_1⟩ := l0_1
  obtain rfl := L0_2.nil
  have k1 := h1
  have lt1 : ∀ x ∈ p1, x.block < W.heap.size := by obtain ⟨m, hm⟩ := k1; exact DataW.trod_lt m _ _ _ hm
  have l1 := RX.leaf_of_slice (e := 40) (by kernel_rfl) (hval 1 37 v1 rfl rfl) h1
  obtain ⟨a1, r1, o1, n1⟩ := RX.open_sl (U := U) (c := Kind.filter) (L := [.bool, .int .i64, .int .i64]) 8 (by kernel_rfl) (by kernel_rfl) (by decide) (Ok := okK Kind.filter) (fun cs1 L1_0 => by
      obtain ⟨c1_0, cs1_0, rfl, l1_0, L1_1⟩ := L1_0.cons
      obtain ⟨a1_0, rfl⟩ := l1_0
      obtain ⟨c1_1, cs1_1, rfl, l1_1, L1_2⟩ := L1_1.cons
      obtain ⟨a1_1, rfl, w1_1⟩ := l1_1
      obtain ⟨c1_2, cs1_2, rfl, l1_2, L1_3⟩ := L1_2.cons
      obtain ⟨a1_2, rfl, w1_2⟩ := l1_2
      obtain rfl := L1_3.nil
      exact ⟨⟨a1_0, a1_1, a1_2⟩, (RX.cvl_v _ rfl (RX.cvl_v _ rfl (RX.cvl_v _ rfl RX.cvl_nil))), ⟨(wf64 w1_1), (wf64 w1_2)⟩⟩) l1
  clear hA0 hval0 hsz0 hsz
  have hv : RX.ArgsD U W [⟨true, [.v (.bool a0_0), .v (.int .i64 a0_1)]⟩, ⟨false, [.sl .filter a1]⟩] _ := (.cons (RX.den_agg (RX.cvl_v _ rfl (RX.cvl_v _ rfl RX.cvl_nil))) (.cons (RX.den_sl r1) .nil))
  have hg : Filters_S [⟨true, [.v (.bool a0_0), .v (.int .i64 a0_1)]⟩, ⟨false, [.sl .filter a1]⟩] = some ⟨_, .one ⟨false, [.v (.bool true)]⟩⟩ := rfl
  have hc := RX.law_args Filters_ok hg (trivial) W ⟨(table hL).cell gTab 0 (by decide), (table hL).cell gTab 1 (by decide)⟩ (args := #[_, _]) hv.all.1 (fun j d v e1 e2 => hv.all.2 j d v e1 (by have q := e2; rw [← Array.getElem?_toList] at q; exact q))
  refine hc.mono fun e W' ⟨he, bel⟩ => ?_
  subst he
  exact ⟨_, rfl, _, _, _, [], _, [], hW', trodAll_mk1 (shut_bool Tryd.underlying4 _), (trodAll_cons_mk (Below.trod laidOut (by kernel_rfl) (of_decide_eq_true (by kernel_rfl)) k0 bel lt0) (trodAll_cons_mk (Below.trod laidOut (by kernel_rfl) (of_decide_eq_true (by kernel_rfl)) k1 bel lt1) trodAll_mk0)), rfl, bel.frame _, fun h => by cases h⟩
theorem said : Rows.IdentFiltersSaid :=
  OpenClaim.holds_of_cond 4 Tryd.f4 rfl rfl rfl rfl rfl rfl rfl ⟨rfl, rfl, rfl, rfl, rfl⟩ rfl rfl rfl rfl rfl (by kernel_rfl) Tryd.func4 (by kernel_rfl)
    (of_decide_eq_true (by kernel_rfl)) (by unfold Func.isWrapper; first | (rw [if_pos (by decide +kernel)]; kernel_rfl) | (rw [if_neg (by decide +kernel)]; exact ⟨rfl, rfl⟩))
    (fun os started H enc _ F => by rw [OpenClaim.pre_eq_preRow]; exact lifted os started H enc F)
theorem plain (f : FuncId) (fn : Func) (hf : Tryd.pinned.checked.prog.funcNamed "omnibus/omnibuslaw02.IdentFilters" = some f) (hfn : Tryd.pinned.checked.prog.funcs[f]? = some fn) :
    false = Tryd.pinned.checked.prog.looks [] ∧ ∀ (j : Nat) t, fn.params[j]? = some t → Tryd.pinned.checked.prog.wantsStandIn t = false := by
  obtain rfl : f = 4 := Option.some.inj ((show Tryd.prog.funcNamed "omnibus/omnibuslaw02.IdentFilters" = some 4 by kernel_rfl).symm.trans hf) |>.symm
  obtain rfl : fn = Tryd.f4 := (Option.some.inj (Tryd.func4.symm.trans hfn)).symm
  refine ⟨by kernel_rfl, fun j t ht => ?_⟩
  rw [Tryd.params4] at ht
  have hm := Array.mem_of_getElem? ht
  have hm' : t ∈ [23, 37] := by first | simpa using hm | (simp at hm ⊢; omega)
  have h23 : Tryd.prog.wantsStandIn 23 = false := by kernel_rfl
  have h37 : Tryd.prog.wantsStandIn 37 = false := by kernel_rfl
  simp only [List.mem_cons, List.not_mem_nil, or_false] at hm'
  rcases hm' with rfl | rfl <;> assumption
theorem proved : Rows.IdentFiltersCardSaid :=
  Claim7.holds_tied_plain_at .later [] _ _ _ _ said (fun _ h => by cases h) (by kernel_rfl) (fun _ h => by cases h) identFilters_row_tie rfl ⟨rfl, rfl⟩ (by kernel_rfl) rfl plain (by kernel_rfl)
#print axioms proved
end Go.Proofs.YtemajoafhamhgaaDoor.identFilters
namespace Go.Proofs.YtemajoafhamhgaaDoor
/-- The row, under a short name, for the claim. -/
theorem identFilters_holds : Rows.IdentFiltersCardSaid := identFilters.proved
end Go.Proofs.YtemajoafhamhgaaDoor
