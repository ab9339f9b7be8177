/- The row of the law EntryLengths, out of what its function's text comes to; no condition beside those that each theorem states. Written by this project's program rxlaw.py. -/
import Derived.Test.YtdpoimomipdgjaaDoorRows
import Derived.Test.YtdpoimomipdgjaaDoorRLlen06
import Derived.WalkKit
import Derived.ProofKit
import Derived.OpenShut
import Derived.ShutString
import Derived.ChangeOld
import Derived.Below
import Derived.SizedLaws
import Derived.Carry
import Derived.Deep.DeepHandedRow
import Derived.Lib.LaidTab
import Derived.Test.YtdpoimomipdgjaaDoorCards
import Derived.Test.YtdpoimomipdgjaaDoorTie
namespace Go.Proofs.YtdpoimomipdgjaaDoor.entryLengths
open Go.ChangeShapes Go.WideShapes Go.ChangeAt Go.RowKit Go.Proofs.YtdpoimomipdgjaaDoor.X
open Go.ChangeMaps (open_string shut_string)
set_option linter.unusedVariables false
theorem own : ownKnob Tryd.prog.godebug = none := by kernel_rfl
theorem laidOut : laidOutB Tryd.prog = true := by kernel_rfl
theorem gTab : Tryd.prog.globalNamed "omnibus/ident.greatest" = some 0 := by kernel_rfl
theorem gTabType : (Tryd.prog.globals[0]?).map (·.type) = some 111 := by kernel_rfl
theorem cellsTab : Tryd.prog.cellsOf 111 = 2 := by kernel_rfl
theorem cellsOne : Tryd.prog.cellsOf 3 = 1 := by kernel_rfl
/-- What the row's list gives: the variable's cells hold its numbers. -/
theorem table {W : World} (h : laidMetH Tryd.prog Rows.entryLengthsRow.laid W) : Lib.TabIs Tryd.prog W "omnibus/ident.greatest" .i64 [2047, 536870911] :=
  Lib.tabIs_of_head (rest := []) gTab gTabType Tryd.underlying111 Tryd.underlying3 cellsOne cellsTab h
/-- A world for the witness: the settled one, the variable as it is laid. -/
noncomputable def laidWorld (os : Os) : World :=
  { World.holding Tryd.prog os ⟨#[], #[], []⟩ with heap := (World.holding Tryd.prog os ⟨#[], #[], []⟩).heap.modify 0 fun
      | .cells _ t frozen => .cells #[.int .i64 2047, .int .i64 536870911] t frozen
      | o => o }
theorem laid_met (os : Os) : laidMet Tryd.prog Rows.entryLengthsRow.laid ((laidWorld os).forCall (fun _ _ => 0) ⟨#[], #[.agg #[.int .i64 0, .int .i64 0, .int .i64 0], .agg #[.int .i64 0, .int .i64 0, .int .i64 0], .slice none 0 0, .slice none 0 0, .slice none 0 0], []⟩).memory :=
  laidMet_of_run' 8 (by kernel_rfl) (by kernel_rfl)
theorem reads (os : Os) {H : Type} (enc : TypeId × Value → H) : ∃ d places, DataW.whole enc Tryd.prog ((laidWorld os).forCall (fun _ _ => 0) ⟨#[], #[.agg #[.int .i64 0, .int .i64 0, .int .i64 0], .agg #[.int .i64 0, .int .i64 0, .int .i64 0], .slice none 0 0, .slice none 0 0, .slice none 0 0], []⟩).memory Tryd.f6.params.toList Rows.entryLengthsSpec.vars false (#[Value.agg #[Value.int .i64 0, Value.int .i64 0, Value.int .i64 0], Value.agg #[Value.int .i64 0, Value.int .i64 0, Value.int .i64 0], Value.slice none 0 0, Value.slice none 0 0, Value.slice none 0 0] : Array Value).toList 8 = some (d, [], places) :=
  ⟨[.agg [.lit (.int .i64 0), .lit (.int .i64 0), .lit (.int .i64 0)], .agg [.lit (.int .i64 0), .lit (.int .i64 0), .lit (.int .i64 0)], .nil, .nil, .nil], [], by kernel_rfl⟩
set_option maxHeartbeats 8000000 in
set_option maxRecDepth 100000 in
theorem lifted (os : Os) (started : os.Started) (H : Type) (enc : TypeId × Value → H) (F : Stop.Interp) :
    ReturnsInHanded {} Tryd.checked os 6 .any ((OpenSpec.ofChange Rows.entryLengthsSpec).preRow enc Tryd.prog Tryd.f6 Rows.entryLengthsRow.domain false Rows.entryLengthsRow.laid) (((OpenSpec.ofChange Rows.entryLengthsSpec).at F).post enc Tryd.prog Tryd.f6 false true false false) := by
  obtain ⟨d, places, hx⟩ := reads os enc
  refine returnsInHanded_of_row (C := Tryd.checked) (s := OpenSpec.ofChange Rows.entryLengthsSpec) own started (by kernel_rfl) Tryd.func6
    (witness_row_at (enc := enc) (C := Tryd.checked) false (laidWorld os) #[.agg #[.int .i64 0, .int .i64 0, .int .i64 0], .agg #[.int .i64 0, .int .i64 0, .int .i64 0], .slice none 0 0, .slice none 0 0, .slice none 0 0] rfl (by kernel_rfl) (by kernel_rfl) (by kernel_rfl)
      (OpenSpec.preRow_of_cond 8 hx (by kernel_rfl) (fun k hk => by cases hk) (by kernel_rfl) (laid_met os))) ?_
  intro W base args ds gs before hval0 hW hcnd _ hsz0 hL _ _
  have hsz : (DataW.weightsEach Tryd.prog (Tryd.f6.params.toList ++ Rows.entryLengthsSpec.plain.varTypes Tryd.prog) (ds ++ gs)).all (· ≤ reachBytes) = true := hsz0
  have hval : ∀ (j : Nat) t v, Tryd.f6.params[j]? = some t → args[j]? = some v → Value.okWide Tryd.prog W .any base t v := hval0
  have hW' := hW
  obtain ⟨p, q, hA0, hV, rfl, hfz, hnd⟩ := hW
  have hA : DataW.TrodAll enc Tryd.prog W 0 (fun _ => true) true Tryd.f6.params.toList args.toList ds p := hA0
  rw [Tryd.params6] at hA hval hsz
  obtain ⟨v0, vs0, d0, ds0, p0, q0, hargs, rfl, rfl, h0, z0⟩ := trodAll_cons hA
  obtain ⟨v1, vs1, d1, ds1, p1, q1, rfl, rfl, rfl, h1, z1⟩ := trodAll_cons z0
  obtain ⟨v2, vs2, d2, ds2, p2, q2, rfl, rfl, rfl, h2, z2⟩ := trodAll_cons z1
  obtain ⟨v3, vs3, d3, ds3, p3, q3, rfl, rfl, rfl, h3, z3⟩ := trodAll_cons z2
  obtain ⟨v4, vs4, d4, ds4, p4, q4, rfl, rfl, rfl, h4, z4⟩ := trodAll_cons z3
  obtain ⟨rfl, rfl, rfl⟩ := trodAll_nil z4
  obtain rfl : args = #[v0, v1, v2, v3, v4] := by cases args; simp_all
  obtain ⟨rfl, rfl⟩ := trodVars_none hV
  have k0 := h0
  have lt0 : ∀ x ∈ p0, x.block < W.heap.size := by obtain ⟨m, hm⟩ := k0; exact DataW.trod_lt m _ _ _ hm
  obtain ⟨cs0, rfl, L0_0⟩ := RX.open_agg (L := [.int .i64, .int .i64, .int .i64]) 8 (by kernel_rfl) (by kernel_rfl) (hval 0 22 v0 rfl rfl) h0
  obtain ⟨c0_0, cs0_0, rfl, l0_0, L0_1⟩ := L0_0.cons
  obtain ⟨a0_0, rfl, w0_0⟩ := l0_0
  obtain ⟨c0_1, cs0_1, rfl, l0_1, L0_2⟩ := L0_1.cons
  obtain ⟨a0_1, rfl, w0_1⟩ := l0_1
  obtain ⟨c0_2, cs0_2, rfl, l0_2, L0_3⟩ := L0_2.cons
  obtain ⟨a0_2, rfl, w0_2⟩ := l0_2
  obtain rfl := L0_3.nil
  have k1 := h1
  have lt1 : ∀ x ∈ p1, x.block < W.heap.size := by obtain ⟨m, hm⟩ := k1; exact DataW.trod_lt m _ _ _ hm
  obtain ⟨cs1, rfl, L1_0⟩ := RX.open_agg (L := [.int .i64, .int .i64, .int .i64]) 8 (by kernel_rfl) (by kernel_rfl) (hval 1 22 v1 rfl rfl) h1
  obtain ⟨c1_0, cs1_0, rfl, l1_0, L1_1⟩ := L1_0.cons
  obtain ⟨a1_0, rfl, w1_0⟩ := l1_0
  obtain ⟨c1_1, cs1_1, rfl, l1_1, L1_2⟩ := L1_1.cons
  obtain ⟨a1_1, rfl, w1_1⟩ := l1_1
  obtain ⟨c1_2, cs1_2, rfl, l1_2, L1_3⟩ := L1_2.cons
  obtain ⟨a1_2, rfl, w1_2⟩ := l1_2
  obtain rfl := L1_3.nil
  have k2 := h2
  have lt2 : ∀ x ∈ p2, x.block < W.heap.size := by obtain ⟨m, hm⟩ := k2; exact DataW.trod_lt m _ _ _ hm
  have l2 := RX.leaf_of_slice (e := 3) (by kernel_rfl) (hval 2 23 v2 rfl rfl) h2
  obtain ⟨a2, r2, o2, n2⟩ := RX.open_sl (U := U) (c := Kind.int) (L := [.int .i64]) 8 (by kernel_rfl) (by kernel_rfl) (by decide) (Ok := okK Kind.int) (fun cs2 L2_0 => by
      obtain ⟨c2_0, cs2_0, rfl, l2_0, L2_1⟩ := L2_0.cons
      obtain ⟨a2_0, rfl, w2_0⟩ := l2_0
      obtain rfl := L2_1.nil
      exact ⟨a2_0, (RX.cvl_v _ rfl RX.cvl_nil), (wf64 w2_0)⟩) l2
  have k3 := h3
  have lt3 : ∀ x ∈ p3, x.block < W.heap.size := by obtain ⟨m, hm⟩ := k3; exact DataW.trod_lt m _ _ _ hm
  have l3 := RX.leaf_of_slice (e := 58) (by kernel_rfl) (hval 3 24 v3 rfl rfl) h3
  obtain ⟨a3, r3, o3, n3⟩ := RX.open_sl (U := U) (c := Kind.a6) (L := [.int .i64, .int .i64, .int .i64, .int .i64, .int .i64, .int .i64]) 8 (by kernel_rfl) (by kernel_rfl) (by decide) (Ok := okK Kind.a6) (fun cs3 L3_0 => by
      obtain ⟨c3_0, cs3_0, rfl, l3_0, L3_1⟩ := L3_0.cons
      obtain ⟨a3_0, rfl, w3_0⟩ := l3_0
      obtain ⟨c3_1, cs3_1, rfl, l3_1, L3_2⟩ := L3_1.cons
      obtain ⟨a3_1, rfl, w3_1⟩ := l3_1
      obtain ⟨c3_2, cs3_2, rfl, l3_2, L3_3⟩ := L3_2.cons
      obtain ⟨a3_2, rfl, w3_2⟩ := l3_2
      obtain ⟨c3_3, cs3_3, rfl, l3_3, L3_4⟩ := L3_3.cons
      obtain ⟨a3_3, rfl, w3_3⟩ := l3_3
      obtain ⟨c3_4, cs3_4, rfl, l3_4, L3_5⟩ := L3_4.cons
      obtain ⟨a3_4, rfl, w3_4⟩ := l3_4
      obtain ⟨c3_5, cs3_5, rfl, l3_5, L3_6⟩ := L3_5.cons
      obtain ⟨a3_5, rfl, w3_5⟩ := l3_5
      obtain rfl := L3_6.nil
      exact ⟨⟨a3_0, a3_1, a3_2, a3_3, a3_4, a3_5⟩, (RX.cvl_v _ rfl (RX.cvl_v _ rfl (RX.cvl_v _ rfl (RX.cvl_v _ rfl (RX.cvl_v _ rfl (RX.cvl_v _ rfl RX.cvl_nil)))))), ⟨(wf64 w3_0), (wf64 w3_1), (wf64 w3_2), (wf64 w3_3), (wf64 w3_4), (wf64 w3_5)⟩⟩) l3
  have k4 := h4
  have lt4 : ∀ x ∈ p4, x.block < W.heap.size := by obtain ⟨m, hm⟩ := k4; exact DataW.trod_lt m _ _ _ hm
  have l4 := RX.leaf_of_slice (e := 58) (by kernel_rfl) (hval 4 24 v4 rfl rfl) h4
  obtain ⟨a4, r4, o4, n4⟩ := RX.open_sl (U := U) (c := Kind.a6) (L := [.int .i64, .int .i64, .int .i64, .int .i64, .int .i64, .int .i64]) 8 (by kernel_rfl) (by kernel_rfl) (by decide) (Ok := okK Kind.a6) (fun cs4 L4_0 => by
      obtain ⟨c4_0, cs4_0, rfl, l4_0, L4_1⟩ := L4_0.cons
      obtain ⟨a4_0, rfl, w4_0⟩ := l4_0
      obtain ⟨c4_1, cs4_1, rfl, l4_1, L4_2⟩ := L4_1.cons
      obtain ⟨a4_1, rfl, w4_1⟩ := l4_1
      obtain ⟨c4_2, cs4_2, rfl, l4_2, L4_3⟩ := L4_2.cons
      obtain ⟨a4_2, rfl, w4_2⟩ := l4_2
      obtain ⟨c4_3, cs4_3, rfl, l4_3, L4_4⟩ := L4_3.cons
      obtain ⟨a4_3, rfl, w4_3⟩ := l4_3
      obtain ⟨c4_4, cs4_4, rfl, l4_4, L4_5⟩ := L4_4.cons
      obtain ⟨a4_4, rfl, w4_4⟩ := l4_4
      obtain ⟨c4_5, cs4_5, rfl, l4_5, L4_6⟩ := L4_5.cons
      obtain ⟨a4_5, rfl, w4_5⟩ := l4_5
      obtain rfl := L4_6.nil
      exact ⟨⟨a4_0, a4_1, a4_2, a4_3, a4_4, a4_5⟩, (RX.cvl_v _ rfl (RX.cvl_v _ rfl (RX.cvl_v _ rfl (RX.cvl_v _ rfl (RX.cvl_v _ rfl (RX.cvl_v _ rfl RX.cvl_nil)))))), ⟨(wf64 w4_0), (wf64 w4_1), (wf64 w4_2), (wf64 w4_3), (wf64 w4_4), (wf64 w4_5)⟩⟩) l4
  clear hA0 hval0 hsz0 hsz
  have hv : RX.ArgsD U W [⟨true, [.v (.int .i64 a0_0), .v (.int .i64 a0_1), .v (.int .i64 a0_2)]⟩, ⟨true, [.v (.int .i64 a1_0), .v (.int .i64 a1_1), .v (.int .i64 a1_2)]⟩, ⟨false, [.sl .int a2]⟩, ⟨false, [.sl .a6 a3]⟩, ⟨false, [.sl .a6 a4]⟩] _ := (.cons (RX.den_agg (RX.cvl_v _ rfl (RX.cvl_v _ rfl (RX.cvl_v _ rfl RX.cvl_nil)))) (.cons (RX.den_agg (RX.cvl_v _ rfl (RX.cvl_v _ rfl (RX.cvl_v _ rfl RX.cvl_nil)))) (.cons (RX.den_sl r2) (.cons (RX.den_sl r3) (.cons (RX.den_sl r4) .nil)))))
  have hg : Lengths_S [⟨true, [.v (.int .i64 a0_0), .v (.int .i64 a0_1), .v (.int .i64 a0_2)]⟩, ⟨true, [.v (.int .i64 a1_0), .v (.int .i64 a1_1), .v (.int .i64 a1_2)]⟩, ⟨false, [.sl .int a2]⟩, ⟨false, [.sl .a6 a3]⟩, ⟨false, [.sl .a6 a4]⟩] = some ⟨_, .one ⟨false, [.v (.bool true)]⟩⟩ := rfl
  have hc := RX.law_args Lengths_ok hg (⟨wf64 w0_0, wf64 w0_1, wf64 w0_2, wf64 w1_0, wf64 w1_1, wf64 w1_2, o2, o3, o4⟩) W ⟨(table hL).cell gTab 0 (by decide), (table hL).cell gTab 1 (by decide)⟩ (args := #[_, _, _, _, _]) hv.all.1 (fun j d v e1 e2 => hv.all.2 j d v e1 (by have q := e2; rw [← Array.getElem?_toList] at q; exact q))
  refine hc.mono fun e W' ⟨he, bel⟩ => ?_
  subst he
  exact ⟨_, rfl, _, _, _, [], _, [], hW', trodAll_mk1 (shut_bool Tryd.underlying4 _), (trodAll_cons_mk (Below.trod laidOut (by kernel_rfl) (of_decide_eq_true (by kernel_rfl)) k0 bel lt0) (trodAll_cons_mk (Below.trod laidOut (by kernel_rfl) (of_decide_eq_true (by kernel_rfl)) k1 bel lt1) (trodAll_cons_mk (Below.trod laidOut (by kernel_rfl) (of_decide_eq_true (by kernel_rfl)) k2 bel lt2) (trodAll_cons_mk (Below.trod laidOut (by kernel_rfl) (of_decide_eq_true (by kernel_rfl)) k3 bel lt3) (trodAll_cons_mk (Below.trod laidOut (by kernel_rfl) (of_decide_eq_true (by kernel_rfl)) k4 bel lt4) trodAll_mk0))))), rfl, bel.frame _, fun h => by cases h⟩
theorem said : Rows.EntryLengthsSaid :=
  OpenClaim.holds_of_cond 6 Tryd.f6 rfl rfl rfl rfl rfl rfl rfl ⟨rfl, rfl, rfl, rfl, rfl⟩ rfl rfl rfl rfl rfl (by kernel_rfl) Tryd.func6 (by kernel_rfl)
    (of_decide_eq_true (by kernel_rfl)) (by unfold Func.isWrapper; first | (rw [if_pos (by decide +kernel)]; kernel_rfl) | (rw [if_neg (by decide +kernel)]; exact ⟨rfl, rfl⟩))
    (fun os started H enc _ F => by rw [OpenClaim.pre_eq_preRow]; exact lifted os started H enc F)
theorem plain (f : FuncId) (fn : Func) (hf : Tryd.pinned.checked.prog.funcNamed "omnibus/omnibuslaw06.EntryLengths" = some f) (hfn : Tryd.pinned.checked.prog.funcs[f]? = some fn) :
    false = Tryd.pinned.checked.prog.looks [] ∧ ∀ (j : Nat) t, fn.params[j]? = some t → Tryd.pinned.checked.prog.wantsStandIn t = false := by
  obtain rfl : f = 6 := Option.some.inj ((show Tryd.prog.funcNamed "omnibus/omnibuslaw06.EntryLengths" = some 6 by kernel_rfl).symm.trans hf) |>.symm
  obtain rfl : fn = Tryd.f6 := (Option.some.inj (Tryd.func6.symm.trans hfn)).symm
  refine ⟨by kernel_rfl, fun j t ht => ?_⟩
  rw [Tryd.params6] at ht
  have hm := Array.mem_of_getElem? ht
  have hm' : t ∈ [22, 23, 24] := by first | simpa using hm | (have hm2 : t ∈ [22, 22, 23, 24, 24] := (by simpa using hm); simp only [List.mem_cons, List.not_mem_nil, or_false] at hm2 ⊢; rcases hm2 with rfl | rfl | rfl | rfl | rfl <;> simp)
  have h22 : Tryd.prog.wantsStandIn 22 = false := by kernel_rfl
  have h23 : Tryd.prog.wantsStandIn 23 = false := by kernel_rfl
  have h24 : Tryd.prog.wantsStandIn 24 = false := by kernel_rfl
  simp only [List.mem_cons, List.not_mem_nil, or_false] at hm'
  rcases hm' with rfl | rfl | rfl
  · exact h22
  · exact h23
  · exact h24
theorem proved : Rows.EntryLengthsCardSaid :=
  Claim7.holds_tied_plain_at .later [] _ _ _ _ said (fun _ h => by cases h) (by kernel_rfl) (fun _ h => by cases h) entryLengths_row_tie rfl ⟨rfl, rfl⟩ (by kernel_rfl) rfl plain (by kernel_rfl)
#print axioms proved
end Go.Proofs.YtdpoimomipdgjaaDoor.entryLengths
namespace Go.Proofs.YtdpoimomipdgjaaDoor
/-- The row, under a short name, for the claim. -/
theorem entryLengths_holds : Rows.EntryLengthsCardSaid := entryLengths.proved
end Go.Proofs.YtdpoimomipdgjaaDoor
