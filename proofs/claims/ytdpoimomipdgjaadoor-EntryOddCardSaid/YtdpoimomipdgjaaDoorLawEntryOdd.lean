/- The row of the law EntryOdd, out of what its function's text comes to; no condition beside those that each theorem states. Written by this project's program rxlaw.py. -/
import Derived.Test.YtdpoimomipdgjaaDoorRows
import Derived.Test.YtdpoimomipdgjaaDoorRLodd06
import Derived.WalkKit
import Derived.ProofKit
import Derived.OpenShut
import Derived.ShutString
import Derived.ChangeOld
import Derived.Below
import Derived.SizedLaws
import Derived.Carry
import Derived.Deep.DeepHandedRow
import Derived.Lib.LaidTab
import Derived.Test.YtdpoimomipdgjaaDoorCards
import Derived.Test.YtdpoimomipdgjaaDoorTie
namespace Go.Proofs.YtdpoimomipdgjaaDoor.entryOdd
open Go.ChangeShapes Go.WideShapes Go.ChangeAt Go.RowKit Go.Proofs.YtdpoimomipdgjaaDoor.X
open Go.ChangeMaps (open_string shut_string)
set_option linter.unusedVariables false
theorem own : ownKnob Tryd.prog.godebug = none := by kernel_rfl
theorem laidOut : laidOutB Tryd.prog = true := by kernel_rfl
theorem gTab : Tryd.prog.globalNamed "omnibus/ident.greatest" = some 0 := by kernel_rfl
theorem gTabType : (Tryd.prog.globals[0]?).map (·.type) = some 111 := by kernel_rfl
theorem cellsTab : Tryd.prog.cellsOf 111 = 2 := by kernel_rfl
theorem cellsOne : Tryd.prog.cellsOf 3 = 1 := by kernel_rfl
/-- What the row's list gives: the variable's cells hold its numbers. -/
theorem table {W : World} (h : laidMetH Tryd.prog Rows.entryOddRow.laid W) : Lib.TabIs Tryd.prog W "omnibus/ident.greatest" .i64 [2047, 536870911] :=
  Lib.tabIs_of_head (rest := []) gTab gTabType Tryd.underlying111 Tryd.underlying3 cellsOne cellsTab h
/-- A world for the witness: the settled one, the variable as it is laid. -/
noncomputable def laidWorld (os : Os) : World :=
  { World.holding Tryd.prog os ⟨#[], #[], []⟩ with heap := (World.holding Tryd.prog os ⟨#[], #[], []⟩).heap.modify 0 fun
      | .cells _ t frozen => .cells #[.int .i64 2047, .int .i64 536870911] t frozen
      | o => o }
theorem laid_met (os : Os) : laidMet Tryd.prog Rows.entryOddRow.laid ((laidWorld os).forCall (fun _ _ => 0) ⟨#[], #[.agg #[.int .i64 0, .int .i64 0, .int .i64 0], .slice none 0 0, .slice none 0 0, .int .i64 0], []⟩).memory :=
  laidMet_of_run' 8 (by kernel_rfl) (by kernel_rfl)
theorem reads (os : Os) {H : Type} (enc : TypeId × Value → H) : ∃ d places, DataW.whole enc Tryd.prog ((laidWorld os).forCall (fun _ _ => 0) ⟨#[], #[.agg #[.int .i64 0, .int .i64 0, .int .i64 0], .slice none 0 0, .slice none 0 0, .int .i64 0], []⟩).memory Tryd.f7.params.toList Rows.entryOddSpec.vars false (#[Value.agg #[Value.int .i64 0, Value.int .i64 0, Value.int .i64 0], Value.slice none 0 0, Value.slice none 0 0, Value.int .i64 0] : Array Value).toList 8 = some (d, [], places) :=
  ⟨[.agg [.lit (.int .i64 0), .lit (.int .i64 0), .lit (.int .i64 0)], .nil, .nil, .lit (.int .i64 0)], [], by kernel_rfl⟩
set_option maxHeartbeats 8000000 in
set_option maxRecDepth 100000 in
theorem lifted (os : Os) (started : os.Started) (H : Type) (enc : TypeId × Value → H) (F : Stop.Interp) :
    ReturnsInHanded {} Tryd.checked os 7 .any ((OpenSpec.ofChange Rows.entryOddSpec).preRow enc Tryd.prog Tryd.f7 Rows.entryOddRow.domain false Rows.entryOddRow.laid) (((OpenSpec.ofChange Rows.entryOddSpec).at F).post enc Tryd.prog Tryd.f7 false true false false) := by
  obtain ⟨d, places, hx⟩ := reads os enc
  refine returnsInHanded_of_row (C := Tryd.checked) (s := OpenSpec.ofChange Rows.entryOddSpec) own started (by kernel_rfl) Tryd.func7
    (witness_row_at (enc := enc) (C := Tryd.checked) false (laidWorld os) #[.agg #[.int .i64 0, .int .i64 0, .int .i64 0], .slice none 0 0, .slice none 0 0, .int .i64 0] rfl (by kernel_rfl) (by kernel_rfl) (by kernel_rfl)
      (OpenSpec.preRow_of_cond 8 hx (by kernel_rfl) (fun k hk => by cases hk) (by kernel_rfl) (laid_met os))) ?_
  intro W base args ds gs before hval0 hW hcnd _ hsz0 hL _ _
  have hsz : (DataW.weightsEach Tryd.prog (Tryd.f7.params.toList ++ Rows.entryOddSpec.plain.varTypes Tryd.prog) (ds ++ gs)).all (· ≤ reachBytes) = true := hsz0
  have hval : ∀ (j : Nat) t v, Tryd.f7.params[j]? = some t → args[j]? = some v → Value.okWide Tryd.prog W .any base t v := hval0
  have hW' := hW
  obtain ⟨p, q, hA0, hV, rfl, hfz, hnd⟩ := hW
  have hA : DataW.TrodAll enc Tryd.prog W 0 (fun _ => true) true Tryd.f7.params.toList args.toList ds p := hA0
  rw [Tryd.params7] at hA hval hsz
  obtain ⟨v0, vs0, d0, ds0, p0, q0, hargs, rfl, rfl, h0, z0⟩ := trodAll_cons hA
  obtain ⟨v1, vs1, d1, ds1, p1, q1, rfl, rfl, rfl, h1, z1⟩ := trodAll_cons z0
  obtain ⟨v2, vs2, d2, ds2, p2, q2, rfl, rfl, rfl, h2, z2⟩ := trodAll_cons z1
  obtain ⟨v3, vs3, d3, ds3, p3, q3, rfl, rfl, rfl, h3, z3⟩ := trodAll_cons z2
  obtain ⟨rfl, rfl, rfl⟩ := trodAll_nil z3
  obtain rfl : args = #[v0, v1, v2, v3] := by cases args; simp_all
  obtain ⟨rfl, rfl⟩ := trodVars_none hV
  have k0 := h0
  have lt0 : ∀ x ∈ p0, x.block < W.heap.size := by obtain ⟨m, hm⟩ := k0; exact DataW.trod_lt m _ _ _ hm
  obtain ⟨cs0, rfl, L0_0⟩ := RX.open_agg (L := [.int .i64, .int .i64, .int .i64]) 8 (by kernel_rfl) (by kernel_rfl) (hval 0 22 v0 rfl rfl) h0
  obtain ⟨c0_0, cs0_0, rfl, l0_0, L0_1⟩ := L0_0.cons
  obtain ⟨a0_0, rfl, w0_0⟩ := l0_0
  obtain ⟨c0_1, cs0_1, rfl, l0_1, L0_2⟩ := L0_1.cons
  obtain ⟨a0_1, rfl, w0_1⟩ := l0_1
  obtain ⟨c0_2, cs0_2, rfl, l0_2, L0_3⟩ := L0_2.cons
  obtain ⟨a0_2, rfl, w0_2⟩ := l0_2
  obtain rfl := L0_3.nil
  have k1 := h1
  have lt1 : ∀ x ∈ p1, x.block < W.heap.size := by obtain ⟨m, hm⟩ := k1; exact DataW.trod_lt m _ _ _ hm
  have l1 := RX.leaf_of_slice (e := 3) (by kernel_rfl) (hval 1 23 v1 rfl rfl) h1
  obtain ⟨a1, r1, o1, n1⟩ := RX.open_sl (U := U) (c := Kind.int) (L := [.int .i64]) 8 (by kernel_rfl) (by kernel_rfl) (by decide) (Ok := okK Kind.int) (fun cs1 L1_0 => by
      obtain ⟨c1_0, cs1_0, rfl, l1_0, L1_1⟩ := L1_0.cons
      obtain ⟨a1_0, rfl, w1_0⟩ := l1_0
      obtain rfl := L1_1.nil
      exact ⟨a1_0, (RX.cvl_v _ rfl RX.cvl_nil), (wf64 w1_0)⟩) l1
  have k2 := h2
  have lt2 : ∀ x ∈ p2, x.block < W.heap.size := by obtain ⟨m, hm⟩ := k2; exact DataW.trod_lt m _ _ _ hm
  have l2 := RX.leaf_of_slice (e := 58) (by kernel_rfl) (hval 2 24 v2 rfl rfl) h2
  obtain ⟨a2, r2, o2, n2⟩ := RX.open_sl (U := U) (c := Kind.a6) (L := [.int .i64, .int .i64, .int .i64, .int .i64, .int .i64, .int .i64]) 8 (by kernel_rfl) (by kernel_rfl) (by decide) (Ok := okK Kind.a6) (fun cs2 L2_0 => by
      obtain ⟨c2_0, cs2_0, rfl, l2_0, L2_1⟩ := L2_0.cons
      obtain ⟨a2_0, rfl, w2_0⟩ := l2_0
      obtain ⟨c2_1, cs2_1, rfl, l2_1, L2_2⟩ := L2_1.cons
      obtain ⟨a2_1, rfl, w2_1⟩ := l2_1
      obtain ⟨c2_2, cs2_2, rfl, l2_2, L2_3⟩ := L2_2.cons
      obtain ⟨a2_2, rfl, w2_2⟩ := l2_2
      obtain ⟨c2_3, cs2_3, rfl, l2_3, L2_4⟩ := L2_3.cons
      obtain ⟨a2_3, rfl, w2_3⟩ := l2_3
      obtain ⟨c2_4, cs2_4, rfl, l2_4, L2_5⟩ := L2_4.cons
      obtain ⟨a2_4, rfl, w2_4⟩ := l2_4
      obtain ⟨c2_5, cs2_5, rfl, l2_5, L2_6⟩ := L2_5.cons
      obtain ⟨a2_5, rfl, w2_5⟩ := l2_5
      obtain rfl := L2_6.nil
      exact ⟨⟨a2_0, a2_1, a2_2, a2_3, a2_4, a2_5⟩, (RX.cvl_v _ rfl (RX.cvl_v _ rfl (RX.cvl_v _ rfl (RX.cvl_v _ rfl (RX.cvl_v _ rfl (RX.cvl_v _ rfl RX.cvl_nil)))))), ⟨(wf64 w2_0), (wf64 w2_1), (wf64 w2_2), (wf64 w2_3), (wf64 w2_4), (wf64 w2_5)⟩⟩) l2
  have k3 := h3
  have lt3 : ∀ x ∈ p3, x.block < W.heap.size := by obtain ⟨m, hm⟩ := k3; exact DataW.trod_lt m _ _ _ hm
  obtain ⟨a3, rfl, _, _, w3⟩ := open_int Tryd.underlying3 (hval 3 3 v3 rfl rfl) h3
  clear hA0 hval0 hsz0 hsz
  have hv : RX.ArgsD U W [⟨true, [.v (.int .i64 a0_0), .v (.int .i64 a0_1), .v (.int .i64 a0_2)]⟩, ⟨false, [.sl .int a1]⟩, ⟨false, [.sl .a6 a2]⟩, ⟨false, [.v (.int .i64 a3)]⟩] _ := (.cons (RX.den_agg (RX.cvl_v _ rfl (RX.cvl_v _ rfl (RX.cvl_v _ rfl RX.cvl_nil)))) (.cons (RX.den_sl r1) (.cons (RX.den_sl r2) (.cons (RX.den_one _ rfl) .nil))))
  have hg : Odd6_S [⟨true, [.v (.int .i64 a0_0), .v (.int .i64 a0_1), .v (.int .i64 a0_2)]⟩, ⟨false, [.sl .int a1]⟩, ⟨false, [.sl .a6 a2]⟩, ⟨false, [.v (.int .i64 a3)]⟩] = some ⟨_, .one ⟨false, [.v (.bool true)]⟩⟩ := rfl
  have hc := RX.law_args Odd6_ok hg (⟨wf64 w0_0, wf64 w0_1, wf64 w0_2, o1, o2, wf64 w3⟩) W ⟨(table hL).cell gTab 0 (by decide), (table hL).cell gTab 1 (by decide)⟩ (args := #[_, _, _, _]) hv.all.1 (fun j d v e1 e2 => hv.all.2 j d v e1 (by have q := e2; rw [← Array.getElem?_toList] at q; exact q))
  refine hc.mono fun e W' ⟨he, bel⟩ => ?_
  subst he
  exact ⟨_, rfl, _, _, _, [], _, [], hW', trodAll_mk1 (shut_bool Tryd.underlying4 _), (trodAll_cons_mk (Below.trod laidOut (by kernel_rfl) (of_decide_eq_true (by kernel_rfl)) k0 bel lt0) (trodAll_cons_mk (Below.trod laidOut (by kernel_rfl) (of_decide_eq_true (by kernel_rfl)) k1 bel lt1) (trodAll_cons_mk (Below.trod laidOut (by kernel_rfl) (of_decide_eq_true (by kernel_rfl)) k2 bel lt2) (trodAll_cons_mk (Below.trod laidOut (by kernel_rfl) (of_decide_eq_true (by kernel_rfl)) k3 bel lt3) trodAll_mk0)))), rfl, bel.frame _, fun h => by cases h⟩
theorem said : Rows.EntryOddSaid :=
  OpenClaim.holds_of_cond 7 Tryd.f7 rfl rfl rfl rfl rfl rfl rfl ⟨rfl, rfl, rfl, rfl, rfl⟩ rfl rfl rfl rfl rfl (by kernel_rfl) Tryd.func7 (by kernel_rfl)
    (of_decide_eq_true (by kernel_rfl)) (by unfold Func.isWrapper; first | (rw [if_pos (by decide +kernel)]; kernel_rfl) | (rw [if_neg (by decide +kernel)]; exact ⟨rfl, rfl⟩))
    (fun os started H enc _ F => by rw [OpenClaim.pre_eq_preRow]; exact lifted os started H enc F)
theorem plain (f : FuncId) (fn : Func) (hf : Tryd.pinned.checked.prog.funcNamed "omnibus/omnibuslaw06.EntryOdd" = some f) (hfn : Tryd.pinned.checked.prog.funcs[f]? = some fn) :
    false = Tryd.pinned.checked.prog.looks [] ∧ ∀ (j : Nat) t, fn.params[j]? = some t → Tryd.pinned.checked.prog.wantsStandIn t = false := by
  obtain rfl : f = 7 := Option.some.inj ((show Tryd.prog.funcNamed "omnibus/omnibuslaw06.EntryOdd" = some 7 by kernel_rfl).symm.trans hf) |>.symm
  obtain rfl : fn = Tryd.f7 := (Option.some.inj (Tryd.func7.symm.trans hfn)).symm
  refine ⟨by kernel_rfl, fun j t ht => ?_⟩
  rw [Tryd.params7] at ht
  have hm := Array.mem_of_getElem? ht
  have hm' : t ∈ [22, 23, 24, 3] := by first | simpa using hm | (have hm2 : t ∈ [22, 23, 24, 3] := (by simpa using hm); simp only [List.mem_cons, List.not_mem_nil, or_false] at hm2 ⊢; rcases hm2 with rfl | rfl | rfl | rfl <;> simp)
  have h22 : Tryd.prog.wantsStandIn 22 = false := by kernel_rfl
  have h23 : Tryd.prog.wantsStandIn 23 = false := by kernel_rfl
  have h24 : Tryd.prog.wantsStandIn 24 = false := by kernel_rfl
  have h3 : Tryd.prog.wantsStandIn 3 = false := by kernel_rfl
  simp only [List.mem_cons, List.not_mem_nil, or_false] at hm'
  rcases hm' with rfl | rfl | rfl | rfl
  · exact h22
  · exact h23
  · exact h24
  · exact h3
theorem proved : Rows.EntryOddCardSaid :=
  Claim7.holds_tied_plain_at .later [] _ _ _ _ said (fun _ h => by cases h) (by kernel_rfl) (fun _ h => by cases h) entryOdd_row_tie rfl ⟨rfl, rfl⟩ (by kernel_rfl) rfl plain (by kernel_rfl)
#print axioms proved
end Go.Proofs.YtdpoimomipdgjaaDoor.entryOdd
namespace Go.Proofs.YtdpoimomipdgjaaDoor
/-- The row, under a short name, for the claim. -/
theorem entryOdd_holds : Rows.EntryOddCardSaid := entryOdd.proved
end Go.Proofs.YtdpoimomipdgjaaDoor
