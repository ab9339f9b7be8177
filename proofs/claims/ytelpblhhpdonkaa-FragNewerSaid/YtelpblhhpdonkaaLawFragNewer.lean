/- The row of the law FragNewer, out of what its function's text comes to; no condition beside those that each theorem states. Written by this project's program rxlaw.py. -/
import Derived.Test.YtelpblhhpdonkaaRows
import Derived.Test.YtelpblhhpdonkaaRLnewer05
import Derived.WalkKit
import Derived.ProofKit
import Derived.OpenShut
import Derived.ShutString
import Derived.ChangeOld
import Derived.Below
import Derived.SizedLaws
import Derived.Carry
namespace Go.Proofs.Ytelpblhhpdonkaa.fragNewer
open Go.ChangeShapes Go.WideShapes Go.ChangeAt Go.RowKit Go.Proofs.Ytelpblhhpdonkaa.X
open Go.ChangeMaps (open_string shut_string)
set_option linter.unusedVariables false
theorem own : ownKnob Try.prog.godebug = none := by kernel_rfl
theorem laidOut : laidOutB Try.prog = true := by kernel_rfl
set_option maxHeartbeats 8000000 in
set_option maxRecDepth 100000 in
theorem lifted (os : Os) (started : os.Started) (H : Type) (enc : TypeId × Value → H) :
    ReturnsInHanded {} Try.checked os 8 .any (Rows.fragNewerSpec.pre6 enc Try.prog Try.f8 Rows.fragNewerRow.domain false) (Rows.fragNewerSpec.post enc Try.prog Try.f8 false true false false) := by
  refine returnsInHanded_of_change_sized (C := Try.checked) own started (by kernel_rfl) Try.func8
    (ChangeSpec.witness6 (enc := enc) (C := Try.checked) false ⟨#[], #[.slice none 0 0, .agg #[.int .i64 0, .int .i64 0, .int .i64 0, .int .i64 0], .agg #[.int .i64 0, .int .i64 0, .int .i64 0, .int .i64 0]], []⟩ 8 (by kernel_rfl) (by kernel_rfl) (by kernel_rfl) (by kernel_rfl)) ?_
  intro W base args ds gs before hval0 hW hcnd hsz0 _
  have hsz : (DataW.weightsEach Try.prog (Try.f8.params.toList ++ Rows.fragNewerSpec.plain.varTypes Try.prog) (ds ++ gs)).all (· ≤ reachBytes) = true := hsz0
  have hval : ∀ (j : Nat) t v, Try.f8.params[j]? = some t → args[j]? = some v → Value.okWide Try.prog W .any base t v := hval0
  have hW' := hW
  obtain ⟨p, q, hA0, hV, rfl, hfz, hnd⟩ := hW
  have hA : DataW.TrodAll enc Try.prog W 0 (fun _ => true) true Try.f8.params.toList args.toList ds p := hA0
  rw [Try.params8] at hA hval hsz
  obtain ⟨v0, vs0, d0, ds0, p0, q0, hargs, rfl, rfl, h0, z0⟩ := trodAll_cons hA
  obtain ⟨v1, vs1, d1, ds1, p1, q1, rfl, rfl, rfl, h1, z1⟩ := trodAll_cons z0
  obtain ⟨v2, vs2, d2, ds2, p2, q2, rfl, rfl, rfl, h2, z2⟩ := trodAll_cons z1
  obtain ⟨rfl, rfl, rfl⟩ := trodAll_nil z2
  obtain rfl : args = #[v0, v1, v2] := by cases args; simp_all
  obtain ⟨rfl, rfl⟩ := trodVars_none hV
  have k0 := h0
  have lt0 : ∀ x ∈ p0, x.block < W.heap.size := by obtain ⟨m, hm⟩ := k0; exact DataW.trod_lt m _ _ _ hm
  have l0 := RX.leaf_of_slice (e := 24) (by kernel_rfl) (hval 0 44 v0 rfl rfl) h0
  obtain ⟨a0, r0, o0, n0⟩ := RX.open_sl (U := U) (c := Kind.a4) (L := [.int .i64, .int .i64, .int .i64, .int .i64]) 8 (by kernel_rfl) (by kernel_rfl) (by decide) (Ok := okK Kind.a4) (fun cs0 L0_0 => by
      obtain ⟨c0_0, cs0_0, rfl, l0_0, L0_1⟩ := L0_0.cons
      obtain ⟨a0_0, rfl, w0_0⟩ := l0_0
      obtain ⟨c0_1, cs0_1, rfl, l0_1, L0_2⟩ := L0_1.cons
      obtain ⟨a0_1, rfl, w0_1⟩ := l0_1
      obtain ⟨c0_2, cs0_2, rfl, l0_2, L0_3⟩ := L0_2.cons
      obtain ⟨a0_2, rfl, w0_2⟩ := l0_2
      obtain ⟨c0_3, cs0_3, rfl, l0_3, L0_4⟩ := L0_3.cons
      obtain ⟨a0_3, rfl, w0_3⟩ := l0_3
      obtain rfl := L0_4.nil
      exact ⟨⟨a0_0, a0_1, a0_2, a0_3⟩, (RX.cvl_v _ rfl (RX.cvl_v _ rfl (RX.cvl_v _ rfl (RX.cvl_v _ rfl RX.cvl_nil)))), ⟨(wf64 w0_0), (wf64 w0_1), (wf64 w0_2), (wf64 w0_3)⟩⟩) l0
  have k1 := h1
  have lt1 : ∀ x ∈ p1, x.block < W.heap.size := by obtain ⟨m, hm⟩ := k1; exact DataW.trod_lt m _ _ _ hm
  obtain ⟨cs1, rfl, L1_0⟩ := RX.open_agg (L := [.int .i64, .int .i64, .int .i64, .int .i64]) 8 (by kernel_rfl) (by kernel_rfl) (hval 1 24 v1 rfl rfl) h1
  obtain ⟨c1_0, cs1_0, rfl, l1_0, L1_1⟩ := L1_0.cons
  obtain ⟨a1_0, rfl, w1_0⟩ := l1_0
  obtain ⟨c1_1, cs1_1, rfl, l1_1, L1_2⟩ := L1_1.cons
  obtain ⟨a1_1, rfl, w1_1⟩ := l1_1
  obtain ⟨c1_2, cs1_2, rfl, l1_2, L1_3⟩ := L1_2.cons
  obtain ⟨a1_2, rfl, w1_2⟩ := l1_2
  obtain ⟨c1_3, cs1_3, rfl, l1_3, L1_4⟩ := L1_3.cons
  obtain ⟨a1_3, rfl, w1_3⟩ := l1_3
  obtain rfl := L1_4.nil
  have k2 := h2
  have lt2 : ∀ x ∈ p2, x.block < W.heap.size := by obtain ⟨m, hm⟩ := k2; exact DataW.trod_lt m _ _ _ hm
  obtain ⟨cs2, rfl, L2_0⟩ := RX.open_agg (L := [.int .i64, .int .i64, .int .i64, .int .i64]) 8 (by kernel_rfl) (by kernel_rfl) (hval 2 24 v2 rfl rfl) h2
  obtain ⟨c2_0, cs2_0, rfl, l2_0, L2_1⟩ := L2_0.cons
  obtain ⟨a2_0, rfl, w2_0⟩ := l2_0
  obtain ⟨c2_1, cs2_1, rfl, l2_1, L2_2⟩ := L2_1.cons
  obtain ⟨a2_1, rfl, w2_1⟩ := l2_1
  obtain ⟨c2_2, cs2_2, rfl, l2_2, L2_3⟩ := L2_2.cons
  obtain ⟨a2_2, rfl, w2_2⟩ := l2_2
  obtain ⟨c2_3, cs2_3, rfl, l2_3, L2_4⟩ := L2_3.cons
  obtain ⟨a2_3, rfl, w2_3⟩ := l2_3
  obtain rfl := L2_4.nil
  clear hA0 hval0 hsz0 hsz
  have hv : RX.ArgsD U W [⟨false, [.sl .a4 a0]⟩, ⟨true, [.v (.int .i64 a1_0), .v (.int .i64 a1_1), .v (.int .i64 a1_2), .v (.int .i64 a1_3)]⟩, ⟨true, [.v (.int .i64 a2_0), .v (.int .i64 a2_1), .v (.int .i64 a2_2), .v (.int .i64 a2_3)]⟩] _ := (.cons (RX.den_sl r0) (.cons (RX.den_agg (RX.cvl_v _ rfl (RX.cvl_v _ rfl (RX.cvl_v _ rfl (RX.cvl_v _ rfl RX.cvl_nil))))) (.cons (RX.den_agg (RX.cvl_v _ rfl (RX.cvl_v _ rfl (RX.cvl_v _ rfl (RX.cvl_v _ rfl RX.cvl_nil))))) .nil)))
  have hg : Newer5_S [⟨false, [.sl .a4 a0]⟩, ⟨true, [.v (.int .i64 a1_0), .v (.int .i64 a1_1), .v (.int .i64 a1_2), .v (.int .i64 a1_3)]⟩, ⟨true, [.v (.int .i64 a2_0), .v (.int .i64 a2_1), .v (.int .i64 a2_2), .v (.int .i64 a2_3)]⟩] = some ⟨_, .one ⟨false, [.v (.bool true)]⟩⟩ := rfl
  have hc := RX.law_args Newer5_ok hg (⟨o0, ⟨wf64 w1_0, wf64 w1_1, wf64 w1_2, wf64 w1_3⟩, ⟨wf64 w2_0, wf64 w2_1, wf64 w2_2, wf64 w2_3⟩⟩) W trivial (args := #[_, _, _]) hv.all.1 (fun j d v e1 e2 => hv.all.2 j d v e1 (by have q := e2; rw [← Array.getElem?_toList] at q; exact q))
  refine hc.mono fun e W' ⟨he, bel⟩ => ?_
  subst he
  exact ⟨_, rfl, _, _, _, [], _, [], hW', trodAll_mk1 (shut_bool Try.underlying4 _), (trodAll_cons_mk (Below.trod laidOut (by kernel_rfl) (of_decide_eq_true (by kernel_rfl)) k0 bel lt0) (trodAll_cons_mk (Below.trod laidOut (by kernel_rfl) (of_decide_eq_true (by kernel_rfl)) k1 bel lt1) (trodAll_cons_mk (Below.trod laidOut (by kernel_rfl) (of_decide_eq_true (by kernel_rfl)) k2 bel lt2) trodAll_mk0))), rfl, bel.frame _, fun h => by cases h⟩
theorem over : Rows.fragNewerRow.holds Try.pinned (OpenSpec.ofChange Rows.fragNewerSpec) :=
  OpenClaim.holds_of_wide 8 Try.f8 rfl rfl rfl rfl rfl rfl rfl ⟨rfl, rfl, rfl, rfl, rfl⟩ rfl rfl rfl rfl rfl (by kernel_rfl) Try.func8 (by kernel_rfl)
    (of_decide_eq_true (by kernel_rfl)) (by unfold Func.isWrapper; first | (rw [if_pos (by decide +kernel)]; kernel_rfl) | (rw [if_neg (by decide +kernel)]; exact ⟨rfl, rfl⟩))
    (fun os started H enc _ => lifted os started H enc)
theorem proved : Rows.FragNewerSaid := over
#print axioms proved
end Go.Proofs.Ytelpblhhpdonkaa.fragNewer
namespace Go.Proofs.Ytelpblhhpdonkaa
/-- The row, under a short name, for the claim. -/
theorem fragNewer_holds : Rows.FragNewerSaid := fragNewer.proved
end Go.Proofs.Ytelpblhhpdonkaa
