/- The row of the law FragWhole, out of what its function's text comes to; no condition beside those that each theorem states. Written by this project's program rxlaw.py. -/
import Derived.Test.YtelpblhhpdonkaaRows
import Derived.Test.YtelpblhhpdonkaaRLwhole05
import Derived.WalkKit
import Derived.ProofKit
import Derived.OpenShut
import Derived.ShutString
import Derived.ChangeOld
import Derived.Below
import Derived.SizedLaws
import Derived.Carry
namespace Go.Proofs.Ytelpblhhpdonkaa.fragWhole
open Go.ChangeShapes Go.WideShapes Go.ChangeAt Go.RowKit Go.Proofs.Ytelpblhhpdonkaa.X
open Go.ChangeMaps (open_string shut_string)
set_option linter.unusedVariables false
theorem own : ownKnob Try.prog.godebug = none := by kernel_rfl
theorem laidOut : laidOutB Try.prog = true := by kernel_rfl
set_option maxHeartbeats 8000000 in
set_option maxRecDepth 100000 in
theorem lifted (os : Os) (started : os.Started) (H : Type) (enc : TypeId × Value → H) :
    ReturnsInHanded {} Try.checked os 5 .any (Rows.fragWholeSpec.pre6 enc Try.prog Try.f5 Rows.fragWholeRow.domain false) (Rows.fragWholeSpec.post enc Try.prog Try.f5 false true false false) := by
  refine returnsInHanded_of_change_sized (C := Try.checked) own started (by kernel_rfl) Try.func5
    (ChangeSpec.witness6 (enc := enc) (C := Try.checked) false ⟨#[], #[.string ByteArray.empty, .int .i64 0, .slice none 0 0, .slice none 0 0], []⟩ 8 (by kernel_rfl) (by kernel_rfl) (by kernel_rfl) (by kernel_rfl)) ?_
  intro W base args ds gs before hval0 hW hcnd hsz0 _
  have hsz : (DataW.weightsEach Try.prog (Try.f5.params.toList ++ Rows.fragWholeSpec.plain.varTypes Try.prog) (ds ++ gs)).all (· ≤ reachBytes) = true := hsz0
  have hval : ∀ (j : Nat) t v, Try.f5.params[j]? = some t → args[j]? = some v → Value.okWide Try.prog W .any base t v := hval0
  have hW' := hW
  obtain ⟨p, q, hA0, hV, rfl, hfz, hnd⟩ := hW
  have hA : DataW.TrodAll enc Try.prog W 0 (fun _ => true) true Try.f5.params.toList args.toList ds p := hA0
  rw [Try.params5] at hA hval hsz
  obtain ⟨v0, vs0, d0, ds0, p0, q0, hargs, rfl, rfl, h0, z0⟩ := trodAll_cons hA
  obtain ⟨v1, vs1, d1, ds1, p1, q1, rfl, rfl, rfl, h1, z1⟩ := trodAll_cons z0
  obtain ⟨v2, vs2, d2, ds2, p2, q2, rfl, rfl, rfl, h2, z2⟩ := trodAll_cons z1
  obtain ⟨v3, vs3, d3, ds3, p3, q3, rfl, rfl, rfl, h3, z3⟩ := trodAll_cons z2
  obtain ⟨rfl, rfl, rfl⟩ := trodAll_nil z3
  obtain rfl : args = #[v0, v1, v2, v3] := by cases args; simp_all
  obtain ⟨rfl, rfl⟩ := trodVars_none hV
  have k0 := h0
  have lt0 : ∀ x ∈ p0, x.block < W.heap.size := by obtain ⟨m, hm⟩ := k0; exact DataW.trod_lt m _ _ _ hm
  obtain ⟨a0, rfl, e0, _, y0⟩ := open_string Try.underlying9 (hval 0 9 v0 rfl rfl) h0
  have k1 := h1
  have lt1 : ∀ x ∈ p1, x.block < W.heap.size := by obtain ⟨m, hm⟩ := k1; exact DataW.trod_lt m _ _ _ hm
  obtain ⟨a1, rfl, _, _, w1⟩ := open_int Try.underlying3 (hval 1 3 v1 rfl rfl) h1
  have k2 := h2
  have lt2 : ∀ x ∈ p2, x.block < W.heap.size := by obtain ⟨m, hm⟩ := k2; exact DataW.trod_lt m _ _ _ hm
  have l2 := RX.leaf_of_slice (e := 3) (by kernel_rfl) (hval 2 29 v2 rfl rfl) h2
  obtain ⟨a2, r2, o2, n2⟩ := RX.open_sl (U := U) (c := Kind.int) (L := [.int .i64]) 8 (by kernel_rfl) (by kernel_rfl) (by decide) (Ok := okK Kind.int) (fun cs2 L2_0 => by
      obtain ⟨c2_0, cs2_0, rfl, l2_0, L2_1⟩ := L2_0.cons
      obtain ⟨a2_0, rfl, w2_0⟩ := l2_0
      obtain rfl := L2_1.nil
      exact ⟨a2_0, (RX.cvl_v _ rfl RX.cvl_nil), (wf64 w2_0)⟩) l2
  have k3 := h3
  have lt3 : ∀ x ∈ p3, x.block < W.heap.size := by obtain ⟨m, hm⟩ := k3; exact DataW.trod_lt m _ _ _ hm
  have l3 := RX.leaf_of_slice (e := 24) (by kernel_rfl) (hval 3 44 v3 rfl rfl) h3
  obtain ⟨a3, r3, o3, n3⟩ := RX.open_sl (U := U) (c := Kind.a4) (L := [.int .i64, .int .i64, .int .i64, .int .i64]) 8 (by kernel_rfl) (by kernel_rfl) (by decide) (Ok := okK Kind.a4) (fun cs3 L3_0 => by
      obtain ⟨c3_0, cs3_0, rfl, l3_0, L3_1⟩ := L3_0.cons
      obtain ⟨a3_0, rfl, w3_0⟩ := l3_0
      obtain ⟨c3_1, cs3_1, rfl, l3_1, L3_2⟩ := L3_1.cons
      obtain ⟨a3_1, rfl, w3_1⟩ := l3_1
      obtain ⟨c3_2, cs3_2, rfl, l3_2, L3_3⟩ := L3_2.cons
      obtain ⟨a3_2, rfl, w3_2⟩ := l3_2
      obtain ⟨c3_3, cs3_3, rfl, l3_3, L3_4⟩ := L3_3.cons
      obtain ⟨a3_3, rfl, w3_3⟩ := l3_3
      obtain rfl := L3_4.nil
      exact ⟨⟨a3_0, a3_1, a3_2, a3_3⟩, (RX.cvl_v _ rfl (RX.cvl_v _ rfl (RX.cvl_v _ rfl (RX.cvl_v _ rfl RX.cvl_nil)))), ⟨(wf64 w3_0), (wf64 w3_1), (wf64 w3_2), (wf64 w3_3)⟩⟩) l3
  clear hA0 hval0 hsz0 hsz
  have hv : RX.ArgsD U W [⟨false, [.v (.string a0)]⟩, ⟨false, [.v (.int .i64 a1)]⟩, ⟨false, [.sl .int a2]⟩, ⟨false, [.sl .a4 a3]⟩] _ := (.cons (RX.den_one _ rfl) (.cons (RX.den_one _ rfl) (.cons (RX.den_sl r2) (.cons (RX.den_sl r3) .nil))))
  have hg : Whole5_S [⟨false, [.v (.string a0)]⟩, ⟨false, [.v (.int .i64 a1)]⟩, ⟨false, [.sl .int a2]⟩, ⟨false, [.sl .a4 a3]⟩] = some ⟨_, .one ⟨false, [.v (.bool true)]⟩⟩ := rfl
  have hc := RX.law_args Whole5_ok hg (⟨wf64 w1, o2, o3⟩) W trivial (args := #[_, _, _, _]) hv.all.1 (fun j d v e1 e2 => hv.all.2 j d v e1 (by have q := e2; rw [← Array.getElem?_toList] at q; exact q))
  refine hc.mono fun e W' ⟨he, bel⟩ => ?_
  subst he
  exact ⟨_, rfl, _, _, _, [], _, [], hW', trodAll_mk1 (shut_bool Try.underlying4 _), (trodAll_cons_mk (Below.trod laidOut (by kernel_rfl) (of_decide_eq_true (by kernel_rfl)) k0 bel lt0) (trodAll_cons_mk (Below.trod laidOut (by kernel_rfl) (of_decide_eq_true (by kernel_rfl)) k1 bel lt1) (trodAll_cons_mk (Below.trod laidOut (by kernel_rfl) (of_decide_eq_true (by kernel_rfl)) k2 bel lt2) (trodAll_cons_mk (Below.trod laidOut (by kernel_rfl) (of_decide_eq_true (by kernel_rfl)) k3 bel lt3) trodAll_mk0)))), rfl, bel.frame _, fun h => by cases h⟩
theorem over : Rows.fragWholeRow.holds Try.pinned (OpenSpec.ofChange Rows.fragWholeSpec) :=
  OpenClaim.holds_of_wide 5 Try.f5 rfl rfl rfl rfl rfl rfl rfl ⟨rfl, rfl, rfl, rfl, rfl⟩ rfl rfl rfl rfl rfl (by kernel_rfl) Try.func5 (by kernel_rfl)
    (of_decide_eq_true (by kernel_rfl)) (by unfold Func.isWrapper; first | (rw [if_pos (by decide +kernel)]; kernel_rfl) | (rw [if_neg (by decide +kernel)]; exact ⟨rfl, rfl⟩))
    (fun os started H enc _ => lifted os started H enc)
theorem proved : Rows.FragWholeSaid := over
#print axioms proved
end Go.Proofs.Ytelpblhhpdonkaa.fragWhole
namespace Go.Proofs.Ytelpblhhpdonkaa
/-- The row, under a short name, for the claim. -/
theorem fragWhole_holds : Rows.FragWholeSaid := fragWhole.proved
end Go.Proofs.Ytelpblhhpdonkaa
