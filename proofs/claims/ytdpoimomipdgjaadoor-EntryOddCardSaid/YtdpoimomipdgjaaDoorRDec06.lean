/- The entry that bytes begin with, as the document says. -/
import Derived.Test.YtdpoimomipdgjaaDoorREnc06
namespace Go.Proofs.YtdpoimomipdgjaaDoor.X
open Go Go.RX Go.RowKit Go.Proofs
set_option linter.unusedVariables false
set_option linter.unusedSimpArgs false
/-- How many members. -/
def edN (s : ByteArray) : Nat := (vl (toldI s 4) 16).length
def edI0 (s : ByteArray) (k : Nat) : List Int := (List.range k).map fun (i : Nat) => toldI s (6 + 2 * (i : Int))
/-- How many messages. -/
def edM (s : ByteArray) : Int := bt s (6 + 2 * (edN s : Int))
/-- What is left when k messages were read, and those messages. -/
def edSr (s : ByteArray) : Nat → ByteArray
  | 0 => s.extract (7 + 2 * edN s) s.size
  | k + 1 => decR (edSr s k)
def edSm (s : ByteArray) : Nat → List Msg
  | 0 => []
  | k + 1 => edSm s k ++ [decM (edSr s k)]
theorem edSm_length (s : ByteArray) : ∀ k, (edSm s k).length = k
  | 0 => rfl
  | k + 1 => by rw [edSm, List.length_append, edSm_length s k]; rfl
def edF (s : ByteArray) : List Int := (List.range (edM s).toNat).map fun k => decE (edSr s k)
def edE (s : ByteArray) : Int := if s.size < 6 then 3 else if (s.size : Int) < 7 + 2 * (edN s : Int) then 3 else if 16 < edM s then 2 else if firstN (edF s) ≠ 0 then firstN (edF s) else if entR (toldI s 0) (toldI s 2) (toldI s 4) (edI0 s (edN s)) (edSm s (edM s).toNat) = true then 0 else 2
def edT (s : ByteArray) (k : Int) : Int := if edE s = 0 then toldI s k else 0
def edI (s : ByteArray) : List Int := if edE s = 0 then edI0 s (edN s) else []
def edL (s : ByteArray) : List Msg := if edE s = 0 then (edSm s (edM s).toNat) else []
def edR (s : ByteArray) : ByteArray := if edE s = 0 then (edSr s (edM s).toNat) else .empty
def reDecode_S : RX.Spec U := fun
  | [⟨false, [.v (.string s)]⟩] => some ⟨none, (.tup [⟨true, [.v (.int .i64 (edT s 0)), .v (.int .i64 (edT s 2)), .v (.int .i64 (edT s 4)), .sl .int (edI s), .sl .msg (edL s)]⟩, ⟨false, [.v (.string (edR s))]⟩, ⟨false, [.v (.int .i64 (edE s))]⟩])⟩
  | _ => none

theorem reDecode_ok : ConOk Tryd.prog U GV 20 reDecode_S :=
  fn_go gs ty glok (conCons etold_ok (conCons rCount_ok (conCons rDecode_ok (conCons reRight_ok conNil)))) Tryd.func20 (by kernel_rfl) fun ds r hg hp => by
    unfold reDecode_S at hg
    split at hg
    · rename_i s
      cases hg
      refine ⟨fun st key => if key = 8 then some { N := edN s, mods := fun k => [.tv 7 (.int .i64 (k : Int)), .cr 5 3 .int (edI0 s k) true] } else if key = 16 then some { N := (edM s).toNat, mods := fun k => [.tv 10 (.int .i64 (k : Int)), .tv 9 (.string (edSr s k)), .cr 5 4 .msg (edSm s k) true], inv := fun k => ∀ x ∈ (edF s).take k, x = 0 } else none, (decide ((↑(ByteArray.size s) : Int) < (6 : Int)) = true → Out.tup (U := U) [D.mk true [CV.v (Value.int IntKind.i64 (0 : Int)), CV.v (Value.int IntKind.i64 (0 : Int)), CV.v (Value.int IntKind.i64 (0 : Int)), CV.sl Kind.int [], CV.sl Kind.msg []], D.mk false [CV.v (Value.string (ByteArray.mk (Array.mk [])))], D.mk false [CV.v (Value.int IntKind.i64 (3 : Int))]] = Out.tup (U := U) [D.mk true [CV.v (Value.int IntKind.i64 (edT s (0 : Int))), CV.v (Value.int IntKind.i64 (edT s (2 : Int))), CV.v (Value.int IntKind.i64 (edT s (4 : Int))), CV.sl Kind.int (edI s), CV.sl Kind.msg (edL s)], D.mk false [CV.v (Value.string (edR s))], D.mk false [CV.v (Value.int IntKind.i64 (edE s))]]) ∧ (decide ((↑(ByteArray.size s) : Int) < (6 : Int)) = false → ((0 : Int) ≤ (0 : Int) ∧ (1 : Int) < (↑(ByteArray.size s) : Int) ∧ (0 : Int) ≤ (1000000 : Int)) ∧ ((0 : Int) ≤ (2 : Int) ∧ (3 : Int) < (↑(ByteArray.size s) : Int) ∧ (2 : Int) ≤ (1000000 : Int)) ∧ ((0 : Int) ≤ (4 : Int) ∧ (5 : Int) < (↑(ByteArray.size s) : Int) ∧ (4 : Int) ≤ (1000000 : Int)) ∧ (decide ((↑(ByteArray.size s) : Int) < wrap64 ((7 : Int) + wrap64 ((2 : Int) * (↑(List.length (vl (toldI s (4 : Int)) (16 : Nat))) : Int)))) = true → Out.tup (U := U) [D.mk true [CV.v (Value.int IntKind.i64 (0 : Int)), CV.v (Value.int IntKind.i64 (0 : Int)), CV.v (Value.int IntKind.i64 (0 : Int)), CV.sl Kind.int [], CV.sl Kind.msg []], D.mk false [CV.v (Value.string (ByteArray.mk (Array.mk [])))], D.mk false [CV.v (Value.int IntKind.i64 (3 : Int))]] = Out.tup (U := U) [D.mk true [CV.v (Value.int IntKind.i64 (edT s (0 : Int))), CV.v (Value.int IntKind.i64 (edT s (2 : Int))), CV.v (Value.int IntKind.i64 (edT s (4 : Int))), CV.sl Kind.int (edI s), CV.sl Kind.msg (edL s)], D.mk false [CV.v (Value.string (edR s))], D.mk false [CV.v (Value.int IntKind.i64 (edE s))]]) ∧ (decide ((↑(ByteArray.size s) : Int) < wrap64 ((7 : Int) + wrap64 ((2 : Int) * (↑(List.length (vl (toldI s (4 : Int)) (16 : Nat))) : Int)))) = false → True ∧ (Value.int IntKind.i64 (0 : Int) = Value.int IntKind.i64 (0 : Int) ∧ edI0 s (0 : Nat) = []) ∧ ∀ (k : Nat), k ≤ edN s → True → (decide ((↑k : Int) < (↑(List.length (vl (toldI s (4 : Int)) (16 : Nat))) : Int)) = true → ((0 : Int) ≤ wrap64 ((6 : Int) + wrap64 ((2 : Int) * (↑k : Int))) ∧ wrap64 ((6 : Int) + wrap64 ((2 : Int) * (↑k : Int))) + (1 : Int) < (↑(ByteArray.size s) : Int) ∧ wrap64 ((6 : Int) + wrap64 ((2 : Int) * (↑k : Int))) ≤ (1000000 : Int)) ∧ List.length (edI0 s k) + List.length [toldI s (wrap64 ((6 : Int) + wrap64 ((2 : Int) * (↑k : Int))))] ≤ (1000000 : Nat) ∧ k < edN s ∧ True ∧ Value.int IntKind.i64 (wrap64 ((↑k : Int) + (1 : Int))) = Value.int IntKind.i64 (↑(k + (1 : Nat)) : Int) ∧ True ∧ edI0 s k ++ [toldI s (wrap64 ((6 : Int) + wrap64 ((2 : Int) * (↑k : Int))))] = edI0 s (k + (1 : Nat))) ∧ (decide ((↑k : Int) < (↑(List.length (vl (toldI s (4 : Int)) (16 : Nat))) : Int)) = false → ((0 : Int) ≤ wrap64 ((6 : Int) + wrap64 ((2 : Int) * (↑(List.length (vl (toldI s (4 : Int)) (16 : Nat))) : Int))) ∧ wrap64 ((6 : Int) + wrap64 ((2 : Int) * (↑(List.length (vl (toldI s (4 : Int)) (16 : Nat))) : Int))) < (↑(ByteArray.size s) : Int)) ∧ (decide ((16 : Int) < IntKind.wrap IntKind.i64 (bt s (wrap64 ((6 : Int) + wrap64 ((2 : Int) * (↑(List.length (vl (toldI s (4 : Int)) (16 : Nat))) : Int)))))) = true → Out.tup (U := U) [D.mk true [CV.v (Value.int IntKind.i64 (0 : Int)), CV.v (Value.int IntKind.i64 (0 : Int)), CV.v (Value.int IntKind.i64 (0 : Int)), CV.sl Kind.int [], CV.sl Kind.msg []], D.mk false [CV.v (Value.string (ByteArray.mk (Array.mk [])))], D.mk false [CV.v (Value.int IntKind.i64 (2 : Int))]] = Out.tup (U := U) [D.mk true [CV.v (Value.int IntKind.i64 (edT s (0 : Int))), CV.v (Value.int IntKind.i64 (edT s (2 : Int))), CV.v (Value.int IntKind.i64 (edT s (4 : Int))), CV.sl Kind.int (edI s), CV.sl Kind.msg (edL s)], D.mk false [CV.v (Value.string (edR s))], D.mk false [CV.v (Value.int IntKind.i64 (edE s))]]) ∧ (decide ((16 : Int) < IntKind.wrap IntKind.i64 (bt s (wrap64 ((6 : Int) + wrap64 ((2 : Int) * (↑(List.length (vl (toldI s (4 : Int)) (16 : Nat))) : Int)))))) = false → ((0 : Int) ≤ wrap64 ((7 : Int) + wrap64 ((2 : Int) * (↑(List.length (vl (toldI s (4 : Int)) (16 : Nat))) : Int))) ∧ wrap64 ((7 : Int) + wrap64 ((2 : Int) * (↑(List.length (vl (toldI s (4 : Int)) (16 : Nat))) : Int))) ≤ (↑(ByteArray.size s) : Int)) ∧ (∀ (x : Int), List.Mem x (List.take (0 : Nat) (edF s)) → x = (0 : Int)) ∧ (Value.int IntKind.i64 (0 : Int) = Value.int IntKind.i64 (0 : Int) ∧ Value.string (ByteArray.extract s (Int.toNat (wrap64 ((7 : Int) + wrap64 ((2 : Int) * (↑(List.length (vl (toldI s (4 : Int)) (16 : Nat))) : Int))))) (ByteArray.size s)) = Value.string (edSr s (0 : Nat)) ∧ edSm s (0 : Nat) = []) ∧ ∀ (k_1 : Nat), k_1 ≤ Int.toNat (edM s) → (∀ (x : Int), List.Mem x (List.take k_1 (edF s)) → x = (0 : Int)) → (decide ((↑k_1 : Int) < IntKind.wrap IntKind.i64 (bt s (wrap64 ((6 : Int) + wrap64 ((2 : Int) * (↑(List.length (vl (toldI s (4 : Int)) (16 : Nat))) : Int)))))) = true → ((decE (edSr s k_1) != (0 : Int)) = true → Out.tup (U := U) [D.mk true [CV.v (Value.int IntKind.i64 (0 : Int)), CV.v (Value.int IntKind.i64 (0 : Int)), CV.v (Value.int IntKind.i64 (0 : Int)), CV.sl Kind.int [], CV.sl Kind.msg []], D.mk false [CV.v (Value.string (ByteArray.mk (Array.mk [])))], D.mk false [CV.v (Value.int IntKind.i64 (decE (edSr s k_1)))]] = Out.tup (U := U) [D.mk true [CV.v (Value.int IntKind.i64 (edT s (0 : Int))), CV.v (Value.int IntKind.i64 (edT s (2 : Int))), CV.v (Value.int IntKind.i64 (edT s (4 : Int))), CV.sl Kind.int (edI s), CV.sl Kind.msg (edL s)], D.mk false [CV.v (Value.string (edR s))], D.mk false [CV.v (Value.int IntKind.i64 (edE s))]]) ∧ ((decE (edSr s k_1) != (0 : Int)) = false → List.length (edSm s k_1) + List.length [decM (edSr s k_1)] ≤ (1000000 : Nat) ∧ k_1 < Int.toNat (edM s) ∧ (∀ (x : Int), List.Mem x (List.take (k_1 + (1 : Nat)) (edF s)) → x = (0 : Int)) ∧ Value.int IntKind.i64 (wrap64 ((↑k_1 : Int) + (1 : Int))) = Value.int IntKind.i64 (↑(k_1 + (1 : Nat)) : Int) ∧ Value.string (decR (edSr s k_1)) = Value.string (edSr s (k_1 + (1 : Nat))) ∧ True ∧ edSm s k_1 ++ [decM (edSr s k_1)] = edSm s (k_1 + (1 : Nat)))) ∧ (decide ((↑k_1 : Int) < IntKind.wrap IntKind.i64 (bt s (wrap64 ((6 : Int) + wrap64 ((2 : Int) * (↑(List.length (vl (toldI s (4 : Int)) (16 : Nat))) : Int)))))) = false → (List.length (edI0 s k) ≤ (1000000 : Nat) ∧ List.length (edSm s k_1) ≤ (1000000 : Nat)) ∧ ((!entR (toldI s (0 : Int)) (toldI s (2 : Int)) (toldI s (4 : Int)) (edI0 s k) (edSm s k_1)) = true → Out.tup (U := U) [D.mk true [CV.v (Value.int IntKind.i64 (0 : Int)), CV.v (Value.int IntKind.i64 (0 : Int)), CV.v (Value.int IntKind.i64 (0 : Int)), CV.sl Kind.int [], CV.sl Kind.msg []], D.mk false [CV.v (Value.string (ByteArray.mk (Array.mk [])))], D.mk false [CV.v (Value.int IntKind.i64 (2 : Int))]] = Out.tup (U := U) [D.mk true [CV.v (Value.int IntKind.i64 (edT s (0 : Int))), CV.v (Value.int IntKind.i64 (edT s (2 : Int))), CV.v (Value.int IntKind.i64 (edT s (4 : Int))), CV.sl Kind.int (edI s), CV.sl Kind.msg (edL s)], D.mk false [CV.v (Value.string (edR s))], D.mk false [CV.v (Value.int IntKind.i64 (edE s))]]) ∧ ((!entR (toldI s (0 : Int)) (toldI s (2 : Int)) (toldI s (4 : Int)) (edI0 s k) (edSm s k_1)) = false → Out.tup (U := U) [D.mk true [CV.v (Value.int IntKind.i64 (toldI s (0 : Int))), CV.v (Value.int IntKind.i64 (toldI s (2 : Int))), CV.v (Value.int IntKind.i64 (toldI s (4 : Int))), CV.sl Kind.int (edI0 s k), CV.sl Kind.msg (edSm s k_1)], D.mk false [CV.v (Value.string (edSr s k_1))], D.mk false [CV.v (Value.int IntKind.i64 (0 : Int))]] = Out.tup (U := U) [D.mk true [CV.v (Value.int IntKind.i64 (edT s (0 : Int))), CV.v (Value.int IntKind.i64 (edT s (2 : Int))), CV.v (Value.int IntKind.i64 (edT s (4 : Int))), CV.sl Kind.int (edI s), CV.sl Kind.msg (edL s)], D.mk false [CV.v (Value.string (edR s))], D.mk false [CV.v (Value.int IntKind.i64 (edE s))]])))))), by kernel_rfl, ?_⟩
      simp only [wr64]
      have r4 := vl_length (toldI s 4) 16
      have eN : (vl (toldI s (4 : Int)) 16).length = edN s := rfl
      have hN : edN s ≤ 16 := r4
      have w2 : wrap64 ((2 : Int) * (edN s : Int)) = 2 * (edN s : Int) := w64 (by omega)
      have w7 : wrap64 ((7 : Int) + 2 * (edN s : Int)) = 7 + 2 * (edN s : Int) := w64 (by omega)
      have w6 : wrap64 ((6 : Int) + 2 * (edN s : Int)) = 6 + 2 * (edN s : Int) := w64 (by omega)
      have rM := bt_range s (6 + 2 * (edN s : Int))
      have wb : wrap64 (bt s (6 + 2 * (edN s : Int))) = bt s (6 + 2 * (edN s : Int)) := w64 (by omega)
      have eM : bt s (6 + 2 * (edN s : Int)) = edM s := rfl
      have n7 : Int.toNat (7 + 2 * (edN s : Int)) = 7 + 2 * edN s := by omega
      rw [eN, w2, w7, w6, wb, eM, n7]
      rw [eM] at rM
      clear wb eM w2 w7 w6 n7 eN r4
      have bad : ∀ c, c ≠ 0 → edE s = c → (∀ k, edT s k = 0) ∧ edI s = [] ∧ edL s = [] ∧ edR s = .empty := fun c hc h => by
        have hn : ¬ edE s = 0 := by omega
        exact ⟨fun k => if_neg hn, if_neg hn, if_neg hn, if_neg hn⟩
      refine ⟨fun h => ?_, fun h => ?_⟩
      · have hE : edE s = 3 := if_pos (by have := of_decide_eq_true h; omega)
        obtain ⟨m1, m2, m3, m4⟩ := bad 3 (by decide) hE
        rw [m1, m1, m1, m2, m3, m4, hE]; rfl
      · have h := of_decide_eq_false h
        refine ⟨by omega, by omega, by omega, fun h2 => ?_, fun h2 => ?_⟩
        · have hE : edE s = 3 := by unfold edE; rw [if_neg (by omega), if_pos (of_decide_eq_true h2)]
          obtain ⟨m1, m2, m3, m4⟩ := bad 3 (by decide) hE
          rw [m1, m1, m1, m2, m3, m4, hE]; rfl
        · have h2 := of_decide_eq_false h2
          refine ⟨trivial, ⟨(by trivial), rfl⟩, fun k hk _ => ⟨fun hlt => ?_, fun hge => ?_⟩⟩
          · have hlt : k < edN s := by have := of_decide_eq_true hlt; omega
            rw [w64 (x := (2 : Int) * (k : Int)) (by omega), w64 (x := (6 : Int) + 2 * (k : Int)) (by omega), w64 (x := (k : Int) + 1) (by omega)]
            have hl : (edI0 s k).length = k := by unfold edI0; rw [List.length_map, List.length_range]
            refine ⟨by omega, by rw [hl]; show k + 1 ≤ 1000000; omega, hlt, trivial, rfl, trivial, ?_⟩
            unfold edI0
            rw [List.range_succ, List.map_append]; rfl
          · have hge := of_decide_eq_false hge
            have hkN : k = edN s := by omega
            subst hkN
            refine ⟨by omega, fun h3 => ?_, fun h3 => ?_⟩
            · have hE : edE s = 2 := by unfold edE; rw [if_neg (by omega), if_neg h2, if_pos (of_decide_eq_true h3)]
              obtain ⟨m1, m2, m3, m4⟩ := bad 2 (by decide) hE
              rw [m1, m1, m1, m2, m3, m4, hE]; rfl
            · have h3 := of_decide_eq_false h3
              have hFl : (edF s).length = (edM s).toNat := by unfold edF; rw [List.length_map, List.length_range]
              refine ⟨by omega, fun x hx => (by cases hx), ⟨(by trivial), rfl, rfl⟩, fun i hi hik => ⟨fun hlt => ?_, fun hge2 => ?_⟩⟩
              · have hlt : i < (edF s).length := by have := of_decide_eq_true hlt; omega
                have eg : (edF s)[i] = decE (edSr s i) := by simp only [edF, List.getElem_map, List.getElem_range]
                refine ⟨fun h4 => ?_, fun h4 => ?_⟩
                · have h4 : decE (edSr s i) ≠ 0 := by simpa using h4
                  have hf : firstN (edF s) = decE (edSr s i) := (firstN_at hlt hik (by rw [eg]; exact h4)).trans eg
                  have hE : edE s = decE (edSr s i) := by
                    unfold edE
                    rw [if_neg (by omega), if_neg h2, if_neg h3, hf, if_pos h4]
                  obtain ⟨m1, m2, m3, m4⟩ := bad _ h4 hE
                  rw [m1, m1, m1, m2, m3, m4, hE]; rfl
                · have h4 : decE (edSr s i) = 0 := by simpa using h4
                  refine ⟨by rw [edSm_length]; show i + 1 ≤ 1000000; omega, by omega, fun x hx => ?_, ?_, rfl, trivial, rfl⟩
                  · have hx : x ∈ (edF s).take (i + 1) := hx
                    rw [List.take_succ_eq_append_getElem hlt] at hx
                    rcases List.mem_append.mp hx with q | q
                    · exact hik x q
                    · have : x = (edF s)[i] := by simpa using q
                      rw [this, eg]; exact h4
                  · rw [w64 (by omega)]; rfl
              · have hge2 := of_decide_eq_false hge2
                have hiM : i = (edM s).toNat := by omega
                have e1 : (edF s).take i = edF s := List.take_of_length_le (by omega)
                rw [e1] at hik
                have hf : firstN (edF s) = 0 := firstN_zero hik
                have hl : (edI0 s (edN s)).length = edN s := by unfold edI0; rw [List.length_map, List.length_range]
                refine ⟨⟨by omega, by rw [edSm_length]; omega⟩, fun h4 => ?_, fun h4 => ?_⟩
                · have h4 : entR (toldI s 0) (toldI s 2) (toldI s 4) (edI0 s (edN s)) (edSm s i) = false := by simpa using h4
                  have hE : edE s = 2 := by
                    unfold edE
                    rw [if_neg (by omega), if_neg h2, if_neg h3, hf, if_neg (by omega), ← hiM, h4, if_neg (by decide)]
                  obtain ⟨m1, m2, m3, m4⟩ := bad 2 (by decide) hE
                  rw [m1, m1, m1, m2, m3, m4, hE]; rfl
                · have h4 : entR (toldI s 0) (toldI s 2) (toldI s 4) (edI0 s (edN s)) (edSm s i) = true := by simpa using h4
                  have hE : edE s = 0 := by
                    unfold edE
                    rw [if_neg (by omega), if_neg h2, if_neg h3, hf, if_neg (by omega), ← hiM, h4, if_pos rfl]
                  have m1 : ∀ k, edT s k = toldI s k := fun k => if_pos hE
                  have m2 : edI s = edI0 s (edN s) := if_pos hE
                  have m3 : edL s = edSm s (edM s).toNat := if_pos hE
                  have m4 : edR s = edSr s (edM s).toNat := if_pos hE
                  rw [m1, m1, m1, m2, m3, m4, hE, hiM]
    · cases hg

end Go.Proofs.YtdpoimomipdgjaaDoor.X
