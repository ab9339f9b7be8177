/- The contract of strings.Join, at this program: the library's own text, found where it lies. -/
import Derived.Test.YtelpblhhpdonkaaRFput
import Derived.Shelf.Strings.OnBuilder
namespace Go.Proofs.Ytelpblhhpdonkaa.X
open Go Go.RX Go.RowKit Go.Proofs Go.Shelf
set_option linter.unusedVariables false
set_option linter.unusedSimpArgs false
/-- The library's numbers here. -/
def rJ : Ren := ⟨fun x => match x with | 156 => 37 | 165 => 45 | 166 => 46 | 169 => 47 | 240 => 49 | 241 => 50 | 276 => 51 | 277 => 52 | n => n, fun x => match x with | 31 => 27 | 9 => 9 | 3 => 3 | 4 => 4 | 0 => 0 | 20 => 20 | 72 => 80 | 76 => 84 | 70 => 78 | 37 => 40 | 75 => 83 | 127 => 88 | 164 => 89 | 5 => 5 | 80 => 86 | n => n, fun x => x⟩
theorem layJ : Lays.n156 Try.prog rJ where
  mixed := Eq.refl true
  f156 := Eq.trans Try.func37 (congrArg some (Eq.refl (Body.n156 rJ)))
  f165 := Eq.trans Try.func45 (congrArg some (Eq.refl (Body.n165 rJ)))
  f166 := Eq.trans Try.func46 (congrArg some (Eq.refl (Body.n166 rJ)))
  f169 := Eq.trans Try.func47 (congrArg some (Eq.refl (Body.n169 rJ)))
  f240 := Eq.trans Try.func49 (congrArg some (Eq.refl (Body.n240 rJ)))
  f241 := Eq.trans Try.func50 (congrArg some (Eq.refl (Body.n241 rJ)))
  f276 := Eq.trans Try.func51 (congrArg some (Eq.refl (Body.n276 rJ)))
  f277 := Eq.trans Try.func52 (congrArg some (Eq.refl (Body.n277 rJ)))
  t0 := Try.underlying0
  a0 := Try.isAgg0
  z0 := Try.sizeOf0
  v0 := Try.zeroValue0
  t3 := Try.underlying3
  a3 := Try.isAgg3
  z3 := Try.sizeOf3
  v3 := Try.zeroValue3
  t4 := Try.underlying4
  a4 := Try.isAgg4
  z4 := Try.sizeOf4
  v4 := Try.zeroValue4
  t9 := Try.underlying9
  a9 := Try.isAgg9
  z9 := Try.sizeOf9
  v9 := Try.zeroValue9
  t20 := Try.underlying20
  a20 := Try.isAgg20
  z20 := Try.sizeOf20
  v20 := Try.zeroValue20
  t31 := Try.underlying27
  a31 := Try.isAgg27
  z31 := Try.sizeOf27
  v31 := Try.zeroValue27
  t37 := Try.underlying40
  a37 := Try.isAgg40
  z37 := Try.sizeOf40
  v37 := Try.zeroValue40
  t70 := Try.underlying78
  a70 := Try.isAgg78
  z70 := Try.sizeOf78
  v70 := Try.zeroValue78
  t72 := Try.underlying80
  a72 := Try.isAgg80
  z72 := Try.sizeOf80
  v72 := Try.zeroValue80
  t75 := Try.underlying83
  a75 := Try.isAgg83
  z75 := Try.sizeOf83
  v75 := Try.zeroValue83
  t76 := Try.underlying84
  a76 := Try.isAgg84
  z76 := Try.sizeOf84
  v76 := Try.zeroValue84
  t127 := Try.underlying88
  a127 := Try.isAgg88
  z127 := Try.sizeOf88
  v127 := Try.zeroValue88
  t164 := Try.underlying89
  a164 := Try.isAgg89
  z164 := Try.sizeOf89
  v164 := Try.zeroValue89
theorem extJ : Builder.Extra Try.prog rJ where
  sizeBuilder := by kernel_rfl
  liesBuilder := by kernel_rfl
  t5 := Try.underlying5
  a5 := Try.isAgg5
  z5 := Try.sizeOf5
  v5 := Try.zeroValue5
  infoByte := by kernel_rfl
  cellsByte := by kernel_rfl
  sizeByte := by kernel_rfl
  neB5 := by decide
theorem cat_data (l : List ByteArray) : (⟨(Lib.join (l.map (·.data.toList)) []).toArray⟩ : ByteArray) = catS l := by
  have h : ∀ l : List ByteArray, ((l.map (·.data.toList)).flatten).toArray = (catS l).data := fun l => by
    induction l with
    | nil => rfl
    | cons s l ih =>
      rw [List.map_cons, List.flatten_cons, catS, ByteArray.data_append, ← ih]
      apply Array.ext'
      simp
  have hj : ∀ L : List (List UInt8), Lib.join L [] = L.flatten := fun L => by
    unfold Lib.join
    induction L with
    | nil => rfl
    | cons x L ih =>
      cases L with
      | nil => simp [List.intercalate]
      | cons y L => rw [List.intercalate_cons_cons, List.flatten_cons, ← ih]; simp
  rw [hj, h]
def fJoin_S : RX.Spec U := fun
  | [⟨false, [.sl .str l]⟩, ⟨false, [.v (.string s)]⟩] => some ⟨some ((l.length ≤ 1000000 ∧ (catS l).size ≤ 1000000 ∧ s = .empty)), (.one ⟨false, [.v (.string (catS l))]⟩)⟩
  | _ => none

theorem fJoin_ok : ConOk Try.prog U GV 37 fJoin_S := by
  refine ⟨by kernel_rfl, fun ds r hg hp w F args hw hF hl hd => ?_⟩
  unfold fJoin_S at hg
  split at hg
  · rename_i l s
    cases hg
    obtain ⟨p1, p2, rfl⟩ : l.length ≤ 1000000 ∧ (catS l).size ≤ 1000000 ∧ s = .empty := hp
    obtain ⟨l, rfl⟩ : ∃ q_ : List ByteArray, q_ = l := ⟨l, rfl⟩
    obtain ⟨zs⟩ := args
    obtain ⟨v, u, rfl⟩ : ∃ v u, zs = [v, u] := by
      have h2 : zs.length = 2 := hl.symm
      match zs, h2 with
      | [v, u], _ => exact ⟨v, u, rfl⟩
    obtain ⟨cv, e1, e2⟩ := hd 0 _ v rfl rfl
    cases e1
    have e2 : Rd U F w v Kind.str l := e2
    obtain ⟨cu, e3, e4⟩ := hd 1 _ u rfl rfl
    cases e3
    obtain ⟨rfl, _⟩ : u = .string .empty ∧ _ := e4
    have hout : ∀ (e : Ending) (w' : World), (e = .returned (.string (catS l)) ∧ Below w.heap.size w w') → ∃ y, e = .returned y ∧ ∃ F' : Nat → Nat → Prop, Below w.heap.size w w' ∧ (∀ b o, F b o → F' b o) ∧ (∀ b o, F' b o → F b o ∨ w.heap.size ≤ b) ∧ (∀ b o, F' b o → b < w'.heap.size) ∧ OutDen U F' w' (.one ⟨false, [.v (.string (catS l))]⟩) y := fun e w' ⟨q1, q2⟩ =>
      ⟨_, q1, F, q2, fun _ _ x => x, fun _ _ x => .inl x, fun b o x => Nat.lt_of_lt_of_le (hF b o x) q2.size, _, rfl, rfl, rfl⟩
    obtain ⟨A, cap, rfl, hcap, hmax, hel⟩ := e2.el
    cases A with
    | none =>
      have h0 : l.length = 0 := by
        rcases Nat.eq_zero_or_pos l.length with q | q
        · exact q
        · obtain ⟨ad, c, _⟩ := hel q; cases c
      have : l = [] := List.eq_nil_of_length_eq_zero h0
      subst this
      exact (Any.strings_Join_none layJ extJ none cap .empty w).mono fun e w' ⟨q1, q2⟩ => hout e w' ⟨q1, q2 ▸ Below.refl _ _⟩
    | some ad =>
      rcases Nat.eq_zero_or_pos l.length with h0 | h0
      · have : l = [] := List.eq_nil_of_length_eq_zero h0
        subst this
        exact (Any.strings_Join_none layJ extJ (some ad) cap .empty w).mono fun e w' ⟨q1, q2⟩ => hout e w' ⟨q1, q2 ▸ Below.refl _ _⟩
      · obtain ⟨ad', c, hsp, hel⟩ := hel h0
        cases c
        obtain ⟨bk, off, sp⟩ := ad
        have hsp : sp = none := hsp
        subst hsp
        have hcell : ∀ (j : Nat) x, l[j]? = some x → w.cell? ⟨bk, off + j, none⟩ = some (.string x) := fun j x e => by
          obtain ⟨hj, e⟩ := List.getElem?_eq_some_iff.mp e
          obtain ⟨y, q1, q2⟩ := hel j hj 0 (.v (.string x)) (by
            show [CV.v (Value.string (l.getD j ByteArray.empty))][0]? = _
            rw [List.getD_eq_getElem?_getD, List.getElem?_eq_getElem hj, Option.getD_some, e]; rfl)
          have : j * U.size Kind.str + 0 = j := Nat.mul_one j
          rw [this] at q1
          rw [q1]
          exact congrArg some q2.1
        have hbk : bk < w.heap.size := World.block_lt_of_cell? w _ (hcell 0 l[0] (List.getElem?_eq_getElem h0))
        have hlen : (Lib.join (l.map (·.data.toList)) (ByteArray.empty).data.toList).length ≤ 140737488355328 := by
          have h1 := congrArg ByteArray.size (cat_data l)
          have h2 : (⟨(Lib.join (l.map (·.data.toList)) []).toArray⟩ : ByteArray).size = (Lib.join (l.map (·.data.toList)) []).length := by simp [ByteArray.size]
          rw [h2] at h1
          show (Lib.join (l.map (·.data.toList)) []).length ≤ _
          omega
        refine (Any.strings_Join layJ extJ bk off cap l .empty w hcell hbk (Nat.le_trans p1 (by decide)) hcap hlen).mono fun e w' ⟨q1, q2⟩ => hout e w' ⟨?_, q2⟩
        rw [q1]
        exact congrArg (fun x => Ending.returned (Value.string x)) (cat_data l)
  · cases hg
def fWhole_S : RX.Spec U := fun
  | [⟨true, [.v (.int .i64 i), .v (.int .i64 sq), .sl .str l]⟩] => some ⟨some (l.length ≤ 1000000), (.tup [⟨false, [.v (.string (wholeS ⟨i, sq, l⟩))]⟩, ⟨false, [.v (.bool (wholeB ⟨i, sq, l⟩))]⟩])⟩
  | _ => none

theorem fWhole_ok : ConOk Try.prog U GV 24 fWhole_S :=
  fn_go gs ty glok (conCons fMay_ok (conCons fhasNone_ok (conCons fJoin_ok conNil))) Try.func24 (by kernel_rfl) fun ds r hg hp => by
    unfold fWhole_S at hg
    split at hg
    · rename_i i sq l
      obtain ⟨l, rfl⟩ : ∃ q_ : List ByteArray, q_ = l := ⟨l, rfl⟩
      cases hg
      replace hp : (l.length ≤ 1000000) := hp
      refine ⟨fun _ _ => none, List.length l ≤ (1000000 : Nat) ∧ ((!(!gatherM (Gather.mk i sq l) || (↑(List.length l) : Int) == (0 : Int))) = true → List.length l ≤ (1000000 : Nat)) ∧ ((!gatherM (Gather.mk i sq l) || (↑(List.length l) : Int) == (0 : Int) || hasS l (ByteArray.mk (Array.mk []))) = true → Out.tup (U := U) [D.mk false [CV.v (Value.string (ByteArray.mk (Array.mk [])))], D.mk false [CV.v (Value.bool false)]] = Out.tup (U := U) [D.mk false [CV.v (Value.string (wholeS (Gather.mk i sq l)))], D.mk false [CV.v (Value.bool (wholeB (Gather.mk i sq l)))]]) ∧ ((!gatherM (Gather.mk i sq l) || (↑(List.length l) : Int) == (0 : Int) || hasS l (ByteArray.mk (Array.mk []))) = false → (List.length l ≤ (1000000 : Nat) ∧ ByteArray.size (catS l) ≤ (1000000 : Nat) ∧ ByteArray.mk (Array.mk []) = ByteArray.empty) ∧ Out.tup (U := U) [D.mk false [CV.v (Value.string (catS l))], D.mk false [CV.v (Value.bool true)]] = Out.tup (U := U) [D.mk false [CV.v (Value.string (wholeS (Gather.mk i sq l)))], D.mk false [CV.v (Value.bool (wholeB (Gather.mk i sq l)))]]), by kernel_rfl, ?_⟩
      have e0 : ByteArray.mk (Array.mk []) = ByteArray.empty := rfl
      simp only [e0]
      have key : wholeB ⟨i, sq, l⟩ = !(!gatherM ⟨i, sq, l⟩ || ((l.length : Int) == 0) || hasS l .empty) := by
        unfold wholeB
        have : decide (l.length = 0) = ((l.length : Int) == 0) := by
          rw [Bool.eq_iff_iff]; simp
        show (gatherM ⟨i, sq, l⟩ && !decide (l.length = 0) && !hasS l .empty) = _
        rw [this, Bool.not_or, Bool.not_or, Bool.not_not]
      refine ⟨hp, fun _ => hp, fun h => ?_, fun h => ?_⟩
      · rw [h] at key
        unfold wholeS; rw [key]; rfl
      · rw [h] at key
        simp only [Bool.or_eq_false_iff, Bool.not_eq_false'] at h
        obtain ⟨h20, hall⟩ := gatherM_parts h.1.1
        have h20 : l.length ≤ 20 := h20
        have := catS_size hall
        have h3 : (catS l).size ≤ 16 * l.length := this
        refine ⟨⟨hp, by omega, (by trivial)⟩, ?_⟩
        unfold wholeS; rw [key]; rfl
    · cases hg

end Go.Proofs.Ytelpblhhpdonkaa.X
