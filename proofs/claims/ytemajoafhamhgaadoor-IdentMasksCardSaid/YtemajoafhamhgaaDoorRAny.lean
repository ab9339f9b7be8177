/- Whether one of some filters lets an identifier through. -/
import Derived.Test.YtemajoafhamhgaaDoorRAmong
namespace Go.Proofs.YtemajoafhamhgaaDoor.X
open Go Go.RX Go.RowKit Go.Proofs
set_option linter.unusedVariables false
set_option linter.unusedSimpArgs false
def anyB (e : Bool) (n : Int) (l : List Filter) : Bool := l.any fun f => matchB f.ext f.code f.mask e n
def Any_S : RX.Spec U := fun
  | [⟨true, [.v (.bool e), .v (.int .i64 n)]⟩, ⟨false, [.sl .filter l]⟩] => some ⟨some (l.length ≤ 1000), (.one ⟨false, [.v (.bool (anyB e n l))]⟩)⟩
  | _ => none

theorem match_Q (e : Bool) (c m : Int) (f : Bool) (n : Int) : Q.ident_Match.f e c m f n = some (matchB e c m f n) := by
  have hw : ∀ n e, Q.ident_within.f n e = some (right e n) := fun n e => by
    have := right_Q e n
    unfold Q.ident_Right.f at this
    cases h : Q.ident_within.f n e with
    | none => rw [h] at this; cases this
    | some b => rw [h] at this; exact this
  unfold Q.ident_Match.f Q.ident_Fits.f matchB
  rw [hw, hw, right_Q]
  have hh : ∀ x : Int, (x == (0 : Int)) = decide (x = 0) := fun x => by simp [BEq.beq]
  rw [hh]
  cases right e c <;> cases right e m <;> cases right f n <;> cases e <;> cases f <;> simp
def toS (f : Filter) : Q.S40 := ⟨f.ext, f.code, f.mask⟩
theorem any_Q (e : Bool) (n : Int) : ∀ l : List Filter, Q.anyW e n (List.map toS l) = some (anyB e n l) := by
  intro l
  induction l with
  | nil => rfl
  | cons f l ih =>
    rw [List.map_cons, Q.anyW]
    show (Q.ident_Match.f f.ext f.code f.mask e n).bind _ = _
    rw [match_Q, Option.bind_some, ih]
    unfold anyB
    rw [List.any_cons]
    cases matchB f.ext f.code f.mask e n <;> simp
theorem filter_C {w : World} {F : Nat → Nat → Prop} {v : Value} {l : List Filter} (h : Rd U F w v .filter l) : ∃ A m cap, v = .slice A m cap ∧ YtemajoafhamhgaaDoorW.PrintWords.Kd.C Q.k40 w A l.length (l.map toS) ∧ l.length = m ∧ m ≤ cap := by
  obtain ⟨d, q⟩ := h
  cases d with
  | zero => exact q.elim
  | succ d =>
    obtain ⟨A, m, cap, rfl, hlen, hcap, hmax, hc⟩ := q
    refine ⟨A, m, cap, rfl, ?_, hlen, hcap⟩
    refine ⟨by simp, by have : cap ≤ 9223372036854775807 := hmax; have : l.length = m := hlen; omega, fun hn => ?_⟩
    have hn' : 0 < m := by have : l.length = m := hlen; omega
    obtain ⟨ad, rfl, hs, hcell⟩ := hc hn'
    obtain ⟨b, off, sp⟩ := ad
    cases hs
    refine ⟨_, rfl, fun j p hj => ?_⟩
    rw [List.getElem?_map] at hj
    obtain ⟨f, hf, rfl⟩ := Option.map_eq_some_iff.mp hj
    have hlt := (List.getElem?_eq_some_iff.mp hf).1
    have hfe : l[j] = f := (List.getElem?_eq_some_iff.mp hf).2
    refine ⟨_, rfl, Q.k40_mk w (toS f), fun i u hu => ?_⟩
    have key : ∀ i cv, (U.enc .filter f)[i]? = some cv → _ := fun i cv hcv => hcell j hlt i cv (by rw [← hfe] at hcv; exact hcv)
    have hadd : ∀ k, (Addr.add ⟨b, off, none⟩ k) = ⟨b, off + k, none⟩ := fun k => RX.add_at b off k
    rw [hadd]
    match i with
    | 0 => cases hu; obtain ⟨_, y, h4, h5⟩ := key 0 _ rfl; rw [h5.1] at h4; exact h4
    | 1 => cases hu; obtain ⟨_, y, h4, h5⟩ := key 1 _ rfl; rw [h5.1] at h4; exact h4
    | 2 => cases hu; obtain ⟨_, y, h4, h5⟩ := key 2 _ rfl; rw [h5.1] at h4; exact h4
    | i + 3 => cases hu
theorem any_calls (e : Bool) (n : Int) (l : List Filter) (A : Option Addr) (m cap : Nat) (w : World) (F : Nat → Nat → Prop) (hw : GV w) (hF : ∀ b o, F b o → b < w.heap.size) (hk : YtemajoafhamhgaaDoorW.PrintWords.Kd.C Q.k40 w A l.length (l.map toS)) (hlen : l.length = m) (hcap : m ≤ cap) (hp : l.length ≤ 1000) :
    Calls Tryd.prog 26 #[.agg #[.bool e, .int .i64 n], .slice A m cap] w fun e' w' => ∃ y, e' = .returned y ∧ ∃ F' : Nat → Nat → Prop, Below w.heap.size w w' ∧ (∀ b o, F b o → F' b o) ∧ (∀ b o, F' b o → F b o ∨ w.heap.size ≤ b) ∧ (∀ b o, F' b o → b < w'.heap.size) ∧ OutDen U F' w' (.one ⟨false, [.v (.bool (anyB e n l))]⟩) y := by
  subst hlen
  have hlm : (l.map toS).length = l.length := by simp
  have := Q.ident_Any.calls e n A cap (l.map toS) (anyB e n l) w hw (by rw [hlm]; exact hk) (by rw [hlm]; exact hcap) (by unfold Q.ident_Any.f; rw [if_pos (by rw [hlm]; exact hp)]; exact any_Q e n l)
  rw [hlm] at this
  refine this.mono ?_
  rintro e' w' ⟨rfl, hb⟩
  exact ⟨_, rfl, F, hb, fun _ _ x => x, fun _ _ x => .inl x, fun b o x => Nat.lt_of_lt_of_le (hF b o x) hb.size, ⟨_, rfl, rfl, rfl⟩⟩
theorem Any_ok : ConOk Tryd.prog U GV 26 Any_S := by
  refine ⟨by kernel_rfl, fun ds r hg hp w F args hw hF hl hd => ?_⟩
  unfold Any_S at hg
  split at hg
  · rename_i e n l
    cases hg
    replace hp : l.length ≤ 1000 := hp
    obtain ⟨v0, v1, rfl⟩ : ∃ v0 v1, args = #[v0, v1] := by
      obtain ⟨xs⟩ := args
      match xs, hl with
      | [v0, v1], _ => exact ⟨v0, v1, rfl⟩
    obtain ⟨arr, rfl, h1, h2⟩ := hd 0 _ v0 rfl rfl
    obtain ⟨cv, e1, h3⟩ := hd 1 _ v1 rfl rfl
    cases e1
    obtain ⟨xs⟩ := arr
    obtain ⟨y0, y1, rfl⟩ : ∃ y0 y1, xs = [y0, y1] := by
      match xs, h1 with
      | [y0, y1], _ => exact ⟨y0, y1, rfl⟩
    obtain ⟨rfl, _⟩ := h2 0 _ y0 rfl rfl
    obtain ⟨rfl, _⟩ := h2 1 _ y1 rfl rfl
    obtain ⟨A, m, cap, rfl, hk, hlen, hcap⟩ := filter_C h3
    exact any_calls e n l A m cap w F hw hF hk hlen hcap hp
  · cases hg
theorem right_nat {e : Bool} {n : Int} (h : right e n = true) : ∃ m : Nat, n = (m : Int) ∧ m < 2 ^ (if e = true then 29 else 11) := by
  have hb := right_is h
  obtain ⟨m, rfl⟩ := Int.eq_ofNat_of_zero_le hb.1
  refine ⟨m, rfl, ?_⟩
  have h2 := hb.2
  cases e
  · have : (m : Int) ≤ 2047 := h2
    rw [if_neg (by decide)]; omega
  · have : (m : Int) ≤ 536870911 := h2
    rw [if_pos rfl]; omega
theorem nat_right (e : Bool) (m : Nat) (h : m < 2 ^ (if e = true then 29 else 11)) : right e (m : Int) = true := by
  refine decide_eq_true ⟨by omega, ?_⟩
  cases e
  · rw [if_neg (by decide)] at h; show (m : Int) ≤ 2047; omega
  · rw [if_pos rfl] at h; show (m : Int) ≤ 536870911; omega
theorem wide (e : Bool) : (2 : Nat) ^ (if e = true then 29 else 11) ≤ 2 ^ 29 := by cases e <;> simp
theorem masks_one {e : Bool} {x y z t : Int} (hx : right e x = true) (hy : right e y = true) (hz : right e z = true) (ht : right e t = true) :
    matchB e x y e z = matchB e x y e (bits .or .i64 (bits .and .i64 z y) (bits .andNot .i64 t y)) := by
  obtain ⟨X, rfl, lx⟩ := right_nat hx
  obtain ⟨Y, rfl, ly⟩ := right_nat hy
  obtain ⟨Z, rfl, lz⟩ := right_nat hz
  obtain ⟨T, rfl, lt⟩ := right_nat ht
  have hw := wide e
  have e1 := and_nat Z Y (by omega) (by omega)
  have e2 := andNot_nat T Y (by omega) (by omega)
  have l1 : Z &&& Y < 2 ^ (if e = true then 29 else 11) := Nat.and_lt_two_pow _ ly
  have l2 : T &&& (2 ^ 64 - (Y + 1)) < 2 ^ (if e = true then 29 else 11) := Nat.lt_of_le_of_lt Nat.and_le_left lt
  have l3 := Nat.or_lt_two_pow l1 l2
  have e3 := or_nat (Z &&& Y) (T &&& (2 ^ 64 - (Y + 1))) (by omega) (by omega)
  rw [e1, e2, e3]
  unfold matchB
  rw [hx, hy, hz, nat_right e _ l3]
  have e4 := xor_nat X Z (by omega) (by omega)
  have e5 := xor_nat X ((Z &&& Y) ||| (T &&& (2 ^ 64 - (Y + 1)))) (by omega) (by omega)
  have l4 : X ^^^ Z < 2 ^ 29 := Nat.xor_lt_two_pow (by omega) (by omega)
  have l5 : X ^^^ ((Z &&& Y) ||| (T &&& (2 ^ 64 - (Y + 1)))) < 2 ^ 29 := Nat.xor_lt_two_pow (by omega) (by omega)
  rw [e4, e5, and_nat _ Y (by omega) (by omega), and_nat _ Y (by omega) (by omega)]
  have key : (X ^^^ Z) &&& Y = (X ^^^ ((Z &&& Y) ||| (T &&& (2 ^ 64 - (Y + 1))))) &&& Y := by
    apply Nat.eq_of_testBit_eq
    intro i
    by_cases hi : i < 64
    · simp only [Nat.testBit_and, Nat.testBit_xor, Nat.testBit_or, testBit_not Y i (by omega) hi]
      cases X.testBit i <;> cases Y.testBit i <;> cases Z.testBit i <;> cases T.testBit i <;> rfl
    · have : Y.testBit i = false := Nat.testBit_lt_two_pow (Nat.lt_of_lt_of_le (show Y < 2 ^ 29 by omega) (Nat.pow_le_pow_right (by omega) (by omega)))
      simp [Nat.testBit_and, this]
  rw [key]
theorem masks_two {e : Bool} {x y z t : Int} (hx : right e x = true) (hy : right e y = true) (hz : right e z = true) (ht : right e t = true) :
    matchB e x y e z = matchB e (bits .xor .i64 x (bits .andNot .i64 t y)) y e z := by
  obtain ⟨X, rfl, lx⟩ := right_nat hx
  obtain ⟨Y, rfl, ly⟩ := right_nat hy
  obtain ⟨Z, rfl, lz⟩ := right_nat hz
  obtain ⟨T, rfl, lt⟩ := right_nat ht
  have hw := wide e
  have e2 := andNot_nat T Y (by omega) (by omega)
  have l2 : T &&& (2 ^ 64 - (Y + 1)) < 2 ^ (if e = true then 29 else 11) := Nat.lt_of_le_of_lt Nat.and_le_left lt
  have l3 := Nat.xor_lt_two_pow lx l2
  have e3 := xor_nat X (T &&& (2 ^ 64 - (Y + 1))) (by omega) (by omega)
  rw [e2, e3]
  unfold matchB
  rw [hx, hy, hz, nat_right e _ l3]
  have e4 := xor_nat X Z (by omega) (by omega)
  have e5 := xor_nat (X ^^^ (T &&& (2 ^ 64 - (Y + 1)))) Z (by omega) (by omega)
  have l4 : X ^^^ Z < 2 ^ 29 := Nat.xor_lt_two_pow (by omega) (by omega)
  have l5 : (X ^^^ (T &&& (2 ^ 64 - (Y + 1)))) ^^^ Z < 2 ^ 29 := Nat.xor_lt_two_pow (by omega) (by omega)
  rw [e4, e5, and_nat _ Y (by omega) (by omega), and_nat _ Y (by omega) (by omega)]
  have key : (X ^^^ Z) &&& Y = ((X ^^^ (T &&& (2 ^ 64 - (Y + 1)))) ^^^ Z) &&& Y := by
    apply Nat.eq_of_testBit_eq
    intro i
    by_cases hi : i < 64
    · simp only [Nat.testBit_and, Nat.testBit_xor, testBit_not Y i (by omega) hi]
      cases X.testBit i <;> cases Y.testBit i <;> cases Z.testBit i <;> cases T.testBit i <;> rfl
    · have : Y.testBit i = false := Nat.testBit_lt_two_pow (Nat.lt_of_lt_of_le (show Y < 2 ^ 29 by omega) (Nat.pow_le_pow_right (by omega) (by omega)))
      simp [Nat.testBit_and, this]
  rw [key]
theorem masks_none {e : Bool} {x z : Int} (hx : right e x = true) (hz : right e z = true) : matchB e x 0 e z = true := by
  have h0 : right e 0 = true := nat_right e 0 (Nat.two_pow_pos _)
  obtain ⟨X, rfl, lx⟩ := right_nat hx
  obtain ⟨Z, rfl, lz⟩ := right_nat hz
  have hw := wide e
  unfold matchB
  have l4 : X ^^^ Z < 2 ^ 29 := Nat.xor_lt_two_pow (by omega) (by omega)
  have e6 := and_nat (X ^^^ Z) 0 (by omega) (by omega)
  rw [show ((0 : Nat) : Int) = 0 from rfl] at e6
  rw [hx, hz, h0, xor_nat X Z (by omega) (by omega), e6, Nat.and_zero]
  simp
theorem masks_all {e : Bool} {x z : Int} (hx : right e x = true) (hz : right e z = true) : matchB e x (lim e) e z = (z == x) := by
  have hl : right e (lim e) = true := decide_eq_true ⟨by cases e <;> decide, Int.le_refl _⟩
  obtain ⟨X, rfl, lx⟩ := right_nat hx
  obtain ⟨Z, rfl, lz⟩ := right_nat hz
  have hw := wide e
  unfold matchB
  have l4 : X ^^^ Z < 2 ^ (if e = true then 29 else 11) := Nat.xor_lt_two_pow lx lz
  have hlim : lim e = ((2 ^ (if e = true then 29 else 11) - 1 : Nat) : Int) := by cases e <;> rfl
  have e6 := and_nat (X ^^^ Z) (2 ^ (if e = true then 29 else 11) - 1) (by omega) (by omega)
  rw [hx, hz, hl, xor_nat X Z (by omega) (by omega), hlim, e6, Nat.and_two_pow_sub_one_eq_mod, Nat.mod_eq_of_lt l4]
  by_cases h : X = Z
  · subst h; simp
  · have h1 : X ^^^ Z ≠ 0 := fun c => h (Nat.eq_of_testBit_eq fun i => by
      have h5 := congrArg (fun q => Nat.testBit q i) c
      simp only [Nat.testBit_xor, Nat.zero_testBit] at h5
      cases h6 : X.testBit i <;> cases h7 : Z.testBit i <;> simp_all)
    have h3 : ((Z : Int) == (X : Int)) = false := by simp; omega
    simp [h1, h3]
theorem masks_back (e : Bool) (x k : Int) : matchB e x 0 (!e) k = false := by
  unfold matchB; cases e <;> simp
theorem masks_any (e : Bool) (n : Int) (f g : Filter) : anyB e n [f, g] = (matchB f.ext f.code f.mask e n || matchB g.ext g.code g.mask e n) := by
  simp [anyB]
def Masks_S : RX.Spec U := fun
  | [⟨false, [.v (.bool e)]⟩, ⟨false, [.v (.int .i64 c)]⟩, ⟨false, [.v (.int .i64 m)]⟩, ⟨false, [.v (.int .i64 n)]⟩, ⟨false, [.v (.int .i64 k)]⟩] => some ⟨some (in64 c ∧ in64 m ∧ in64 n ∧ in64 k), (.one ⟨false, [.v (.bool true)]⟩)⟩
  | _ => none

theorem Masks_ok : ConOk Tryd.prog U GV 6 Masks_S :=
  fn_go gs (fun _ _ => none) ty (conCons awake_ok (conCons Ident_ok (conCons Match_ok (conCons Any_ok conNil)))) Tryd.func6 (by kernel_rfl) fun ds r hg hp => by
    unfold Masks_S at hg
    split at hg
    · rename_i e c m n k
      cases hg
      replace hp : (in64 c ∧ in64 m ∧ in64 n ∧ in64 k) := hp
      refine ⟨((-9223372036854775808 : Int) ≤ n ∧ n ≤ (9223372036854775807 : Int)) ∧ (e = true → ((-9223372036854775808 : Int) ≤ c ∧ c ≤ (9223372036854775807 : Int)) ∧ ((-9223372036854775808 : Int) ≤ m ∧ m ≤ (9223372036854775807 : Int)) ∧ ((-9223372036854775808 : Int) ≤ k ∧ k ≤ (9223372036854775807 : Int)) ∧ ((true && matchB e (pickI c (lim e + (1 : Int))) (pickI m (lim e + (1 : Int))) e (pickI n (lim e + (1 : Int))) == matchB e (pickI c (lim e + (1 : Int))) (pickI m (lim e + (1 : Int))) e (bits BinOp.or IntKind.i64 (bits BinOp.and IntKind.i64 (pickI n (lim e + (1 : Int))) (pickI m (lim e + (1 : Int)))) (bits BinOp.andNot IntKind.i64 (pickI k (lim e + (1 : Int))) (pickI m (lim e + (1 : Int))))) && matchB e (pickI c (lim e + (1 : Int))) (pickI m (lim e + (1 : Int))) e (pickI n (lim e + (1 : Int))) == matchB e (bits BinOp.xor IntKind.i64 (pickI c (lim e + (1 : Int))) (bits BinOp.andNot IntKind.i64 (pickI k (lim e + (1 : Int))) (pickI m (lim e + (1 : Int))))) (pickI m (lim e + (1 : Int))) e (pickI n (lim e + (1 : Int))) && matchB e (pickI c (lim e + (1 : Int))) (0 : Int) e (pickI n (lim e + (1 : Int))) && matchB e (pickI c (lim e + (1 : Int))) (536870911 : Int) e (pickI n (lim e + (1 : Int))) == (pickI n (lim e + (1 : Int)) == pickI c (lim e + (1 : Int))) && !matchB e (pickI c (lim e + (1 : Int))) (0 : Int) (!e) (bits BinOp.and IntKind.i64 (pickI n (lim e + (1 : Int))) (2047 : Int))) = true → List.length (if (true && matchB e (pickI c (lim e + (1 : Int))) (pickI m (lim e + (1 : Int))) e (pickI n (lim e + (1 : Int))) == matchB e (pickI c (lim e + (1 : Int))) (pickI m (lim e + (1 : Int))) e (bits BinOp.or IntKind.i64 (bits BinOp.and IntKind.i64 (pickI n (lim e + (1 : Int))) (pickI m (lim e + (1 : Int)))) (bits BinOp.andNot IntKind.i64 (pickI k (lim e + (1 : Int))) (pickI m (lim e + (1 : Int))))) && matchB e (pickI c (lim e + (1 : Int))) (pickI m (lim e + (1 : Int))) e (pickI n (lim e + (1 : Int))) == matchB e (bits BinOp.xor IntKind.i64 (pickI c (lim e + (1 : Int))) (bits BinOp.andNot IntKind.i64 (pickI k (lim e + (1 : Int))) (pickI m (lim e + (1 : Int))))) (pickI m (lim e + (1 : Int))) e (pickI n (lim e + (1 : Int))) && matchB e (pickI c (lim e + (1 : Int))) (0 : Int) e (pickI n (lim e + (1 : Int))) && matchB e (pickI c (lim e + (1 : Int))) (536870911 : Int) e (pickI n (lim e + (1 : Int))) == (pickI n (lim e + (1 : Int)) == pickI c (lim e + (1 : Int))) && !matchB e (pickI c (lim e + (1 : Int))) (0 : Int) (!e) (bits BinOp.and IntKind.i64 (pickI n (lim e + (1 : Int))) (2047 : Int))) = true then [Filter.mk e (pickI c (lim e + (1 : Int))) (536870911 : Int), Filter.mk e (pickI c (lim e + (1 : Int))) (pickI m (lim e + (1 : Int)))] else []) ≤ (1000 : Nat)) ∧ Out.one (U := U) (D.mk false [CV.v (Value.bool (true && matchB e (pickI c (lim e + (1 : Int))) (pickI m (lim e + (1 : Int))) e (pickI n (lim e + (1 : Int))) == matchB e (pickI c (lim e + (1 : Int))) (pickI m (lim e + (1 : Int))) e (bits BinOp.or IntKind.i64 (bits BinOp.and IntKind.i64 (pickI n (lim e + (1 : Int))) (pickI m (lim e + (1 : Int)))) (bits BinOp.andNot IntKind.i64 (pickI k (lim e + (1 : Int))) (pickI m (lim e + (1 : Int))))) && matchB e (pickI c (lim e + (1 : Int))) (pickI m (lim e + (1 : Int))) e (pickI n (lim e + (1 : Int))) == matchB e (bits BinOp.xor IntKind.i64 (pickI c (lim e + (1 : Int))) (bits BinOp.andNot IntKind.i64 (pickI k (lim e + (1 : Int))) (pickI m (lim e + (1 : Int))))) (pickI m (lim e + (1 : Int))) e (pickI n (lim e + (1 : Int))) && matchB e (pickI c (lim e + (1 : Int))) (0 : Int) e (pickI n (lim e + (1 : Int))) && matchB e (pickI c (lim e + (1 : Int))) (536870911 : Int) e (pickI n (lim e + (1 : Int))) == (pickI n (lim e + (1 : Int)) == pickI c (lim e + (1 : Int))) && !matchB e (pickI c (lim e + (1 : Int))) (0 : Int) (!e) (bits BinOp.and IntKind.i64 (pickI n (lim e + (1 : Int))) (2047 : Int)) && anyB e (pickI n (lim e + (1 : Int))) (if (true && matchB e (pickI c (lim e + (1 : Int))) (pickI m (lim e + (1 : Int))) e (pickI n (lim e + (1 : Int))) == matchB e (pickI c (lim e + (1 : Int))) (pickI m (lim e + (1 : Int))) e (bits BinOp.or IntKind.i64 (bits BinOp.and IntKind.i64 (pickI n (lim e + (1 : Int))) (pickI m (lim e + (1 : Int)))) (bits BinOp.andNot IntKind.i64 (pickI k (lim e + (1 : Int))) (pickI m (lim e + (1 : Int))))) && matchB e (pickI c (lim e + (1 : Int))) (pickI m (lim e + (1 : Int))) e (pickI n (lim e + (1 : Int))) == matchB e (bits BinOp.xor IntKind.i64 (pickI c (lim e + (1 : Int))) (bits BinOp.andNot IntKind.i64 (pickI k (lim e + (1 : Int))) (pickI m (lim e + (1 : Int))))) (pickI m (lim e + (1 : Int))) e (pickI n (lim e + (1 : Int))) && matchB e (pickI c (lim e + (1 : Int))) (0 : Int) e (pickI n (lim e + (1 : Int))) && matchB e (pickI c (lim e + (1 : Int))) (536870911 : Int) e (pickI n (lim e + (1 : Int))) == (pickI n (lim e + (1 : Int)) == pickI c (lim e + (1 : Int))) && !matchB e (pickI c (lim e + (1 : Int))) (0 : Int) (!e) (bits BinOp.and IntKind.i64 (pickI n (lim e + (1 : Int))) (2047 : Int))) = true then [Filter.mk e (pickI c (lim e + (1 : Int))) (536870911 : Int), Filter.mk e (pickI c (lim e + (1 : Int))) (pickI m (lim e + (1 : Int)))] else []) == (matchB e (pickI c (lim e + (1 : Int))) (536870911 : Int) e (pickI n (lim e + (1 : Int))) || matchB e (pickI c (lim e + (1 : Int))) (pickI m (lim e + (1 : Int))) e (pickI n (lim e + (1 : Int))))))]) = Out.one (U := U) (D.mk false [CV.v (Value.bool true)])) ∧ (e = false → ((-9223372036854775808 : Int) ≤ c ∧ c ≤ (9223372036854775807 : Int)) ∧ ((-9223372036854775808 : Int) ≤ m ∧ m ≤ (9223372036854775807 : Int)) ∧ ((-9223372036854775808 : Int) ≤ k ∧ k ≤ (9223372036854775807 : Int)) ∧ ((true && matchB e (pickI c (lim e + (1 : Int))) (pickI m (lim e + (1 : Int))) e (pickI n (lim e + (1 : Int))) == matchB e (pickI c (lim e + (1 : Int))) (pickI m (lim e + (1 : Int))) e (bits BinOp.or IntKind.i64 (bits BinOp.and IntKind.i64 (pickI n (lim e + (1 : Int))) (pickI m (lim e + (1 : Int)))) (bits BinOp.andNot IntKind.i64 (pickI k (lim e + (1 : Int))) (pickI m (lim e + (1 : Int))))) && matchB e (pickI c (lim e + (1 : Int))) (pickI m (lim e + (1 : Int))) e (pickI n (lim e + (1 : Int))) == matchB e (bits BinOp.xor IntKind.i64 (pickI c (lim e + (1 : Int))) (bits BinOp.andNot IntKind.i64 (pickI k (lim e + (1 : Int))) (pickI m (lim e + (1 : Int))))) (pickI m (lim e + (1 : Int))) e (pickI n (lim e + (1 : Int))) && matchB e (pickI c (lim e + (1 : Int))) (0 : Int) e (pickI n (lim e + (1 : Int))) && matchB e (pickI c (lim e + (1 : Int))) (2047 : Int) e (pickI n (lim e + (1 : Int))) == (pickI n (lim e + (1 : Int)) == pickI c (lim e + (1 : Int))) && !matchB e (pickI c (lim e + (1 : Int))) (0 : Int) (!e) (bits BinOp.and IntKind.i64 (pickI n (lim e + (1 : Int))) (2047 : Int))) = true → List.length (if (true && matchB e (pickI c (lim e + (1 : Int))) (pickI m (lim e + (1 : Int))) e (pickI n (lim e + (1 : Int))) == matchB e (pickI c (lim e + (1 : Int))) (pickI m (lim e + (1 : Int))) e (bits BinOp.or IntKind.i64 (bits BinOp.and IntKind.i64 (pickI n (lim e + (1 : Int))) (pickI m (lim e + (1 : Int)))) (bits BinOp.andNot IntKind.i64 (pickI k (lim e + (1 : Int))) (pickI m (lim e + (1 : Int))))) && matchB e (pickI c (lim e + (1 : Int))) (pickI m (lim e + (1 : Int))) e (pickI n (lim e + (1 : Int))) == matchB e (bits BinOp.xor IntKind.i64 (pickI c (lim e + (1 : Int))) (bits BinOp.andNot IntKind.i64 (pickI k (lim e + (1 : Int))) (pickI m (lim e + (1 : Int))))) (pickI m (lim e + (1 : Int))) e (pickI n (lim e + (1 : Int))) && matchB e (pickI c (lim e + (1 : Int))) (0 : Int) e (pickI n (lim e + (1 : Int))) && matchB e (pickI c (lim e + (1 : Int))) (2047 : Int) e (pickI n (lim e + (1 : Int))) == (pickI n (lim e + (1 : Int)) == pickI c (lim e + (1 : Int))) && !matchB e (pickI c (lim e + (1 : Int))) (0 : Int) (!e) (bits BinOp.and IntKind.i64 (pickI n (lim e + (1 : Int))) (2047 : Int))) = true then [Filter.mk e (pickI c (lim e + (1 : Int))) (2047 : Int), Filter.mk e (pickI c (lim e + (1 : Int))) (pickI m (lim e + (1 : Int)))] else []) ≤ (1000 : Nat)) ∧ Out.one (U := U) (D.mk false [CV.v (Value.bool (true && matchB e (pickI c (lim e + (1 : Int))) (pickI m (lim e + (1 : Int))) e (pickI n (lim e + (1 : Int))) == matchB e (pickI c (lim e + (1 : Int))) (pickI m (lim e + (1 : Int))) e (bits BinOp.or IntKind.i64 (bits BinOp.and IntKind.i64 (pickI n (lim e + (1 : Int))) (pickI m (lim e + (1 : Int)))) (bits BinOp.andNot IntKind.i64 (pickI k (lim e + (1 : Int))) (pickI m (lim e + (1 : Int))))) && matchB e (pickI c (lim e + (1 : Int))) (pickI m (lim e + (1 : Int))) e (pickI n (lim e + (1 : Int))) == matchB e (bits BinOp.xor IntKind.i64 (pickI c (lim e + (1 : Int))) (bits BinOp.andNot IntKind.i64 (pickI k (lim e + (1 : Int))) (pickI m (lim e + (1 : Int))))) (pickI m (lim e + (1 : Int))) e (pickI n (lim e + (1 : Int))) && matchB e (pickI c (lim e + (1 : Int))) (0 : Int) e (pickI n (lim e + (1 : Int))) && matchB e (pickI c (lim e + (1 : Int))) (2047 : Int) e (pickI n (lim e + (1 : Int))) == (pickI n (lim e + (1 : Int)) == pickI c (lim e + (1 : Int))) && !matchB e (pickI c (lim e + (1 : Int))) (0 : Int) (!e) (bits BinOp.and IntKind.i64 (pickI n (lim e + (1 : Int))) (2047 : Int)) && anyB e (pickI n (lim e + (1 : Int))) (if (true && matchB e (pickI c (lim e + (1 : Int))) (pickI m (lim e + (1 : Int))) e (pickI n (lim e + (1 : Int))) == matchB e (pickI c (lim e + (1 : Int))) (pickI m (lim e + (1 : Int))) e (bits BinOp.or IntKind.i64 (bits BinOp.and IntKind.i64 (pickI n (lim e + (1 : Int))) (pickI m (lim e + (1 : Int)))) (bits BinOp.andNot IntKind.i64 (pickI k (lim e + (1 : Int))) (pickI m (lim e + (1 : Int))))) && matchB e (pickI c (lim e + (1 : Int))) (pickI m (lim e + (1 : Int))) e (pickI n (lim e + (1 : Int))) == matchB e (bits BinOp.xor IntKind.i64 (pickI c (lim e + (1 : Int))) (bits BinOp.andNot IntKind.i64 (pickI k (lim e + (1 : Int))) (pickI m (lim e + (1 : Int))))) (pickI m (lim e + (1 : Int))) e (pickI n (lim e + (1 : Int))) && matchB e (pickI c (lim e + (1 : Int))) (0 : Int) e (pickI n (lim e + (1 : Int))) && matchB e (pickI c (lim e + (1 : Int))) (2047 : Int) e (pickI n (lim e + (1 : Int))) == (pickI n (lim e + (1 : Int)) == pickI c (lim e + (1 : Int))) && !matchB e (pickI c (lim e + (1 : Int))) (0 : Int) (!e) (bits BinOp.and IntKind.i64 (pickI n (lim e + (1 : Int))) (2047 : Int))) = true then [Filter.mk e (pickI c (lim e + (1 : Int))) (2047 : Int), Filter.mk e (pickI c (lim e + (1 : Int))) (pickI m (lim e + (1 : Int)))] else []) == (matchB e (pickI c (lim e + (1 : Int))) (2047 : Int) e (pickI n (lim e + (1 : Int))) || matchB e (pickI c (lim e + (1 : Int))) (pickI m (lim e + (1 : Int))) e (pickI n (lim e + (1 : Int))))))]) = Out.one (U := U) (D.mk false [CV.v (Value.bool true)])), by kernel_rfl, ?_⟩
      obtain ⟨x, hx, ex⟩ : ∃ x, right e x = true ∧ pickI c (lim e + 1) = x := ⟨_, right_pick e c, rfl⟩
      obtain ⟨y, hy, ey⟩ : ∃ y, right e y = true ∧ pickI m (lim e + 1) = y := ⟨_, right_pick e m, rfl⟩
      obtain ⟨z, hz, ez⟩ : ∃ z, right e z = true ∧ pickI n (lim e + 1) = z := ⟨_, right_pick e n, rfl⟩
      obtain ⟨t, ht, et⟩ : ∃ t, right e t = true ∧ pickI k (lim e + 1) = t := ⟨_, right_pick e k, rfl⟩
      rw [ex, ey, ez, et]
      have m1 := masks_one hx hy hz ht
      have m2 := masks_two hx hy hz ht
      have m3 := masks_none hx hz
      have m4 := masks_all hx hz
      rw [← m1, ← m2, m3, masks_back]
      have all : ∀ L : Int, L = lim e → True → matchB e x L e z = (z == x) := fun L hL _ => by rw [hL]; exact m4
      refine ⟨hp.2.2.1, fun he => ?_, fun he => ?_⟩
      · have hL := all 536870911 (by rw [he]; rfl) trivial
        refine ⟨hp.1, hp.2.1, hp.2.2.2, fun _ => ?_, ?_⟩
        · split <;> simp
        · rw [hL]
          simp only [Out.one.injEq, Out.tup.injEq, D.mk.injEq, List.cons.injEq, CV.v.injEq, CV.sl.injEq, Value.bool.injEq, Value.int.injEq, Value.string.injEq, and_true, true_and, heq_eq_eq]
          cases q1 : (z == x) <;> cases q2 : matchB e x y e z <;> have q3 := hL.trans q1 <;> simp [masks_any, q3, q2]
      · have hL := all 2047 (by rw [he]; rfl) trivial
        refine ⟨hp.1, hp.2.1, hp.2.2.2, fun _ => ?_, ?_⟩
        · split <;> simp
        · rw [hL]
          simp only [Out.one.injEq, Out.tup.injEq, D.mk.injEq, List.cons.injEq, CV.v.injEq, CV.sl.injEq, Value.bool.injEq, Value.int.injEq, Value.string.injEq, and_true, true_and, heq_eq_eq]
          cases q1 : (z == x) <;> cases q2 : matchB e x y e z <;> have q3 := hL.trans q1 <;> simp [masks_any, q3, q2]
    · cases hg

end Go.Proofs.YtemajoafhamhgaaDoor.X
