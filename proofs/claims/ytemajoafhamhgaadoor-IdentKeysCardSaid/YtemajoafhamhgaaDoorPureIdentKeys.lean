/- The plain law IdentKeys: keys rise with the base, and with the rest; what is no key has no identifier. -/
import Derived.Test.YtemajoafhamhgaaDoorQx19
import Derived.Test.YtemajoafhamhgaaDoorId
namespace Go.Proofs.YtemajoafhamhgaaDoor.Pure
open Go.RowKit Go.Proofs.YtemajoafhamhgaaDoor.Q Go.Proofs.YtemajoafhamhgaaDoorW.PrintWords Go.Proofs.YtemajoafhamhgaaDoorW.PrintLast Go.Proofs.YtemajoafhamhgaaDoor.Id

theorem IdentKeys : omnibuslaw02_IdentKeys.Pure := by
  intro a0 a1 a2 w0 w1 w2
  obtain ⟨a, ha, ea⟩ := ident_nat a0 true w0
  obtain ⟨b, hb, eb⟩ := ident_nat a1 true w1
  obtain ⟨c, hc, ec⟩ := ident_nat a2 false w2
  obtain ⟨p, hp, ep⟩ := pick_nat a0 262143 w0 (by omega)
  have ka := key_eq true a ha
  have kb := key_eq true b hb
  have kc := key_eq false c hc
  have le := less_eq true true a b ha hb
  have ha' : a ≤ 536870911 := by unfold lim at ha; rw [if_pos rfl] at ha; omega
  have hb' : b ≤ 536870911 := by unfold lim at hb; rw [if_pos rfl] at hb; omega
  have hc' : c ≤ 2047 := by unfold lim at hc; rw [if_neg (by decide)] at hc; omega
  have va : key true a = 524288 * (a / 262144) + 262144 + a % 262144 := rfl
  have vb : key true b = 524288 * (b / 262144) + 262144 + b % 262144 := rfl
  have vc : key false c = 524288 * c := rfl
  have at1 : ident_At.f (wrap64 (wrap64 (((key false c : Nat) : Int) + 1) + (p : Int))) = some (false, 0, 1) := by
    rw [vc, w64 (((524288 * c : Nat) : Int) + 1) (by omega) (by omega), w64 _ (by omega) (by omega), show ((524288 * c : Nat) : Int) + 1 + (p : Int) = ((524288 * c + 1 + p : Nat) : Int) by omega]
    exact at_no c p hc' (by omega)
  have lt : (decide (((key true a : Nat) : Int) < ((key true b : Nat) : Int)) == decide ((a : Int) < (b : Int))) = true := by
    rw [beq_iff_eq]; apply decide_eq_decide.mpr; omega
  have eq : ((((key true a : Nat) : Int) == ((key true b : Nat) : Int)) == (true == true && ((a : Int) == (b : Int)))) = true := by
    by_cases h : a = b
    · subst h; simp
    · have h1 : key true a ≠ key true b := by omega
      have h2 : (((key true a : Nat) : Int) == ((key true b : Nat) : Int)) = false := beq_eq_false_iff_ne.mpr (by omega)
      have h3 : ((a : Int) == (b : Int)) = false := beq_eq_false_iff_ne.mpr (by omega)
      rw [h2, h3]; rfl
  have ls : (decide (key true a < key true b) == decide ((a : Int) < (b : Int))) = true := by
    rw [beq_iff_eq]; apply decide_eq_decide.mpr; omega
  unfold omnibuslaw02_IdentKeys.f
  rw [awake_true, Option.bind_some, ea, Option.bind_some, eb, Option.bind_some, ec, Option.bind_some]
  rw [ka, Option.bind_some, kb, Option.bind_some, kc, Option.bind_some, ep, Option.bind_some, at1, Option.bind_some]
  rw [if_pos rfl, if_pos rfl, if_pos rfl, if_pos rfl, if_pos (by omega), if_pos (by omega), if_pos (by omega), if_pos (by omega), if_pos lt, if_pos eq, if_pos rfl, le, Option.bind_some, ls]
end Go.Proofs.YtemajoafhamhgaaDoor.Pure
