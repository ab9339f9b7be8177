/- The plain law VecAlls: by its few pairs. -/
import Derived.Test.YtbndfdplcojjgaaQx9
import Derived.Test.YtbndfdplcojjgaaCount
namespace Go.Proofs.Ytbndfdplcojjgaa.Pure
open Go.RowKit Go.Proofs.Ytbndfdplcojjgaa.Q Go.Proofs.YtbndfdplcojjgaaW.PrintWords Go.Proofs.YtbndfdplcojjgaaW.PrintLast Go.Proofs.Ytbndfdplcojjgaa.Count

def allsRest (t153 t154 : Int) : Option Bool := (vec_All.f t153).bind fun t155 => ((vec_All.f t154).bind fun t156 => ((vec_All.f (mn t153 t154)).bind fun t157 => (if (Go.bits .and .i64 t155 t156) = t157 then ((vec_All.f t153).bind fun t158 => ((vec_Count.f t158).bind fun t159 => (if t159 = t153 then (if t154 = 0 then ((vec_All.f t153).bind fun t160 => ((vec_Most.f t160 0).bind fun t161 => (some (!t161)))) else ((vec_All.f t153).bind fun t162 => ((vec_Most.f t162 t154).bind fun t163 => (if (t163 == (decide ((wrap64 (2 * (mn t153 t154))) > t154))) = true then ((vec_All.f t153).bind fun t164 => ((vec_Most.f t164 0).bind fun t165 => (some (!t165)))) else (some false))))) else (some false)))) else (some false))))
theorem rest_true : ∀ p : Nat, p < 17 → ∀ q : Nat, q < 17 → allsRest (p : Int) (q : Int) = some true := by decide +kernel
theorem VecAlls : omnibuslaw03_VecAlls.Pure := by
  intro a0 a1 w0 w1
  obtain ⟨p, hp, ep⟩ := pick_nat a0 17 w0 (by omega) (by omega)
  obtain ⟨q, hq, eq⟩ := pick_nat a1 17 w1 (by omega) (by omega)
  refine ⟨8, ?_⟩
  unfold omnibuslaw03_VecAlls.f
  rw [awake_true, Option.bind_some, ep, Option.bind_some, eq, Option.bind_some, if_pos rfl]
  exact rest_true p (by omega) q (by omega)
end Go.Proofs.Ytbndfdplcojjgaa.Pure
