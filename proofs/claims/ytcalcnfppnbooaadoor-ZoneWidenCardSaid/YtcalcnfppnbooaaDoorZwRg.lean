import Derived.Test.YtcalcnfppnbooaaDoorZwEb
import Derived.Test.YtcalcnfppnbooaaDoorZwMem
import Derived.WalkKit
import Derived.WalkSpells
import Derived.Outline
/- The reference's RangeOf: the interval of a bound up and a bound of the opposite. -/
set_option linter.unusedVariables false
set_option linter.unusedSimpArgs false
namespace Go.Proofs.Rcg
open Go Go.RowKit Go.Proofs.Rcn

def R2_RangeOf.f (a0_0 : Bool) (a0_1 : Int) (a1_0 : Bool) (a1_1 : Int) : Option (Bool × Bool × Int × Int) := some (!a1_0, !a0_0, if a1_0 = true then wrap64 (-a1_1) else 0, if a0_0 = true then a0_1 else 0)
set_option maxRecDepth 100000 in
set_option maxHeartbeats 1000000 in
theorem R2_RangeOf.calls [EA] (a0_0 : Bool) (a0_1 : Int) (a1_0 : Bool) (a1_1 : Int) (r1 : Bool) (r2 : Bool) (r3 : Int) (r4 : Int) (w : World) (h : R2_RangeOf.f a0_0 a0_1 a1_0 a1_1 = some (r1, r2, r3, r4)) :
    Calls Tryd.prog 39 #[.agg #[.bool a0_0, .int .i64 a0_1], .agg #[.bool a1_0, .int .i64 a1_1]] w fun e w' => e = .returned (.agg #[.bool r1, .bool r2, .int .i64 r3, .int .i64 r4]) ∧ Below w.heap.size w w' := by
  simp only [R2_RangeOf.f, Option.some.injEq, Prod.mk.injEq] at h
  obtain ⟨rfl, rfl, rfl, rfl⟩ := h
  cases a0_0 <;> cases a1_0
  all_goals
    go_enter Tryd.func39, Tryd.ntmps39
    go_wp2
    first
      | refine bodyPost_ret (v := .agg #[.bool true, .bool true, .int .i64 0, .int .i64 0]) (by simp [results, Tryd.results39, go_sem]) rfl ⟨rfl, ?_⟩
      | refine bodyPost_ret (v := .agg #[.bool false, .bool true, .int .i64 (wrap64 (-a1_1)), .int .i64 0]) (by simp [results, Tryd.results39, go_sem]) rfl ⟨rfl, ?_⟩
      | refine bodyPost_ret (v := .agg #[.bool true, .bool false, .int .i64 0, .int .i64 a0_1]) (by simp [results, Tryd.results39, go_sem]) rfl ⟨rfl, ?_⟩
      | refine bodyPost_ret (v := .agg #[.bool false, .bool false, .int .i64 (wrap64 (-a1_1)), .int .i64 a0_1]) (by simp [results, Tryd.results39, go_sem]) rfl ⟨rfl, ?_⟩
    repeat (first | exact Below.refl _ _ | refine Go.Proofs.Rcn.below_alloc ?_ _ | refine Go.Proofs.Rcn.below_set ?_ (by first | (simp; done) | (simp; omega)) _)
end Go.Proofs.Rcg
