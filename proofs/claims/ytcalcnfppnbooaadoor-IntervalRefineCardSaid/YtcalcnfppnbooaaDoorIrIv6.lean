import Derived.Test.YtcalcnfppnbooaaDoorIrIvr
set_option linter.unusedVariables false
set_option linter.unusedSimpArgs false
namespace Go.Proofs.Rcn
open Go Go.RowKit

def ivClip (a : Iv) : Iv := ⟨a.down || decide (a.low < -1099511627776), a.up || decide (a.high > 1099511627776),
  if (a.down || decide (a.low < -1099511627776)) = true then 0 else min a.low 1099511627776, if (a.up || decide (a.high > 1099511627776)) = true then 0 else max a.high (-1099511627776)⟩
def ivAdd (a b : Iv) : Iv := ivClip ⟨a.down || b.down, a.up || b.up, if (a.down || b.down) = true then 0 else a.low + b.low, if (a.up || b.up) = true then 0 else a.high + b.high⟩

set_option maxRecDepth 100000 in
set_option maxHeartbeats 4000000 in
theorem iclip_any (d u : Bool) (l k : Int) (w : World) :
    Calls Tryd.prog 100 #[.agg #[.bool d, .bool u, .int .i64 l, .int .i64 k]] w fun e w' => e = .returned (ivV (ivClip ⟨d, u, l, k⟩)) ∧ Below w.heap.size w w' := by
  have key : ∀ (D U : Bool), D = (d || decide (l < -1099511627776)) → U = (u || decide (k > 1099511627776)) →
      Calls Tryd.prog 100 #[.agg #[.bool d, .bool u, .int .i64 l, .int .i64 k]] w fun e w' => e = .returned (ivV (ivClip ⟨d, u, l, k⟩)) ∧ Below w.heap.size w w' := by
    intro D U hD hU
    cases d <;> cases u <;> cases D <;> cases U <;> simp at hD hU
    all_goals
      go_enter Tryd.func100, Tryd.ntmps100
      go_wp2
      all_goals
        refine bodyPost_ret (v := _) (by simp [results, Tryd.results100, go_sem]; exact ⟨rfl, rfl, rfl, rfl⟩) rfl ⟨ret_iv (by simp <;> omega) (by simp <;> omega) (by simp <;> omega) (by simp <;> omega), ?_⟩
        repeat (first | exact Below.refl _ _ | refine below_alloc ?_ _ | refine below_drew ?_ | refine below_drewN ?_ _ | refine below_set ?_ (by simp; try omega) _)
  exact key _ _ rfl rfl
end Go.Proofs.Rcn
