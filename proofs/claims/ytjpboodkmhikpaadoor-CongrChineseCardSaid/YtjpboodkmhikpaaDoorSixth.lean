import Derived.Test.YtjpboodkmhikpaaDoorCongr3
import Derived.Deep.DeepCutAuto
import Derived.Deep.RegionHeld3
set_option linter.unusedVariables false
namespace Go.Proofs.Rcn
open Go Go.RowKit

theorem meet_sixth (w : World) : Calls Tryd.prog 18 #[.agg #[.int .i64 2, .int .i64 4], .agg #[.int .i64 4, .int .i64 6]] w fun e w' =>
    e = .returned (.tuple #[.agg #[.int .i64 10, .int .i64 12], .bool true, .nilIface]) ∧ Below w.heap.size w w' := by
  refine (cmeet_both 2 4 4 6 2 w (by decide) (by decide) (by decide) (by decide) (by decide) (by decide) (by decide) (by decide) (by decide) (by decide)).mono ?_
  rintro e w' ⟨k, hk, hh, rfl, hb⟩
  have : k = 0 ∨ k = 1 ∨ k = 2 := by omega
  rcases this with rfl | rfl | rfl
  · exact absurd hh (by decide)
  · exact absurd hh (by decide)
  · exact ⟨rfl, hb⟩

set_option maxRecDepth 100000 in
set_option maxHeartbeats 1000000 in
theorem sixth_any (w : World) : Calls Tryd.prog 17 #[] w fun e w' => e = .returned (.bool true) ∧ Below w.heap.size w w' := by
  go_enter Tryd.func17, Tryd.ntmps17
  go_wp2_with (go_at_call 18; refine (meet_sixth _).mono ?_; rintro e w1 ⟨rfl, hb1⟩)
  go_ret
  exact ⟨rfl, below_alloc hb1 _⟩
end Go.Proofs.Rcn
