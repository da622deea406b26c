import Derived.Test.YtimgfgambeffeaaDoorIv1
set_option linter.unusedVariables false
namespace Go.Proofs.Rcn
open Go Go.RowKit

theorem ret_iv {d u d' u' : Bool} {l k l' k' : Int} (h1 : d = d') (h2 : u = u') (h3 : l = l') (h4 : k = k') :
    Ending.returned (.agg #[.bool d, .bool u, .int .i64 l, .int .i64 k]) = .returned (ivV ⟨d', u', l', k'⟩) := by subst h1 h2 h3 h4; rfl

set_option maxRecDepth 100000 in
set_option maxHeartbeats 4000000 in
theorem ijoin_any (d u : Bool) (l k : Int) (d' u' : Bool) (l' k' : Int) (w : World) :
    Calls Tryd.prog 63 #[.agg #[.bool d, .bool u, .int .i64 l, .int .i64 k], .agg #[.bool d', .bool u', .int .i64 l', .int .i64 k']] w fun e w' => e = .returned (ivV (ivJoin ⟨d, u, l, k⟩ ⟨d', u', l', k'⟩)) ∧ Below w.heap.size w w' := by
  cases d <;> cases u <;> cases d' <;> cases u'
  all_goals
    go_enter Tryd.func63, Tryd.ntmps63
    go_wp2
    all_goals
      refine bodyPost_ret (v := _) (by simp [results, Tryd.results63, go_sem]; exact ⟨rfl, rfl, rfl, rfl⟩) rfl ⟨ret_iv (by simp) (by simp) (by simp; try omega) (by simp; try omega), ?_⟩
      repeat (first | exact Below.refl _ _ | refine below_alloc ?_ _ | refine below_drew ?_ | refine below_drewN ?_ _)
set_option maxRecDepth 100000 in
set_option maxHeartbeats 4000000 in
theorem iwithin_any (d u : Bool) (l k : Int) (d' u' : Bool) (l' k' : Int) (w : World) :
    Calls Tryd.prog 65 #[.agg #[.bool d, .bool u, .int .i64 l, .int .i64 k], .agg #[.bool d', .bool u', .int .i64 l', .int .i64 k']] w fun e w' => e = .returned (.bool (ivWithin ⟨d, u, l, k⟩ ⟨d', u', l', k'⟩)) ∧ Below w.heap.size w w' := by
  cases d <;> cases u <;> cases d' <;> cases u'
  all_goals
    go_enter Tryd.func65, Tryd.ntmps65
    go_wp2
    all_goals
      go_ret
      exact ⟨ret_bool (by simp [ivWithin, *] <;> omega), by repeat (first | exact Below.refl _ _ | refine below_alloc ?_ _ | refine below_drew ?_ | refine below_drewN ?_ _)⟩
end Go.Proofs.Rcn
