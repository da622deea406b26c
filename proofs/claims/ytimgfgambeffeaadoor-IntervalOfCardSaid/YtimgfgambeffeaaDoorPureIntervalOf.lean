/- Plain law: the law 'IntervalOf' as it is printed is true, whatever it is given. -/
import Derived.Test.YtimgfgambeffeaaDoorIvA
import Derived.Test.YtimgfgambeffeaaDoorI4
set_option linter.unusedVariables false
namespace Go.Proofs.Rcp
open Go.RowKit Go.Proofs.Rcg Go.Proofs.YtimgfgambeffeaaDoor.I Go.Proofs.YtimgfgambeffeaaDoorW.PrintWords Go.Proofs.YtimgfgambeffeaaDoorW.PrintMore

theorem pure_IntervalOf (d u : Bool) (lo hi n : Int) : Ev (fun k => L2_IntervalOf.f k d u lo hi n) true := by
  unfold L2_IntervalOf.f
  refine .bind ev_three (.pos rfl (.bind (ev_iError d u lo hi) (.bind (ev_iValid d u lo hi) (.bind (.of fun _ => coded_iv d u lo hi) (.pos rfl ?_)))))
  by_cases h : iErr d u lo hi = none
  · rw [h]
    refine .bind (ev_iHas n (iErr_none.1 h)) (.pos rfl (.bind (.of fun _ => inOf_i d u lo hi n) (.of fun _ => ?_)))
    simp
  · refine .bind (ev_iHas_bad n h) (.neg ?_ .some)
    rcases iErr_cases d u lo hi with e | e | e
    · exact absurd e h
    · rw [e]; decide
    · rw [e]; decide
end Go.Proofs.Rcp
