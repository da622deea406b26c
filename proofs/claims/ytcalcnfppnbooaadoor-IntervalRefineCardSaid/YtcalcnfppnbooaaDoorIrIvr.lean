import Derived.Test.YtcalcnfppnbooaaDoorIrIv1
set_option linter.unusedVariables false
namespace Go.Proofs.Rcn
open Go Go.RowKit
theorem ret_iv {d u d' u' : Bool} {l k l' k' : Int} (h1 : d = d') (h2 : u = u') (h3 : l = l') (h4 : k = k') :
    Ending.returned (.agg #[.bool d, .bool u, .int .i64 l, .int .i64 k]) = .returned (ivV ⟨d', u', l', k'⟩) := by subst h1 h2 h3 h4; rfl

end Go.Proofs.Rcn
