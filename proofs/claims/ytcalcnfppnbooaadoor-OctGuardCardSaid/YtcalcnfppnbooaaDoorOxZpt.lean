import Derived.Test.YtcalcnfppnbooaaDoorOxZk
import Derived.Test.YtcalcnfppnbooaaDoorOxZones
/- Plain law: points of zones: what is done with a zone keeps them; widened over and over. -/
set_option linter.unusedVariables false
namespace Go.Proofs.Rcn

end Go.Proofs.Rcn

namespace Go.Proofs.Rcp
open Go.RowKit Go.Proofs.Rcg Go.Proofs.Rcn

end Go.Proofs.Rcp
