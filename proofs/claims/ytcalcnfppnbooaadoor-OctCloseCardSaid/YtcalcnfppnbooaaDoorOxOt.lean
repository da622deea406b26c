import Derived.Test.YtcalcnfppnbooaaDoorOxQf
import Derived.Test.YtcalcnfppnbooaaDoorOxZpt
/- Plain law: tight octagons: tight again, met with themselves, with a bound more. -/
set_option linter.unusedVariables false
namespace Go.Proofs.Rcp
open Go.RowKit (wrap64)
open Go.Proofs.Rcg Go.Proofs.Rcn

end Go.Proofs.Rcp
