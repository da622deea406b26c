import Derived.Test.YtcalcnfppnbooaaDoorOxZk
/- Package zone: has it a point? -/
set_option linter.unusedVariables false
set_option linter.unusedSimpArgs false
namespace Go.Proofs.Rcg
open Go Go.RowKit Go.Proofs.Rcn Go.Proofs.YtcalcnfppnbooaaDoor.Z Go.Proofs.YtcalcnfppnbooaaDoorW.PrintWords

end Go.Proofs.Rcg
