/- Plain law: greatest common divisors and the CHINESE remainders. No program. -/
namespace Go.Proofs.Rcn

end Go.Proofs.Rcn
