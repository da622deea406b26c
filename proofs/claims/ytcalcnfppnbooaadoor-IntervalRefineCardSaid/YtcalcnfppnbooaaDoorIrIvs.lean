/- Plain law: intervals: join, widened over and over. No program. -/
namespace Go.Proofs.Rcn

structure Iv where (down : Bool) (up : Bool) (low : Int) (high : Int) deriving DecidableEq

def farB (n : Int) : Bool := decide (n > 1099511627776) || decide (n < -1099511627776)
end Go.Proofs.Rcn
