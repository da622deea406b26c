import Derived.Test.YtcalcnfppnbooaaDoorOxQf
import Derived.Test.YtcalcnfppnbooaaDoorOxOt
/- Plain: a bound of two variables of an octagon: its row. -/
set_option linter.unusedVariables false
namespace Go.Proofs.Rcp
open Go.RowKit (wrap64)
open Go.Proofs.Rcg Go.Proofs.Rcn

theorem atS_le {a : Int} {x n : Nat} (hx : x < n) : atS a x < 2 * n := by unfold atS; split <;> omega
theorem rowO_boundL {n x y : Nat} {L : List Cel} (R : RowO n L) {a b c : Int} (hx : x < n) (hy : y < n) (hc : -549755813888 ≤ c ∧ c ≤ 549755813888) : RowO n (boundL (2 * n) a x b y c L) := by
  have hp := atS_le (a := a) hx
  have hq := atS_le (a := b) hy
  unfold boundL
  split
  · exact rowO_leastO R (op_lt hq) hq true (by omega)
  · split
    · exact rowO_leastO R (op_lt hp) hp true (by omega)
    · exact rowO_leastO R (op_lt hq) hp true (by omega)
theorem near_boundL {n x y z : Nat} {L : List Cel} (R : Near z L) {a b c : Int} (hc : 2 * c ≤ z ∧ -(z : Int) ≤ 2 * c) : Near z (boundL n a x b y c L) := by
  unfold boundL
  split
  · exact near_leastO R (fun _ => by omega)
  · split
    · exact near_leastO R (fun _ => by omega)
    · exact near_leastO R (fun _ => by omega)
end Go.Proofs.Rcp
