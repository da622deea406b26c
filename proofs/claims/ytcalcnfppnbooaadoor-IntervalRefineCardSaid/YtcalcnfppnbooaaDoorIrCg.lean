import Derived.Test.YtcalcnfppnbooaaDoorIrChin
import Derived.RowKit
/- Plain law: congruences: what is one in form, joined, met, within; greatest common divisors. No program. -/
namespace Go.Proofs.Rcp
open Go.RowKit (wrap64)

/-- In form. -/
def told (r m : Int) : Int × Int := if m > 1048576 ∨ (m = 0 ∧ (r > 1099511627776 ∨ r < -1099511627776)) then (0, 1) else if m > 0 then (r % m, m) else (r, 0)
/-- Is n one of them? -/
def inC (r m n : Int) : Bool := if m = 0 then n == r else n % m == r
/-- Is one in the other? -/
def within (r m s n : Int) : Bool := if n = 0 then r == s && m == n else m % n == 0 && inC s n r

theorem w64 {n : Int} (h1 : -9223372036854775808 ≤ n) (h2 : n ≤ 9223372036854775807) : wrap64 n = n := by unfold wrap64; omega
end Go.Proofs.Rcp
