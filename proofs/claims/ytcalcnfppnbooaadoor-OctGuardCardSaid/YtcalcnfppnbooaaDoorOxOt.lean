import Derived.Test.YtcalcnfppnbooaaDoorOxQf
import Derived.Test.YtcalcnfppnbooaaDoorOxZpt
/- Plain law: tight octagons: tight again, met with themselves, with a bound more. -/
set_option linter.unusedVariables false
namespace Go.Proofs.Rcp
open Go.RowKit (wrap64)
open Go.Proofs.Rcg Go.Proofs.Rcn

theorem cohL_leastO {N : Nat} {L : List Cel} (hL : L.length = 2 * N * (2 * N)) (nL : Norm L) (hc : CohL (2 * N) L) {a b : Nat} (ha : a < 2 * N) (hb : b < 2 * N) (h : Bool) (m : Int) : CohL (2 * N) (leastO (2 * N) L a b h m) := by
  refine cohL_of (norm_leastO nL _ _ _ _) fun i j v q => ?_
  rw [bd_leastO hL ha hb] at q ⊢
  rcases q with q | ⟨q, rfl, rfl, hv⟩ | ⟨q, rfl, rfl, hv⟩
  · exact .inl (hc.coh _ _ _ q)
  · exact .inr (.inr ⟨q, rfl, rfl, hv⟩)
  · exact .inr (.inl ⟨q, op_op _, op_op _, hv⟩)
theorem rowO_leastO {N : Nat} {L : List Cel} (R : RowO N L) {a b : Nat} (ha : a < 2 * N) (hb : b < 2 * N) (h : Bool) {m : Int} (hm : -1099511627776 ≤ m ∧ m ≤ 1099511627776) : RowO N (leastO (2 * N) L a b h m) :=
  ⟨by rw [leastO_length]; exact R.len, norm_leastO R.norm _ _ _ _, near_leastO R.near (fun _ => by omega), cohL_leastO R.len R.norm R.coh ha hb h m⟩
end Go.Proofs.Rcp
