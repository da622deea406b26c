import Derived.Test.YtcalcnfppnbooaaDoorOxEb
/- A field of a struct that no variable holds. -/
namespace Go.Proofs.Rcg
open Go Go.RowKit
theorem fld_zone1 (a : Value) (A : Option Addr) (n c : Nat) (w : World) : Sem.run Tryd.prog (Instr.field 30 (.agg #[a, .slice A n c]) 1) w = .ok (.slice A n c) w := by
  simp [Instr.field, underlying, Tryd.underlying30, asAgg, go_sem]
theorem fld_rzone1 (a : Value) (A : Option Addr) (n c : Nat) (w : World) : Sem.run Tryd.prog (Instr.field 24 (.agg #[a, .slice A n c]) 1) w = .ok (.slice A n c) w := by
  simp [Instr.field, underlying, Tryd.underlying24, asAgg, go_sem]
end Go.Proofs.Rcg
