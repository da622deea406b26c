import Derived.Test.YtcalcnfppnbooaaDoorIrIvs
import Derived.Test.YtcalcnfppnbooaaDoorIrWd
import Derived.Test.YtcalcnfppnbooaaDoorProg
import Derived.WalkKit
import Derived.WalkSpells
import Derived.WalkLawsBesides
import Derived.Outline
import Derived.Lib.Hide
import Derived.Deep.QuietTactic
import Derived.BigQuiet
import Derived.Deep.DeepCutAuto
import Derived.Deep.RegionHeld3
set_option linter.unusedVariables false
namespace Go.Proofs.Rcn
open Go Go.RowKit

abbrev ivV (a : Iv) : Value := .agg #[.bool a.down, .bool a.up, .int .i64 a.low, .int .i64 a.high]

/-- The errors that are handed on: no one of them is nil. -/
structure Errs (w : World) (bB sB : Addr) : Prop where
  bound : w.cell? ⟨1, 0, none⟩ = some (.iface 210 (.pointer (some bB)))
  shape : w.cell? ⟨0, 0, none⟩ = some (.iface 210 (.pointer (some sB)))
theorem Errs.below {w w1 : World} {bB sB : Addr} (h : Errs w bB sB) (hb : Below w.heap.size w w1) : Errs w1 bB sB := ⟨cell_below hb h.bound, cell_below hb h.shape⟩
theorem Errs.drew {w : World} {bB sB : Addr} (h : Errs w bB sB) : Errs w.drew bB sB := ⟨h.bound, h.shape⟩

/-! ### two, join, within -/
end Go.Proofs.Rcn
