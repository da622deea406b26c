/-
  DERIVED. GIVEN WITH THE SEED: THE PROGRAM's TIES (one call each: nine closed facts by the kernel) AND EACH ROW's TIE, after the 31st guide's Derived/Test/Toyas{Tie, Card}.lean. No idea stands in it: it is a product of the set-up. Laid BY PROGRAM, IN A SANDBOX (cutbox-door.mjs). By AI agents, Wed Nov 11 2026. No macro, syntax, notation, axiom, sorry.
-/
import Derived.Test.YtjpboodkmhikpaaDoorRows
import Derived.LaidByTextLater
import Derived.SevenTiedAt
import Derived.LaidSub
import Derived.LaidOnce
namespace Go.Proofs.YtjpboodkmhikpaaDoor
open Go
set_option maxRecDepth 100000
theorem seatTie1 : Tryd.prog.laidByTextLater [("raycone/api.ErrText", Rows.laid_raycone_api_ErrText), ("raycone/api.ErrBound", Rows.laid_raycone_api_ErrBound), ("raycone/api.ErrShape", Rows.laid_raycone_api_ErrShape), ("raycone/api.ErrEmpty", Rows.laid_raycone_api_ErrEmpty), ("raycone/api.ErrOrder", Rows.laid_raycone_api_ErrOrder)] [.sentinel, .sentinel, .sentinel, .sentinel, .sentinel] true :=
  Program.laidByTextLater_by_one 104 8 2 (by kernel_rfl) (by kernel_rfl) (by kernel_rfl) (by kernel_rfl) (by kernel_rfl) (by kernel_rfl) (fun _ _ => by kernel_rfl)
theorem noOwnUnsafe : Tryd.pinned.checked.prog.headLifts.contains "ownunsafe" = false := by kernel_rfl
theorem tie : Tryd.prog.laidByTextLater [("raycone/api.ErrBound", Rows.laid_raycone_api_ErrBound), ("raycone/api.ErrShape", Rows.laid_raycone_api_ErrShape)] [.sentinel, .sentinel] true :=
  Program.laidByTextLater.sub seatTie1 ["raycone/api.ErrBound", "raycone/api.ErrShape"] (by kernel_rfl) (by kernel_rfl)
theorem congrChinese_row_tie : Rows.congrChineseRow.laidByTextAt .later Tryd.pinned [.sentinel, .sentinel] true :=
  OpenClaim.laidByTextAt_later rfl rfl tie noOwnUnsafe
theorem zoneReached_row_tie : Rows.zoneReachedRow.laidByTextAt .later Tryd.pinned [.sentinel, .sentinel] true :=
  OpenClaim.laidByTextAt_later rfl rfl tie noOwnUnsafe
theorem intervalStays_row_tie : Rows.intervalStaysRow.laidByTextAt .later Tryd.pinned [.sentinel, .sentinel] true :=
  OpenClaim.laidByTextAt_later rfl rfl tie noOwnUnsafe
theorem zoneStays_row_tie : Rows.zoneStaysRow.laidByTextAt .later Tryd.pinned [.sentinel, .sentinel] true :=
  OpenClaim.laidByTextAt_later rfl rfl tie noOwnUnsafe
theorem congrLattice_row_tie : Rows.congrLatticeRow.laidByTextAt .later Tryd.pinned [.sentinel, .sentinel] true :=
  OpenClaim.laidByTextAt_later rfl rfl tie noOwnUnsafe
theorem zoneBox_row_tie : Rows.zoneBoxRow.laidByTextAt .later Tryd.pinned [.sentinel, .sentinel] true :=
  OpenClaim.laidByTextAt_later rfl rfl tie noOwnUnsafe
theorem tie2 : Tryd.prog.laidByTextLater [("raycone/api.ErrText", Rows.laid_raycone_api_ErrText), ("raycone/api.ErrBound", Rows.laid_raycone_api_ErrBound), ("raycone/api.ErrShape", Rows.laid_raycone_api_ErrShape)] [.sentinel, .sentinel, .sentinel] true :=
  Program.laidByTextLater.sub seatTie1 ["raycone/api.ErrText", "raycone/api.ErrBound", "raycone/api.ErrShape"] (by kernel_rfl) (by kernel_rfl)
theorem intervalKeeps_row_tie : Rows.intervalKeepsRow.laidByTextAt .later Tryd.pinned [.sentinel, .sentinel, .sentinel] true :=
  OpenClaim.laidByTextAt_later rfl rfl tie2 noOwnUnsafe
theorem tie3 : Tryd.prog.laidByTextLater [("raycone/api.ErrBound", Rows.laid_raycone_api_ErrBound), ("raycone/api.ErrShape", Rows.laid_raycone_api_ErrShape), ("raycone/api.ErrEmpty", Rows.laid_raycone_api_ErrEmpty)] [.sentinel, .sentinel, .sentinel] true :=
  Program.laidByTextLater.sub seatTie1 ["raycone/api.ErrBound", "raycone/api.ErrShape", "raycone/api.ErrEmpty"] (by kernel_rfl) (by kernel_rfl)
theorem zoneTriangle_row_tie : Rows.zoneTriangleRow.laidByTextAt .later Tryd.pinned [.sentinel, .sentinel, .sentinel] true :=
  OpenClaim.laidByTextAt_later rfl rfl tie3 noOwnUnsafe
theorem zoneSound_row_tie : Rows.zoneSoundRow.laidByTextAt .later Tryd.pinned [.sentinel, .sentinel, .sentinel] true :=
  OpenClaim.laidByTextAt_later rfl rfl tie3 noOwnUnsafe
theorem tie4 : Tryd.prog.laidByTextLater [("raycone/api.ErrBound", Rows.laid_raycone_api_ErrBound), ("raycone/api.ErrShape", Rows.laid_raycone_api_ErrShape), ("raycone/api.ErrOrder", Rows.laid_raycone_api_ErrOrder)] [.sentinel, .sentinel, .sentinel] true :=
  Program.laidByTextLater.sub seatTie1 ["raycone/api.ErrBound", "raycone/api.ErrShape", "raycone/api.ErrOrder"] (by kernel_rfl) (by kernel_rfl)
theorem octStays_row_tie : Rows.octStaysRow.laidByTextAt .later Tryd.pinned [.sentinel, .sentinel, .sentinel] true :=
  OpenClaim.laidByTextAt_later rfl rfl tie4 noOwnUnsafe
theorem octReached_row_tie : Rows.octReachedRow.laidByTextAt .later Tryd.pinned [.sentinel, .sentinel, .sentinel] true :=
  OpenClaim.laidByTextAt_later rfl rfl tie4 noOwnUnsafe
theorem octTurns_row_tie : Rows.octTurnsRow.laidByTextAt .later Tryd.pinned [.sentinel, .sentinel, .sentinel] true :=
  OpenClaim.laidByTextAt_later rfl rfl tie4 noOwnUnsafe
theorem tie5 : Tryd.prog.laidByTextLater [("raycone/api.ErrBound", Rows.laid_raycone_api_ErrBound), ("raycone/api.ErrShape", Rows.laid_raycone_api_ErrShape), ("raycone/api.ErrEmpty", Rows.laid_raycone_api_ErrEmpty), ("raycone/api.ErrOrder", Rows.laid_raycone_api_ErrOrder)] [.sentinel, .sentinel, .sentinel, .sentinel] true :=
  Program.laidByTextLater.sub seatTie1 ["raycone/api.ErrBound", "raycone/api.ErrShape", "raycone/api.ErrEmpty", "raycone/api.ErrOrder"] (by kernel_rfl) (by kernel_rfl)
theorem octStrong_row_tie : Rows.octStrongRow.laidByTextAt .later Tryd.pinned [.sentinel, .sentinel, .sentinel, .sentinel] true :=
  OpenClaim.laidByTextAt_later rfl rfl tie5 noOwnUnsafe
theorem octSound_row_tie : Rows.octSoundRow.laidByTextAt .later Tryd.pinned [.sentinel, .sentinel, .sentinel, .sentinel] true :=
  OpenClaim.laidByTextAt_later rfl rfl tie5 noOwnUnsafe
theorem congrChineseUpto_row_tie : Rows.congrChineseUptoRow.laidByTextAt .later Tryd.pinned [.sentinel, .sentinel] true :=
  OpenClaim.laidByTextAt_later rfl rfl tie noOwnUnsafe
theorem zoneReachedUpto_row_tie : Rows.zoneReachedUptoRow.laidByTextAt .later Tryd.pinned [.sentinel, .sentinel] true :=
  OpenClaim.laidByTextAt_later rfl rfl tie noOwnUnsafe
theorem intervalStaysUpto_row_tie : Rows.intervalStaysUptoRow.laidByTextAt .later Tryd.pinned [.sentinel, .sentinel] true :=
  OpenClaim.laidByTextAt_later rfl rfl tie noOwnUnsafe
theorem zoneStaysUpto_row_tie : Rows.zoneStaysUptoRow.laidByTextAt .later Tryd.pinned [.sentinel, .sentinel] true :=
  OpenClaim.laidByTextAt_later rfl rfl tie noOwnUnsafe
theorem intervalKeepsUpto_row_tie : Rows.intervalKeepsUptoRow.laidByTextAt .later Tryd.pinned [.sentinel, .sentinel, .sentinel] true :=
  OpenClaim.laidByTextAt_later rfl rfl tie2 noOwnUnsafe
theorem congrLatticeUpto_row_tie : Rows.congrLatticeUptoRow.laidByTextAt .later Tryd.pinned [.sentinel, .sentinel] true :=
  OpenClaim.laidByTextAt_later rfl rfl tie noOwnUnsafe
theorem zoneTriangleUpto_row_tie : Rows.zoneTriangleUptoRow.laidByTextAt .later Tryd.pinned [.sentinel, .sentinel, .sentinel] true :=
  OpenClaim.laidByTextAt_later rfl rfl tie3 noOwnUnsafe
theorem octStaysUpto_row_tie : Rows.octStaysUptoRow.laidByTextAt .later Tryd.pinned [.sentinel, .sentinel, .sentinel] true :=
  OpenClaim.laidByTextAt_later rfl rfl tie4 noOwnUnsafe
theorem zoneBoxUpto_row_tie : Rows.zoneBoxUptoRow.laidByTextAt .later Tryd.pinned [.sentinel, .sentinel] true :=
  OpenClaim.laidByTextAt_later rfl rfl tie noOwnUnsafe
theorem octReachedUpto_row_tie : Rows.octReachedUptoRow.laidByTextAt .later Tryd.pinned [.sentinel, .sentinel, .sentinel] true :=
  OpenClaim.laidByTextAt_later rfl rfl tie4 noOwnUnsafe
theorem octStrongUpto_row_tie : Rows.octStrongUptoRow.laidByTextAt .later Tryd.pinned [.sentinel, .sentinel, .sentinel, .sentinel] true :=
  OpenClaim.laidByTextAt_later rfl rfl tie5 noOwnUnsafe
theorem zoneSoundUpto_row_tie : Rows.zoneSoundUptoRow.laidByTextAt .later Tryd.pinned [.sentinel, .sentinel, .sentinel] true :=
  OpenClaim.laidByTextAt_later rfl rfl tie3 noOwnUnsafe
theorem octTurnsUpto_row_tie : Rows.octTurnsUptoRow.laidByTextAt .later Tryd.pinned [.sentinel, .sentinel, .sentinel] true :=
  OpenClaim.laidByTextAt_later rfl rfl tie4 noOwnUnsafe
theorem octSoundUpto_row_tie : Rows.octSoundUptoRow.laidByTextAt .later Tryd.pinned [.sentinel, .sentinel, .sentinel, .sentinel] true :=
  OpenClaim.laidByTextAt_later rfl rfl tie5 noOwnUnsafe
end Go.Proofs.YtjpboodkmhikpaaDoor
