/-
  DERIVED. GIVEN WITH THE SEED: THE CARDS: each row of YtcalcnfppnbooaaDoorRows.lean that lists a variable, with what it lists TIED to the program's text (the seventh form; the later family's looks); each row that meets fmt, with fmt's text TOLD by the authors' own Lean function (tested against real Go, not proved from fmt's source: count such statements apart). THE CARD IS WHAT COUNTS. Prove the row's statement (the work); the ties are given (YtcalcnfppnbooaaDoorTie.lean); close each card by the builder's one call (the guide's Derived/Test/ToyasCard.lean, 'card_holds'). Laid BY PROGRAM, IN A SANDBOX (cutbox-door.mjs). By AI agents, Wed Nov 11 2026. No macro, syntax, notation, axiom, sorry.
-/
import Derived.Test.YtcalcnfppnbooaaDoorRows
import GoSem.ClaimSeven
namespace Go.Proofs.YtcalcnfppnbooaaDoor
namespace Rows

/-- THE TIED CARD OF 'rayconelaw2.ZoneClose'. -/
def zoneCloseCard : Claim7 := { stood := { row := zoneCloseRow, standIns := [], harness := (true, "eb85a3cbfa93ebc53b2d5b2795510eb8438c6b0486522e109e68131e5b9005da"), looks := true }, kinds := [], alts := [], laidByText := true, laidKinds := [.handle, .sentinel, .sentinel, .sentinel, .sentinel, .sentinel, .sentinel, .sentinel, .sentinel], laidTests := true, laidLooks := .later }
def ZoneCloseCardSaid : Prop := Claim7.holds Tryd.pinned (.plain (OpenSpec.ofChange zoneCloseSpec)) zoneCloseCard

/-- THE TIED CARD OF 'rayconelaw2.IntervalRefine'. -/
def intervalRefineCard : Claim7 := { stood := { row := intervalRefineRow, standIns := [], harness := (true, "eb85a3cbfa93ebc53b2d5b2795510eb8438c6b0486522e109e68131e5b9005da"), looks := true }, kinds := [], alts := [], laidByText := true, laidKinds := [.handle, .sentinel, .sentinel, .sentinel, .sentinel, .sentinel, .sentinel, .sentinel, .sentinel], laidTests := true, laidLooks := .later }
def IntervalRefineCardSaid : Prop := Claim7.holds Tryd.pinned (.plain (OpenSpec.ofChange intervalRefineSpec)) intervalRefineCard

/-- THE TIED CARD OF 'rayconelaw2.ZoneWiden'. -/
def zoneWidenCard : Claim7 := { stood := { row := zoneWidenRow, standIns := [], harness := (true, "eb85a3cbfa93ebc53b2d5b2795510eb8438c6b0486522e109e68131e5b9005da"), looks := true }, kinds := [], alts := [], laidByText := true, laidKinds := [.handle, .sentinel, .sentinel, .sentinel, .sentinel, .sentinel, .sentinel, .sentinel, .sentinel], laidTests := true, laidLooks := .later }
def ZoneWidenCardSaid : Prop := Claim7.holds Tryd.pinned (.plain (OpenSpec.ofChange zoneWidenSpec)) zoneWidenCard

/-- THE TIED CARD OF 'rayconelaw2.OctClose'. -/
def octCloseCard : Claim7 := { stood := { row := octCloseRow, standIns := [], harness := (true, "eb85a3cbfa93ebc53b2d5b2795510eb8438c6b0486522e109e68131e5b9005da"), looks := true }, kinds := [], alts := [], laidByText := true, laidKinds := [.handle, .sentinel, .sentinel, .sentinel, .sentinel, .sentinel, .sentinel, .sentinel, .sentinel], laidTests := true, laidLooks := .later }
def OctCloseCardSaid : Prop := Claim7.holds Tryd.pinned (.plain (OpenSpec.ofChange octCloseSpec)) octCloseCard

/-- THE TIED CARD OF 'rayconelaw2.ZoneLattice'. -/
def zoneLatticeCard : Claim7 := { stood := { row := zoneLatticeRow, standIns := [], harness := (true, "eb85a3cbfa93ebc53b2d5b2795510eb8438c6b0486522e109e68131e5b9005da"), looks := true }, kinds := [], alts := [], laidByText := true, laidKinds := [.handle, .sentinel, .sentinel, .sentinel, .sentinel, .sentinel, .sentinel, .sentinel, .sentinel], laidTests := true, laidLooks := .later }
def ZoneLatticeCardSaid : Prop := Claim7.holds Tryd.pinned (.plain (OpenSpec.ofChange zoneLatticeSpec)) zoneLatticeCard

/-- THE TIED CARD OF 'rayconelaw2.OctGuard'. -/
def octGuardCard : Claim7 := { stood := { row := octGuardRow, standIns := [], harness := (true, "eb85a3cbfa93ebc53b2d5b2795510eb8438c6b0486522e109e68131e5b9005da"), looks := true }, kinds := [], alts := [], laidByText := true, laidKinds := [.handle, .sentinel, .sentinel, .sentinel, .sentinel, .sentinel, .sentinel, .sentinel, .sentinel], laidTests := true, laidLooks := .later }
def OctGuardCardSaid : Prop := Claim7.holds Tryd.pinned (.plain (OpenSpec.ofChange octGuardSpec)) octGuardCard

/-- THE TIED CARD OF 'rayconelaw2.ZoneChanges'. -/
def zoneChangesCard : Claim7 := { stood := { row := zoneChangesRow, standIns := [], harness := (true, "eb85a3cbfa93ebc53b2d5b2795510eb8438c6b0486522e109e68131e5b9005da"), looks := true }, kinds := [], alts := [], laidByText := true, laidKinds := [.handle, .sentinel, .sentinel, .sentinel, .sentinel, .sentinel, .sentinel, .sentinel, .sentinel], laidTests := true, laidLooks := .later }
def ZoneChangesCardSaid : Prop := Claim7.holds Tryd.pinned (.plain (OpenSpec.ofChange zoneChangesSpec)) zoneChangesCard

/-- THE TIED CARD OF 'rayconelaw2.OctWiden'. -/
def octWidenCard : Claim7 := { stood := { row := octWidenRow, standIns := [], harness := (true, "eb85a3cbfa93ebc53b2d5b2795510eb8438c6b0486522e109e68131e5b9005da"), looks := true }, kinds := [], alts := [], laidByText := true, laidKinds := [.handle, .sentinel, .sentinel, .sentinel, .sentinel, .sentinel, .sentinel, .sentinel, .sentinel], laidTests := true, laidLooks := .later }
def OctWidenCardSaid : Prop := Claim7.holds Tryd.pinned (.plain (OpenSpec.ofChange octWidenSpec)) octWidenCard

/-- THE TIED CARD OF 'rayconelaw2.OctLattice'. -/
def octLatticeCard : Claim7 := { stood := { row := octLatticeRow, standIns := [], harness := (true, "eb85a3cbfa93ebc53b2d5b2795510eb8438c6b0486522e109e68131e5b9005da"), looks := true }, kinds := [], alts := [], laidByText := true, laidKinds := [.handle, .sentinel, .sentinel, .sentinel, .sentinel, .sentinel, .sentinel, .sentinel, .sentinel], laidTests := true, laidLooks := .later }
def OctLatticeCardSaid : Prop := Claim7.holds Tryd.pinned (.plain (OpenSpec.ofChange octLatticeSpec)) octLatticeCard

/-- THE TIED CARD OF 'rayconelaw2.OctChanges'. -/
def octChangesCard : Claim7 := { stood := { row := octChangesRow, standIns := [], harness := (true, "eb85a3cbfa93ebc53b2d5b2795510eb8438c6b0486522e109e68131e5b9005da"), looks := true }, kinds := [], alts := [], laidByText := true, laidKinds := [.handle, .sentinel, .sentinel, .sentinel, .sentinel, .sentinel, .sentinel, .sentinel, .sentinel], laidTests := true, laidLooks := .later }
def OctChangesCardSaid : Prop := Claim7.holds Tryd.pinned (.plain (OpenSpec.ofChange octChangesSpec)) octChangesCard

/-- THE TIED CARD OF 'rayconelaw2.OctZone'. -/
def octZoneCard : Claim7 := { stood := { row := octZoneRow, standIns := [], harness := (true, "eb85a3cbfa93ebc53b2d5b2795510eb8438c6b0486522e109e68131e5b9005da"), looks := true }, kinds := [], alts := [], laidByText := true, laidKinds := [.handle, .sentinel, .sentinel, .sentinel, .sentinel, .sentinel, .sentinel, .sentinel, .sentinel], laidTests := true, laidLooks := .later }
def OctZoneCardSaid : Prop := Claim7.holds Tryd.pinned (.plain (OpenSpec.ofChange octZoneSpec)) octZoneCard

/-- THE SECOND FORM's CARD OF 'rayconelaw2.ZoneClose'. -/
def zoneCloseUptoCard : Claim7 := { stood := { row := zoneCloseUptoRow, standIns := [], harness := (true, "eb85a3cbfa93ebc53b2d5b2795510eb8438c6b0486522e109e68131e5b9005da"), looks := true }, kinds := [], alts := [], laidByText := true, laidKinds := [.handle, .sentinel, .sentinel, .sentinel, .sentinel, .sentinel, .sentinel, .sentinel, .sentinel], laidTests := true, laidLooks := .later }
def ZoneCloseUptoCardSaid : Prop := Claim7.holds Tryd.pinned (.plain (OpenSpec.upto zoneCloseSpec)) zoneCloseUptoCard

/-- THE SECOND FORM's CARD OF 'rayconelaw2.IntervalRefine'. -/
def intervalRefineUptoCard : Claim7 := { stood := { row := intervalRefineUptoRow, standIns := [], harness := (true, "eb85a3cbfa93ebc53b2d5b2795510eb8438c6b0486522e109e68131e5b9005da"), looks := true }, kinds := [], alts := [], laidByText := true, laidKinds := [.handle, .sentinel, .sentinel, .sentinel, .sentinel, .sentinel, .sentinel, .sentinel, .sentinel], laidTests := true, laidLooks := .later }
def IntervalRefineUptoCardSaid : Prop := Claim7.holds Tryd.pinned (.plain (OpenSpec.upto intervalRefineSpec)) intervalRefineUptoCard

/-- THE SECOND FORM's CARD OF 'rayconelaw2.ZoneWiden'. -/
def zoneWidenUptoCard : Claim7 := { stood := { row := zoneWidenUptoRow, standIns := [], harness := (true, "eb85a3cbfa93ebc53b2d5b2795510eb8438c6b0486522e109e68131e5b9005da"), looks := true }, kinds := [], alts := [], laidByText := true, laidKinds := [.handle, .sentinel, .sentinel, .sentinel, .sentinel, .sentinel, .sentinel, .sentinel, .sentinel], laidTests := true, laidLooks := .later }
def ZoneWidenUptoCardSaid : Prop := Claim7.holds Tryd.pinned (.plain (OpenSpec.upto zoneWidenSpec)) zoneWidenUptoCard

/-- THE SECOND FORM's CARD OF 'rayconelaw2.OctClose'. -/
def octCloseUptoCard : Claim7 := { stood := { row := octCloseUptoRow, standIns := [], harness := (true, "eb85a3cbfa93ebc53b2d5b2795510eb8438c6b0486522e109e68131e5b9005da"), looks := true }, kinds := [], alts := [], laidByText := true, laidKinds := [.handle, .sentinel, .sentinel, .sentinel, .sentinel, .sentinel, .sentinel, .sentinel, .sentinel], laidTests := true, laidLooks := .later }
def OctCloseUptoCardSaid : Prop := Claim7.holds Tryd.pinned (.plain (OpenSpec.upto octCloseSpec)) octCloseUptoCard

/-- THE SECOND FORM's CARD OF 'rayconelaw2.ZoneLattice'. -/
def zoneLatticeUptoCard : Claim7 := { stood := { row := zoneLatticeUptoRow, standIns := [], harness := (true, "eb85a3cbfa93ebc53b2d5b2795510eb8438c6b0486522e109e68131e5b9005da"), looks := true }, kinds := [], alts := [], laidByText := true, laidKinds := [.handle, .sentinel, .sentinel, .sentinel, .sentinel, .sentinel, .sentinel, .sentinel, .sentinel], laidTests := true, laidLooks := .later }
def ZoneLatticeUptoCardSaid : Prop := Claim7.holds Tryd.pinned (.plain (OpenSpec.upto zoneLatticeSpec)) zoneLatticeUptoCard

/-- THE SECOND FORM's CARD OF 'rayconelaw2.OctGuard'. -/
def octGuardUptoCard : Claim7 := { stood := { row := octGuardUptoRow, standIns := [], harness := (true, "eb85a3cbfa93ebc53b2d5b2795510eb8438c6b0486522e109e68131e5b9005da"), looks := true }, kinds := [], alts := [], laidByText := true, laidKinds := [.handle, .sentinel, .sentinel, .sentinel, .sentinel, .sentinel, .sentinel, .sentinel, .sentinel], laidTests := true, laidLooks := .later }
def OctGuardUptoCardSaid : Prop := Claim7.holds Tryd.pinned (.plain (OpenSpec.upto octGuardSpec)) octGuardUptoCard

/-- THE SECOND FORM's CARD OF 'rayconelaw2.ZoneChanges'. -/
def zoneChangesUptoCard : Claim7 := { stood := { row := zoneChangesUptoRow, standIns := [], harness := (true, "eb85a3cbfa93ebc53b2d5b2795510eb8438c6b0486522e109e68131e5b9005da"), looks := true }, kinds := [], alts := [], laidByText := true, laidKinds := [.handle, .sentinel, .sentinel, .sentinel, .sentinel, .sentinel, .sentinel, .sentinel, .sentinel], laidTests := true, laidLooks := .later }
def ZoneChangesUptoCardSaid : Prop := Claim7.holds Tryd.pinned (.plain (OpenSpec.upto zoneChangesSpec)) zoneChangesUptoCard

/-- THE SECOND FORM's CARD OF 'rayconelaw2.OctWiden'. -/
def octWidenUptoCard : Claim7 := { stood := { row := octWidenUptoRow, standIns := [], harness := (true, "eb85a3cbfa93ebc53b2d5b2795510eb8438c6b0486522e109e68131e5b9005da"), looks := true }, kinds := [], alts := [], laidByText := true, laidKinds := [.handle, .sentinel, .sentinel, .sentinel, .sentinel, .sentinel, .sentinel, .sentinel, .sentinel], laidTests := true, laidLooks := .later }
def OctWidenUptoCardSaid : Prop := Claim7.holds Tryd.pinned (.plain (OpenSpec.upto octWidenSpec)) octWidenUptoCard

/-- THE SECOND FORM's CARD OF 'rayconelaw2.OctLattice'. -/
def octLatticeUptoCard : Claim7 := { stood := { row := octLatticeUptoRow, standIns := [], harness := (true, "eb85a3cbfa93ebc53b2d5b2795510eb8438c6b0486522e109e68131e5b9005da"), looks := true }, kinds := [], alts := [], laidByText := true, laidKinds := [.handle, .sentinel, .sentinel, .sentinel, .sentinel, .sentinel, .sentinel, .sentinel, .sentinel], laidTests := true, laidLooks := .later }
def OctLatticeUptoCardSaid : Prop := Claim7.holds Tryd.pinned (.plain (OpenSpec.upto octLatticeSpec)) octLatticeUptoCard

/-- THE SECOND FORM's CARD OF 'rayconelaw2.OctChanges'. -/
def octChangesUptoCard : Claim7 := { stood := { row := octChangesUptoRow, standIns := [], harness := (true, "eb85a3cbfa93ebc53b2d5b2795510eb8438c6b0486522e109e68131e5b9005da"), looks := true }, kinds := [], alts := [], laidByText := true, laidKinds := [.handle, .sentinel, .sentinel, .sentinel, .sentinel, .sentinel, .sentinel, .sentinel, .sentinel], laidTests := true, laidLooks := .later }
def OctChangesUptoCardSaid : Prop := Claim7.holds Tryd.pinned (.plain (OpenSpec.upto octChangesSpec)) octChangesUptoCard

/-- THE SECOND FORM's CARD OF 'rayconelaw2.OctZone'. -/
def octZoneUptoCard : Claim7 := { stood := { row := octZoneUptoRow, standIns := [], harness := (true, "eb85a3cbfa93ebc53b2d5b2795510eb8438c6b0486522e109e68131e5b9005da"), looks := true }, kinds := [], alts := [], laidByText := true, laidKinds := [.handle, .sentinel, .sentinel, .sentinel, .sentinel, .sentinel, .sentinel, .sentinel, .sentinel], laidTests := true, laidLooks := .later }
def OctZoneUptoCardSaid : Prop := Claim7.holds Tryd.pinned (.plain (OpenSpec.upto octZoneSpec)) octZoneUptoCard
end Rows
end Go.Proofs.YtcalcnfppnbooaaDoor
