/-
  DERIVED. GIVEN WITH THE SEED: THE CARDS: each row of YtjpboodkmhikpaaDoorRows.lean that lists a variable, with what it lists TIED to the program's text (the seventh form; the later family's looks); each row that meets fmt, with fmt's text TOLD by the authors' own Lean function (tested against real Go, not proved from fmt's source: count such statements apart). THE CARD IS WHAT COUNTS. Prove the row's statement (the work); the ties are given (YtjpboodkmhikpaaDoorTie.lean); close each card by the builder's one call (the guide's Derived/Test/ToyasCard.lean, 'card_holds'). Laid BY PROGRAM, IN A SANDBOX (cutbox-door.mjs). By AI agents, Wed Nov 11 2026. No macro, syntax, notation, axiom, sorry.
-/
import Derived.Test.YtjpboodkmhikpaaDoorRows
import GoSem.ClaimSeven
namespace Go.Proofs.YtjpboodkmhikpaaDoor
namespace Rows

/-- THE TIED CARD OF 'rayconelaw2.CongrChinese'. -/
def congrChineseCard : Claim7 := { stood := { row := congrChineseRow, standIns := [], harness := (true, "3a501319c8d51ab21de4751b262c5751c792a00663681e34ff3f636f2d77e7db"), looks := false }, kinds := [], alts := [], laidByText := true, laidKinds := [.sentinel, .sentinel], laidTests := true, laidLooks := .later }
def CongrChineseCardSaid : Prop := Claim7.holds Tryd.pinned (.plain (OpenSpec.ofChange congrChineseSpec)) congrChineseCard

/-- THE TIED CARD OF 'rayconelaw2.ZoneReached'. -/
def zoneReachedCard : Claim7 := { stood := { row := zoneReachedRow, standIns := [], harness := (true, "3a501319c8d51ab21de4751b262c5751c792a00663681e34ff3f636f2d77e7db"), looks := false }, kinds := [], alts := [], laidByText := true, laidKinds := [.sentinel, .sentinel], laidTests := true, laidLooks := .later }
def ZoneReachedCardSaid : Prop := Claim7.holds Tryd.pinned (.plain (OpenSpec.ofChange zoneReachedSpec)) zoneReachedCard

/-- THE TIED CARD OF 'rayconelaw2.IntervalStays'. -/
def intervalStaysCard : Claim7 := { stood := { row := intervalStaysRow, standIns := [], harness := (true, "3a501319c8d51ab21de4751b262c5751c792a00663681e34ff3f636f2d77e7db"), looks := false }, kinds := [], alts := [], laidByText := true, laidKinds := [.sentinel, .sentinel], laidTests := true, laidLooks := .later }
def IntervalStaysCardSaid : Prop := Claim7.holds Tryd.pinned (.plain (OpenSpec.ofChange intervalStaysSpec)) intervalStaysCard

/-- THE TIED CARD OF 'rayconelaw2.ZoneStays'. -/
def zoneStaysCard : Claim7 := { stood := { row := zoneStaysRow, standIns := [], harness := (true, "3a501319c8d51ab21de4751b262c5751c792a00663681e34ff3f636f2d77e7db"), looks := false }, kinds := [], alts := [], laidByText := true, laidKinds := [.sentinel, .sentinel], laidTests := true, laidLooks := .later }
def ZoneStaysCardSaid : Prop := Claim7.holds Tryd.pinned (.plain (OpenSpec.ofChange zoneStaysSpec)) zoneStaysCard

/-- THE TIED CARD OF 'rayconelaw2.IntervalKeeps'. -/
def intervalKeepsCard : Claim7 := { stood := { row := intervalKeepsRow, standIns := [], harness := (true, "3a501319c8d51ab21de4751b262c5751c792a00663681e34ff3f636f2d77e7db"), looks := false }, kinds := [], alts := [], laidByText := true, laidKinds := [.sentinel, .sentinel, .sentinel], laidTests := true, laidLooks := .later }
def IntervalKeepsCardSaid : Prop := Claim7.holds Tryd.pinned (.plain (OpenSpec.ofChange intervalKeepsSpec)) intervalKeepsCard

/-- THE TIED CARD OF 'rayconelaw2.CongrLattice'. -/
def congrLatticeCard : Claim7 := { stood := { row := congrLatticeRow, standIns := [], harness := (true, "3a501319c8d51ab21de4751b262c5751c792a00663681e34ff3f636f2d77e7db"), looks := false }, kinds := [], alts := [], laidByText := true, laidKinds := [.sentinel, .sentinel], laidTests := true, laidLooks := .later }
def CongrLatticeCardSaid : Prop := Claim7.holds Tryd.pinned (.plain (OpenSpec.ofChange congrLatticeSpec)) congrLatticeCard

/-- THE TIED CARD OF 'rayconelaw2.ZoneTriangle'. -/
def zoneTriangleCard : Claim7 := { stood := { row := zoneTriangleRow, standIns := [], harness := (true, "3a501319c8d51ab21de4751b262c5751c792a00663681e34ff3f636f2d77e7db"), looks := false }, kinds := [], alts := [], laidByText := true, laidKinds := [.sentinel, .sentinel, .sentinel], laidTests := true, laidLooks := .later }
def ZoneTriangleCardSaid : Prop := Claim7.holds Tryd.pinned (.plain (OpenSpec.ofChange zoneTriangleSpec)) zoneTriangleCard

/-- THE TIED CARD OF 'rayconelaw2.OctStays'. -/
def octStaysCard : Claim7 := { stood := { row := octStaysRow, standIns := [], harness := (true, "3a501319c8d51ab21de4751b262c5751c792a00663681e34ff3f636f2d77e7db"), looks := false }, kinds := [], alts := [], laidByText := true, laidKinds := [.sentinel, .sentinel, .sentinel], laidTests := true, laidLooks := .later }
def OctStaysCardSaid : Prop := Claim7.holds Tryd.pinned (.plain (OpenSpec.ofChange octStaysSpec)) octStaysCard

/-- THE TIED CARD OF 'rayconelaw2.ZoneBox'. -/
def zoneBoxCard : Claim7 := { stood := { row := zoneBoxRow, standIns := [], harness := (true, "3a501319c8d51ab21de4751b262c5751c792a00663681e34ff3f636f2d77e7db"), looks := false }, kinds := [], alts := [], laidByText := true, laidKinds := [.sentinel, .sentinel], laidTests := true, laidLooks := .later }
def ZoneBoxCardSaid : Prop := Claim7.holds Tryd.pinned (.plain (OpenSpec.ofChange zoneBoxSpec)) zoneBoxCard

/-- THE TIED CARD OF 'rayconelaw2.OctReached'. -/
def octReachedCard : Claim7 := { stood := { row := octReachedRow, standIns := [], harness := (true, "3a501319c8d51ab21de4751b262c5751c792a00663681e34ff3f636f2d77e7db"), looks := false }, kinds := [], alts := [], laidByText := true, laidKinds := [.sentinel, .sentinel, .sentinel], laidTests := true, laidLooks := .later }
def OctReachedCardSaid : Prop := Claim7.holds Tryd.pinned (.plain (OpenSpec.ofChange octReachedSpec)) octReachedCard

/-- THE TIED CARD OF 'rayconelaw2.OctStrong'. -/
def octStrongCard : Claim7 := { stood := { row := octStrongRow, standIns := [], harness := (true, "3a501319c8d51ab21de4751b262c5751c792a00663681e34ff3f636f2d77e7db"), looks := false }, kinds := [], alts := [], laidByText := true, laidKinds := [.sentinel, .sentinel, .sentinel, .sentinel], laidTests := true, laidLooks := .later }
def OctStrongCardSaid : Prop := Claim7.holds Tryd.pinned (.plain (OpenSpec.ofChange octStrongSpec)) octStrongCard

/-- THE TIED CARD OF 'rayconelaw2.ZoneSound'. -/
def zoneSoundCard : Claim7 := { stood := { row := zoneSoundRow, standIns := [], harness := (true, "3a501319c8d51ab21de4751b262c5751c792a00663681e34ff3f636f2d77e7db"), looks := false }, kinds := [], alts := [], laidByText := true, laidKinds := [.sentinel, .sentinel, .sentinel], laidTests := true, laidLooks := .later }
def ZoneSoundCardSaid : Prop := Claim7.holds Tryd.pinned (.plain (OpenSpec.ofChange zoneSoundSpec)) zoneSoundCard

/-- THE TIED CARD OF 'rayconelaw2.OctTurns'. -/
def octTurnsCard : Claim7 := { stood := { row := octTurnsRow, standIns := [], harness := (true, "3a501319c8d51ab21de4751b262c5751c792a00663681e34ff3f636f2d77e7db"), looks := false }, kinds := [], alts := [], laidByText := true, laidKinds := [.sentinel, .sentinel, .sentinel], laidTests := true, laidLooks := .later }
def OctTurnsCardSaid : Prop := Claim7.holds Tryd.pinned (.plain (OpenSpec.ofChange octTurnsSpec)) octTurnsCard

/-- THE TIED CARD OF 'rayconelaw2.OctSound'. -/
def octSoundCard : Claim7 := { stood := { row := octSoundRow, standIns := [], harness := (true, "3a501319c8d51ab21de4751b262c5751c792a00663681e34ff3f636f2d77e7db"), looks := false }, kinds := [], alts := [], laidByText := true, laidKinds := [.sentinel, .sentinel, .sentinel, .sentinel], laidTests := true, laidLooks := .later }
def OctSoundCardSaid : Prop := Claim7.holds Tryd.pinned (.plain (OpenSpec.ofChange octSoundSpec)) octSoundCard

/-- THE SECOND FORM's CARD OF 'rayconelaw2.CongrChinese'. -/
def congrChineseUptoCard : Claim7 := { stood := { row := congrChineseUptoRow, standIns := [], harness := (true, "3a501319c8d51ab21de4751b262c5751c792a00663681e34ff3f636f2d77e7db"), looks := false }, kinds := [], alts := [], laidByText := true, laidKinds := [.sentinel, .sentinel], laidTests := true, laidLooks := .later }
def CongrChineseUptoCardSaid : Prop := Claim7.holds Tryd.pinned (.plain (OpenSpec.upto congrChineseSpec)) congrChineseUptoCard

/-- THE SECOND FORM's CARD OF 'rayconelaw2.ZoneReached'. -/
def zoneReachedUptoCard : Claim7 := { stood := { row := zoneReachedUptoRow, standIns := [], harness := (true, "3a501319c8d51ab21de4751b262c5751c792a00663681e34ff3f636f2d77e7db"), looks := false }, kinds := [], alts := [], laidByText := true, laidKinds := [.sentinel, .sentinel], laidTests := true, laidLooks := .later }
def ZoneReachedUptoCardSaid : Prop := Claim7.holds Tryd.pinned (.plain (OpenSpec.upto zoneReachedSpec)) zoneReachedUptoCard

/-- THE SECOND FORM's CARD OF 'rayconelaw2.IntervalStays'. -/
def intervalStaysUptoCard : Claim7 := { stood := { row := intervalStaysUptoRow, standIns := [], harness := (true, "3a501319c8d51ab21de4751b262c5751c792a00663681e34ff3f636f2d77e7db"), looks := false }, kinds := [], alts := [], laidByText := true, laidKinds := [.sentinel, .sentinel], laidTests := true, laidLooks := .later }
def IntervalStaysUptoCardSaid : Prop := Claim7.holds Tryd.pinned (.plain (OpenSpec.upto intervalStaysSpec)) intervalStaysUptoCard

/-- THE SECOND FORM's CARD OF 'rayconelaw2.ZoneStays'. -/
def zoneStaysUptoCard : Claim7 := { stood := { row := zoneStaysUptoRow, standIns := [], harness := (true, "3a501319c8d51ab21de4751b262c5751c792a00663681e34ff3f636f2d77e7db"), looks := false }, kinds := [], alts := [], laidByText := true, laidKinds := [.sentinel, .sentinel], laidTests := true, laidLooks := .later }
def ZoneStaysUptoCardSaid : Prop := Claim7.holds Tryd.pinned (.plain (OpenSpec.upto zoneStaysSpec)) zoneStaysUptoCard

/-- THE SECOND FORM's CARD OF 'rayconelaw2.IntervalKeeps'. -/
def intervalKeepsUptoCard : Claim7 := { stood := { row := intervalKeepsUptoRow, standIns := [], harness := (true, "3a501319c8d51ab21de4751b262c5751c792a00663681e34ff3f636f2d77e7db"), looks := false }, kinds := [], alts := [], laidByText := true, laidKinds := [.sentinel, .sentinel, .sentinel], laidTests := true, laidLooks := .later }
def IntervalKeepsUptoCardSaid : Prop := Claim7.holds Tryd.pinned (.plain (OpenSpec.upto intervalKeepsSpec)) intervalKeepsUptoCard

/-- THE SECOND FORM's CARD OF 'rayconelaw2.CongrLattice'. -/
def congrLatticeUptoCard : Claim7 := { stood := { row := congrLatticeUptoRow, standIns := [], harness := (true, "3a501319c8d51ab21de4751b262c5751c792a00663681e34ff3f636f2d77e7db"), looks := false }, kinds := [], alts := [], laidByText := true, laidKinds := [.sentinel, .sentinel], laidTests := true, laidLooks := .later }
def CongrLatticeUptoCardSaid : Prop := Claim7.holds Tryd.pinned (.plain (OpenSpec.upto congrLatticeSpec)) congrLatticeUptoCard

/-- THE SECOND FORM's CARD OF 'rayconelaw2.ZoneTriangle'. -/
def zoneTriangleUptoCard : Claim7 := { stood := { row := zoneTriangleUptoRow, standIns := [], harness := (true, "3a501319c8d51ab21de4751b262c5751c792a00663681e34ff3f636f2d77e7db"), looks := false }, kinds := [], alts := [], laidByText := true, laidKinds := [.sentinel, .sentinel, .sentinel], laidTests := true, laidLooks := .later }
def ZoneTriangleUptoCardSaid : Prop := Claim7.holds Tryd.pinned (.plain (OpenSpec.upto zoneTriangleSpec)) zoneTriangleUptoCard

/-- THE SECOND FORM's CARD OF 'rayconelaw2.OctStays'. -/
def octStaysUptoCard : Claim7 := { stood := { row := octStaysUptoRow, standIns := [], harness := (true, "3a501319c8d51ab21de4751b262c5751c792a00663681e34ff3f636f2d77e7db"), looks := false }, kinds := [], alts := [], laidByText := true, laidKinds := [.sentinel, .sentinel, .sentinel], laidTests := true, laidLooks := .later }
def OctStaysUptoCardSaid : Prop := Claim7.holds Tryd.pinned (.plain (OpenSpec.upto octStaysSpec)) octStaysUptoCard

/-- THE SECOND FORM's CARD OF 'rayconelaw2.ZoneBox'. -/
def zoneBoxUptoCard : Claim7 := { stood := { row := zoneBoxUptoRow, standIns := [], harness := (true, "3a501319c8d51ab21de4751b262c5751c792a00663681e34ff3f636f2d77e7db"), looks := false }, kinds := [], alts := [], laidByText := true, laidKinds := [.sentinel, .sentinel], laidTests := true, laidLooks := .later }
def ZoneBoxUptoCardSaid : Prop := Claim7.holds Tryd.pinned (.plain (OpenSpec.upto zoneBoxSpec)) zoneBoxUptoCard

/-- THE SECOND FORM's CARD OF 'rayconelaw2.OctReached'. -/
def octReachedUptoCard : Claim7 := { stood := { row := octReachedUptoRow, standIns := [], harness := (true, "3a501319c8d51ab21de4751b262c5751c792a00663681e34ff3f636f2d77e7db"), looks := false }, kinds := [], alts := [], laidByText := true, laidKinds := [.sentinel, .sentinel, .sentinel], laidTests := true, laidLooks := .later }
def OctReachedUptoCardSaid : Prop := Claim7.holds Tryd.pinned (.plain (OpenSpec.upto octReachedSpec)) octReachedUptoCard

/-- THE SECOND FORM's CARD OF 'rayconelaw2.OctStrong'. -/
def octStrongUptoCard : Claim7 := { stood := { row := octStrongUptoRow, standIns := [], harness := (true, "3a501319c8d51ab21de4751b262c5751c792a00663681e34ff3f636f2d77e7db"), looks := false }, kinds := [], alts := [], laidByText := true, laidKinds := [.sentinel, .sentinel, .sentinel, .sentinel], laidTests := true, laidLooks := .later }
def OctStrongUptoCardSaid : Prop := Claim7.holds Tryd.pinned (.plain (OpenSpec.upto octStrongSpec)) octStrongUptoCard

/-- THE SECOND FORM's CARD OF 'rayconelaw2.ZoneSound'. -/
def zoneSoundUptoCard : Claim7 := { stood := { row := zoneSoundUptoRow, standIns := [], harness := (true, "3a501319c8d51ab21de4751b262c5751c792a00663681e34ff3f636f2d77e7db"), looks := false }, kinds := [], alts := [], laidByText := true, laidKinds := [.sentinel, .sentinel, .sentinel], laidTests := true, laidLooks := .later }
def ZoneSoundUptoCardSaid : Prop := Claim7.holds Tryd.pinned (.plain (OpenSpec.upto zoneSoundSpec)) zoneSoundUptoCard

/-- THE SECOND FORM's CARD OF 'rayconelaw2.OctTurns'. -/
def octTurnsUptoCard : Claim7 := { stood := { row := octTurnsUptoRow, standIns := [], harness := (true, "3a501319c8d51ab21de4751b262c5751c792a00663681e34ff3f636f2d77e7db"), looks := false }, kinds := [], alts := [], laidByText := true, laidKinds := [.sentinel, .sentinel, .sentinel], laidTests := true, laidLooks := .later }
def OctTurnsUptoCardSaid : Prop := Claim7.holds Tryd.pinned (.plain (OpenSpec.upto octTurnsSpec)) octTurnsUptoCard

/-- THE SECOND FORM's CARD OF 'rayconelaw2.OctSound'. -/
def octSoundUptoCard : Claim7 := { stood := { row := octSoundUptoRow, standIns := [], harness := (true, "3a501319c8d51ab21de4751b262c5751c792a00663681e34ff3f636f2d77e7db"), looks := false }, kinds := [], alts := [], laidByText := true, laidKinds := [.sentinel, .sentinel, .sentinel, .sentinel], laidTests := true, laidLooks := .later }
def OctSoundUptoCardSaid : Prop := Claim7.holds Tryd.pinned (.plain (OpenSpec.upto octSoundSpec)) octSoundUptoCard
end Rows
end Go.Proofs.YtjpboodkmhikpaaDoor
