/-
  DERIVED. GIVEN WITH THE SEED: THE CARDS: each row of YtimgfgambeffeaaDoorRows.lean that lists a variable, with what it lists TIED to the program's text (the seventh form; the later family's looks); each row that meets fmt, with fmt's text TOLD by the authors' own Lean function (tested against real Go, not proved from fmt's source: count such statements apart). THE CARD IS WHAT COUNTS. Prove the row's statement (the work); the ties are given (YtimgfgambeffeaaDoorTie.lean); close each card by the builder's one call (the guide's Derived/Test/ToyasCard.lean, 'card_holds'). Laid BY PROGRAM, IN A SANDBOX (cutbox-door.mjs). By AI agents, Wed Nov 11 2026. No macro, syntax, notation, axiom, sorry.
-/
import Derived.Test.YtimgfgambeffeaaDoorRows
import GoSem.ClaimSeven
namespace Go.Proofs.YtimgfgambeffeaaDoor
namespace Rows

/-- THE TIED CARD OF 'rayconelaw2.IntervalOf'. -/
def intervalOfCard : Claim7 := { stood := { row := intervalOfRow, standIns := [], harness := (true, "e91fd07993000136d02446504c2a6dffb591165ace9c10d69eb03d3efd0f1687"), looks := true }, kinds := [], alts := [], laidByText := true, laidKinds := [.handle, .sentinel, .sentinel, .sentinel, .sentinel, .sentinel, .sentinel, .sentinel, .sentinel], laidTests := true, laidLooks := .later }
def IntervalOfCardSaid : Prop := Claim7.holds Tryd.pinned (.plain (OpenSpec.ofChange intervalOfSpec)) intervalOfCard

/-- THE TIED CARD OF 'rayconelaw2.CongrMeet'. -/
def congrMeetCard : Claim7 := { stood := { row := congrMeetRow, standIns := [], harness := (true, "e91fd07993000136d02446504c2a6dffb591165ace9c10d69eb03d3efd0f1687"), looks := true }, kinds := [], alts := [], laidByText := true, laidKinds := [.handle, .sentinel, .sentinel, .sentinel, .sentinel, .sentinel, .sentinel, .sentinel, .sentinel], laidTests := true, laidLooks := .later }
def CongrMeetCardSaid : Prop := Claim7.holds Tryd.pinned (.plain (OpenSpec.ofChange congrMeetSpec)) congrMeetCard

/-- THE TIED CARD OF 'rayconelaw2.CongrJoin'. -/
def congrJoinCard : Claim7 := { stood := { row := congrJoinRow, standIns := [], harness := (true, "e91fd07993000136d02446504c2a6dffb591165ace9c10d69eb03d3efd0f1687"), looks := true }, kinds := [], alts := [], laidByText := true, laidKinds := [.handle, .sentinel, .sentinel, .sentinel, .sentinel, .sentinel, .sentinel, .sentinel, .sentinel], laidTests := true, laidLooks := .later }
def CongrJoinCardSaid : Prop := Claim7.holds Tryd.pinned (.plain (OpenSpec.ofChange congrJoinSpec)) congrJoinCard

/-- THE TIED CARD OF 'rayconelaw2.CongrOf'. -/
def congrOfCard : Claim7 := { stood := { row := congrOfRow, standIns := [], harness := (true, "e91fd07993000136d02446504c2a6dffb591165ace9c10d69eb03d3efd0f1687"), looks := true }, kinds := [], alts := [], laidByText := true, laidKinds := [.handle, .sentinel, .sentinel, .sentinel, .sentinel, .sentinel, .sentinel, .sentinel, .sentinel], laidTests := true, laidLooks := .later }
def CongrOfCardSaid : Prop := Claim7.holds Tryd.pinned (.plain (OpenSpec.ofChange congrOfSpec)) congrOfCard

/-- THE TIED CARD OF 'rayconelaw2.IntervalLattice'. -/
def intervalLatticeCard : Claim7 := { stood := { row := intervalLatticeRow, standIns := [], harness := (true, "e91fd07993000136d02446504c2a6dffb591165ace9c10d69eb03d3efd0f1687"), looks := true }, kinds := [], alts := [], laidByText := true, laidKinds := [.handle, .sentinel, .sentinel, .sentinel, .sentinel, .sentinel, .sentinel, .sentinel, .sentinel], laidTests := true, laidLooks := .later }
def IntervalLatticeCardSaid : Prop := Claim7.holds Tryd.pinned (.plain (OpenSpec.ofChange intervalLatticeSpec)) intervalLatticeCard

/-- THE TIED CARD OF 'rayconelaw2.IntervalWiden'. -/
def intervalWidenCard : Claim7 := { stood := { row := intervalWidenRow, standIns := [], harness := (true, "e91fd07993000136d02446504c2a6dffb591165ace9c10d69eb03d3efd0f1687"), looks := true }, kinds := [], alts := [], laidByText := true, laidKinds := [.handle, .sentinel, .sentinel, .sentinel, .sentinel, .sentinel, .sentinel, .sentinel, .sentinel], laidTests := true, laidLooks := .later }
def IntervalWidenCardSaid : Prop := Claim7.holds Tryd.pinned (.plain (OpenSpec.ofChange intervalWidenSpec)) intervalWidenCard

/-- THE TIED CARD OF 'rayconelaw2.IntervalRefine'. -/
def intervalRefineCard : Claim7 := { stood := { row := intervalRefineRow, standIns := [], harness := (true, "e91fd07993000136d02446504c2a6dffb591165ace9c10d69eb03d3efd0f1687"), looks := true }, kinds := [], alts := [], laidByText := true, laidKinds := [.handle, .sentinel, .sentinel, .sentinel, .sentinel, .sentinel, .sentinel, .sentinel, .sentinel], laidTests := true, laidLooks := .later }
def IntervalRefineCardSaid : Prop := Claim7.holds Tryd.pinned (.plain (OpenSpec.ofChange intervalRefineSpec)) intervalRefineCard

/-- THE TIED CARD OF 'rayconelaw2.CongrDone'. -/
def congrDoneCard : Claim7 := { stood := { row := congrDoneRow, standIns := [], harness := (true, "e91fd07993000136d02446504c2a6dffb591165ace9c10d69eb03d3efd0f1687"), looks := true }, kinds := [], alts := [], laidByText := true, laidKinds := [.handle, .sentinel, .sentinel, .sentinel, .sentinel, .sentinel, .sentinel, .sentinel, .sentinel], laidTests := true, laidLooks := .later }
def CongrDoneCardSaid : Prop := Claim7.holds Tryd.pinned (.plain (OpenSpec.ofChange congrDoneSpec)) congrDoneCard

/-- THE TIED CARD OF 'rayconelaw2.CongrTight'. -/
def congrTightCard : Claim7 := { stood := { row := congrTightRow, standIns := [], harness := (true, "e91fd07993000136d02446504c2a6dffb591165ace9c10d69eb03d3efd0f1687"), looks := true }, kinds := [], alts := [], laidByText := true, laidKinds := [.handle, .sentinel, .sentinel, .sentinel, .sentinel, .sentinel, .sentinel, .sentinel, .sentinel], laidTests := true, laidLooks := .later }
def CongrTightCardSaid : Prop := Claim7.holds Tryd.pinned (.plain (OpenSpec.ofChange congrTightSpec)) congrTightCard

/-- THE SECOND FORM's CARD OF 'rayconelaw2.IntervalOf'. -/
def intervalOfUptoCard : Claim7 := { stood := { row := intervalOfUptoRow, standIns := [], harness := (true, "e91fd07993000136d02446504c2a6dffb591165ace9c10d69eb03d3efd0f1687"), looks := true }, kinds := [], alts := [], laidByText := true, laidKinds := [.handle, .sentinel, .sentinel, .sentinel, .sentinel, .sentinel, .sentinel, .sentinel, .sentinel], laidTests := true, laidLooks := .later }
def IntervalOfUptoCardSaid : Prop := Claim7.holds Tryd.pinned (.plain (OpenSpec.upto intervalOfSpec)) intervalOfUptoCard

/-- THE SECOND FORM's CARD OF 'rayconelaw2.CongrMeet'. -/
def congrMeetUptoCard : Claim7 := { stood := { row := congrMeetUptoRow, standIns := [], harness := (true, "e91fd07993000136d02446504c2a6dffb591165ace9c10d69eb03d3efd0f1687"), looks := true }, kinds := [], alts := [], laidByText := true, laidKinds := [.handle, .sentinel, .sentinel, .sentinel, .sentinel, .sentinel, .sentinel, .sentinel, .sentinel], laidTests := true, laidLooks := .later }
def CongrMeetUptoCardSaid : Prop := Claim7.holds Tryd.pinned (.plain (OpenSpec.upto congrMeetSpec)) congrMeetUptoCard

/-- THE SECOND FORM's CARD OF 'rayconelaw2.CongrJoin'. -/
def congrJoinUptoCard : Claim7 := { stood := { row := congrJoinUptoRow, standIns := [], harness := (true, "e91fd07993000136d02446504c2a6dffb591165ace9c10d69eb03d3efd0f1687"), looks := true }, kinds := [], alts := [], laidByText := true, laidKinds := [.handle, .sentinel, .sentinel, .sentinel, .sentinel, .sentinel, .sentinel, .sentinel, .sentinel], laidTests := true, laidLooks := .later }
def CongrJoinUptoCardSaid : Prop := Claim7.holds Tryd.pinned (.plain (OpenSpec.upto congrJoinSpec)) congrJoinUptoCard

/-- THE SECOND FORM's CARD OF 'rayconelaw2.CongrOf'. -/
def congrOfUptoCard : Claim7 := { stood := { row := congrOfUptoRow, standIns := [], harness := (true, "e91fd07993000136d02446504c2a6dffb591165ace9c10d69eb03d3efd0f1687"), looks := true }, kinds := [], alts := [], laidByText := true, laidKinds := [.handle, .sentinel, .sentinel, .sentinel, .sentinel, .sentinel, .sentinel, .sentinel, .sentinel], laidTests := true, laidLooks := .later }
def CongrOfUptoCardSaid : Prop := Claim7.holds Tryd.pinned (.plain (OpenSpec.upto congrOfSpec)) congrOfUptoCard

/-- THE SECOND FORM's CARD OF 'rayconelaw2.IntervalLattice'. -/
def intervalLatticeUptoCard : Claim7 := { stood := { row := intervalLatticeUptoRow, standIns := [], harness := (true, "e91fd07993000136d02446504c2a6dffb591165ace9c10d69eb03d3efd0f1687"), looks := true }, kinds := [], alts := [], laidByText := true, laidKinds := [.handle, .sentinel, .sentinel, .sentinel, .sentinel, .sentinel, .sentinel, .sentinel, .sentinel], laidTests := true, laidLooks := .later }
def IntervalLatticeUptoCardSaid : Prop := Claim7.holds Tryd.pinned (.plain (OpenSpec.upto intervalLatticeSpec)) intervalLatticeUptoCard

/-- THE SECOND FORM's CARD OF 'rayconelaw2.IntervalWiden'. -/
def intervalWidenUptoCard : Claim7 := { stood := { row := intervalWidenUptoRow, standIns := [], harness := (true, "e91fd07993000136d02446504c2a6dffb591165ace9c10d69eb03d3efd0f1687"), looks := true }, kinds := [], alts := [], laidByText := true, laidKinds := [.handle, .sentinel, .sentinel, .sentinel, .sentinel, .sentinel, .sentinel, .sentinel, .sentinel], laidTests := true, laidLooks := .later }
def IntervalWidenUptoCardSaid : Prop := Claim7.holds Tryd.pinned (.plain (OpenSpec.upto intervalWidenSpec)) intervalWidenUptoCard

/-- THE SECOND FORM's CARD OF 'rayconelaw2.IntervalRefine'. -/
def intervalRefineUptoCard : Claim7 := { stood := { row := intervalRefineUptoRow, standIns := [], harness := (true, "e91fd07993000136d02446504c2a6dffb591165ace9c10d69eb03d3efd0f1687"), looks := true }, kinds := [], alts := [], laidByText := true, laidKinds := [.handle, .sentinel, .sentinel, .sentinel, .sentinel, .sentinel, .sentinel, .sentinel, .sentinel], laidTests := true, laidLooks := .later }
def IntervalRefineUptoCardSaid : Prop := Claim7.holds Tryd.pinned (.plain (OpenSpec.upto intervalRefineSpec)) intervalRefineUptoCard

/-- THE SECOND FORM's CARD OF 'rayconelaw2.CongrDone'. -/
def congrDoneUptoCard : Claim7 := { stood := { row := congrDoneUptoRow, standIns := [], harness := (true, "e91fd07993000136d02446504c2a6dffb591165ace9c10d69eb03d3efd0f1687"), looks := true }, kinds := [], alts := [], laidByText := true, laidKinds := [.handle, .sentinel, .sentinel, .sentinel, .sentinel, .sentinel, .sentinel, .sentinel, .sentinel], laidTests := true, laidLooks := .later }
def CongrDoneUptoCardSaid : Prop := Claim7.holds Tryd.pinned (.plain (OpenSpec.upto congrDoneSpec)) congrDoneUptoCard

/-- THE SECOND FORM's CARD OF 'rayconelaw2.CongrTight'. -/
def congrTightUptoCard : Claim7 := { stood := { row := congrTightUptoRow, standIns := [], harness := (true, "e91fd07993000136d02446504c2a6dffb591165ace9c10d69eb03d3efd0f1687"), looks := true }, kinds := [], alts := [], laidByText := true, laidKinds := [.handle, .sentinel, .sentinel, .sentinel, .sentinel, .sentinel, .sentinel, .sentinel, .sentinel], laidTests := true, laidLooks := .later }
def CongrTightUptoCardSaid : Prop := Claim7.holds Tryd.pinned (.plain (OpenSpec.upto congrTightSpec)) congrTightUptoCard
end Rows
end Go.Proofs.YtimgfgambeffeaaDoor
