/-
  NARROWER THAN 'FOR EVERY INPUT', by the rows' own cells (each row's printed sentence says how): ZoneClose: laid · IntervalRefine: laid · ZoneWiden: laid · OctClose: laid · ZoneLattice: laid · OctGuard: laid · ZoneChanges: laid · OctWiden: laid · OctLattice: laid · OctChanges: laid · OctZone: laid.
  DERIVED. THE GIVEN ROWS OF THIS SEAT. 11 by the template 'for every input the law returns true; each argument reads behind the call as it read before'; 0 by the template 'total and deterministic' (their statements: YtcalcnfppnbooaaDoorTotals.lean).
  GIVEN WITH THE SEED: the statements are not yours to turn. If you find one false, say at which input.
  Laid BY PROGRAM, IN A SANDBOX (cutbox-rows.mjs): the forced cells as the released guide's own fill.sh prints them over the translation 7efd88912480d545… (all of the seat's roots in one cut). By AI agents, Wed Nov 11 2026. No macro, syntax, notation, axiom, sorry.
-/
import Derived.Test.YtcalcnfppnbooaaDoorChecked
import GoSem.Claim
import GoSem.ClaimJoined
import GoSem.ClaimMapViews
import Derived.JoinedTies
import Derived.KernelRfl
namespace Go.Proofs.YtcalcnfppnbooaaDoor
/- THE CELL 'sum', in the pinned program and in every row, IS THE sha256 OF THE DUMP (.gsa) THAT YtcalcnfppnbooaaDoorProg.lean LOADS. Nothing in Lean hashes anything: it is a label: what it is worth is what the hold of that sum in a sandbox is worth. -/
noncomputable def Tryd.pinned : Pinned := { name := "ytcalcnfppnbooaadoor", sum := "7efd88912480d5456eb2d38cccce906651d123ed17e47033d19873544336f52c", checked := Tryd.checked }
namespace Rows
def none {H : Type} : Left H := { results := [], args := [] }

/- WHAT THE LISTED PACKAGE-LEVEL VARIABLES READ AS WHEN THE CALL BEGINS. Each datum BY PROGRAM (the guide's laid-datum.mjs) off the statement by which the dump's own 'gosem.cut.vars' lays the variable. In a bare row this is a premise. The card (YtcalcnfppnbooaaDoorCards.lean) ties it to the program's text. -/
def laid_errors_errorType {H : Type} : DataW H := .iface "internal/reflectlite.rtype" (.agg [.ptr (.lit (.string [101, 114, 114, 111, 114]))])
def laid_raycone_api_ErrText {H : Type} : DataW H := .iface "*errors.errorString" (.ptr (.agg [.lit (.string [114, 97, 121, 99, 111, 110, 101, 58, 32, 116, 101, 120, 116])]))
def laid_raycone_api_ErrBound {H : Type} : DataW H := .iface "*errors.errorString" (.ptr (.agg [.lit (.string [114, 97, 121, 99, 111, 110, 101, 58, 32, 98, 111, 117, 110, 100])]))
def laid_raycone_api_ErrShape {H : Type} : DataW H := .iface "*errors.errorString" (.ptr (.agg [.lit (.string [114, 97, 121, 99, 111, 110, 101, 58, 32, 115, 104, 97, 112, 101])]))
def laid_raycone_api_ErrEmpty {H : Type} : DataW H := .iface "*errors.errorString" (.ptr (.agg [.lit (.string [114, 97, 121, 99, 111, 110, 101, 58, 32, 101, 109, 112, 116, 121])]))
def laid_raycone_api_ErrName {H : Type} : DataW H := .iface "*errors.errorString" (.ptr (.agg [.lit (.string [114, 97, 121, 99, 111, 110, 101, 58, 32, 110, 97, 109, 101])]))
def laid_raycone_api_ErrNone {H : Type} : DataW H := .iface "*errors.errorString" (.ptr (.agg [.lit (.string [114, 97, 121, 99, 111, 110, 101, 58, 32, 110, 111, 110, 101])]))
def laid_raycone_api_ErrOrder {H : Type} : DataW H := .iface "*errors.errorString" (.ptr (.agg [.lit (.string [114, 97, 121, 99, 111, 110, 101, 58, 32, 111, 114, 100, 101, 114])]))
def laid_raycone_api_ErrProof {H : Type} : DataW H := .iface "*errors.errorString" (.ptr (.agg [.lit (.string [114, 97, 121, 99, 111, 110, 101, 58, 32, 112, 114, 111, 111, 102])]))

/-- 'rayconelaw2.ZoneClose': WHATEVER THE INPUT: true; the input reads as it did. -/
def zoneCloseSpec : ChangeSpec := { name := "zoneClose", fn := fun _ => fun
  | [d1, d2] => { results := [.lit (.bool true)], args := [d1, d2] }
  | _ => none }
def zoneCloseRow : OpenClaim := { program := "ytcalcnfppnbooaadoor", sum := "7efd88912480d5456eb2d38cccce906651d123ed17e47033d19873544336f52c", func := "raycone/rayconelaw2.ZoneClose", spec := "zoneClose", inPlace := ["internal/reflectlite.ValueOf", "(internal/reflectlite.Value).Type", "(internal/reflectlite.Value).IsNil", "internal/reflectlite.TypeOf", "(internal/reflectlite.Value).Elem", "(internal/reflectlite.Value).Set"], unfollowed := true, recurses := true, named := ["raycone/api.ErrBound", "raycone/api.ErrShape", "raycone/api.ErrText", "raycone/api.ErrEmpty", "raycone/api.ErrName", "raycone/api.ErrNone", "raycone/api.ErrOrder", "raycone/api.ErrProof", "errors.errorType"], apart := false, laid := [("errors.errorType", laid_errors_errorType), ("raycone/api.ErrText", laid_raycone_api_ErrText), ("raycone/api.ErrBound", laid_raycone_api_ErrBound), ("raycone/api.ErrShape", laid_raycone_api_ErrShape), ("raycone/api.ErrEmpty", laid_raycone_api_ErrEmpty), ("raycone/api.ErrName", laid_raycone_api_ErrName), ("raycone/api.ErrNone", laid_raycone_api_ErrNone), ("raycone/api.ErrOrder", laid_raycone_api_ErrOrder), ("raycone/api.ErrProof", laid_raycone_api_ErrProof)] }
def ZoneCloseSaid : Prop := zoneCloseRow.holds Tryd.pinned (OpenSpec.ofChange zoneCloseSpec)

/-- ITS FALSE NEIGHBOUR: 'it returns false'. Refute it at one input. -/
def zoneCloseWrong : ChangeSpec := { name := "zoneClose", fn := fun _ => fun
  | [d1, d2] => { results := [.lit (.bool false)], args := [d1, d2] }
  | _ => none }
def ZoneCloseWrongFalsely : Prop := zoneCloseRow.holds Tryd.pinned (OpenSpec.ofChange zoneCloseWrong)

/-- 'rayconelaw2.IntervalRefine': WHATEVER THE INPUT: true; the input reads as it did. -/
def intervalRefineSpec : ChangeSpec := { name := "intervalRefine", fn := fun _ => fun
  | [d1, d2, d3] => { results := [.lit (.bool true)], args := [d1, d2, d3] }
  | _ => none }
def intervalRefineRow : OpenClaim := { program := "ytcalcnfppnbooaadoor", sum := "7efd88912480d5456eb2d38cccce906651d123ed17e47033d19873544336f52c", func := "raycone/rayconelaw2.IntervalRefine", spec := "intervalRefine", inPlace := ["internal/reflectlite.ValueOf", "(internal/reflectlite.Value).Type", "(internal/reflectlite.Value).IsNil", "internal/reflectlite.TypeOf", "(internal/reflectlite.Value).Elem", "(internal/reflectlite.Value).Set"], unfollowed := true, recurses := true, named := ["raycone/api.ErrShape", "raycone/api.ErrBound", "raycone/api.ErrText", "raycone/api.ErrEmpty", "raycone/api.ErrName", "raycone/api.ErrNone", "raycone/api.ErrOrder", "raycone/api.ErrProof", "errors.errorType"], apart := false, laid := [("errors.errorType", laid_errors_errorType), ("raycone/api.ErrText", laid_raycone_api_ErrText), ("raycone/api.ErrBound", laid_raycone_api_ErrBound), ("raycone/api.ErrShape", laid_raycone_api_ErrShape), ("raycone/api.ErrEmpty", laid_raycone_api_ErrEmpty), ("raycone/api.ErrName", laid_raycone_api_ErrName), ("raycone/api.ErrNone", laid_raycone_api_ErrNone), ("raycone/api.ErrOrder", laid_raycone_api_ErrOrder), ("raycone/api.ErrProof", laid_raycone_api_ErrProof)] }
def IntervalRefineSaid : Prop := intervalRefineRow.holds Tryd.pinned (OpenSpec.ofChange intervalRefineSpec)

/-- ITS FALSE NEIGHBOUR: 'it returns false'. Refute it at one input. -/
def intervalRefineWrong : ChangeSpec := { name := "intervalRefine", fn := fun _ => fun
  | [d1, d2, d3] => { results := [.lit (.bool false)], args := [d1, d2, d3] }
  | _ => none }
def IntervalRefineWrongFalsely : Prop := intervalRefineRow.holds Tryd.pinned (OpenSpec.ofChange intervalRefineWrong)

/-- 'rayconelaw2.ZoneWiden': WHATEVER THE INPUT: true; the input reads as it did. -/
def zoneWidenSpec : ChangeSpec := { name := "zoneWiden", fn := fun _ => fun
  | [d1, d2, d3] => { results := [.lit (.bool true)], args := [d1, d2, d3] }
  | _ => none }
def zoneWidenRow : OpenClaim := { program := "ytcalcnfppnbooaadoor", sum := "7efd88912480d5456eb2d38cccce906651d123ed17e47033d19873544336f52c", func := "raycone/rayconelaw2.ZoneWiden", spec := "zoneWiden", inPlace := ["internal/reflectlite.ValueOf", "(internal/reflectlite.Value).Type", "(internal/reflectlite.Value).IsNil", "internal/reflectlite.TypeOf", "(internal/reflectlite.Value).Elem", "(internal/reflectlite.Value).Set"], unfollowed := true, recurses := true, named := ["raycone/api.ErrBound", "raycone/api.ErrShape", "raycone/api.ErrText", "raycone/api.ErrEmpty", "raycone/api.ErrName", "raycone/api.ErrNone", "raycone/api.ErrOrder", "raycone/api.ErrProof", "errors.errorType"], apart := false, laid := [("errors.errorType", laid_errors_errorType), ("raycone/api.ErrText", laid_raycone_api_ErrText), ("raycone/api.ErrBound", laid_raycone_api_ErrBound), ("raycone/api.ErrShape", laid_raycone_api_ErrShape), ("raycone/api.ErrEmpty", laid_raycone_api_ErrEmpty), ("raycone/api.ErrName", laid_raycone_api_ErrName), ("raycone/api.ErrNone", laid_raycone_api_ErrNone), ("raycone/api.ErrOrder", laid_raycone_api_ErrOrder), ("raycone/api.ErrProof", laid_raycone_api_ErrProof)] }
def ZoneWidenSaid : Prop := zoneWidenRow.holds Tryd.pinned (OpenSpec.ofChange zoneWidenSpec)

/-- ITS FALSE NEIGHBOUR: 'it returns false'. Refute it at one input. -/
def zoneWidenWrong : ChangeSpec := { name := "zoneWiden", fn := fun _ => fun
  | [d1, d2, d3] => { results := [.lit (.bool false)], args := [d1, d2, d3] }
  | _ => none }
def ZoneWidenWrongFalsely : Prop := zoneWidenRow.holds Tryd.pinned (OpenSpec.ofChange zoneWidenWrong)

/-- 'rayconelaw2.OctClose': WHATEVER THE INPUT: true; the input reads as it did. -/
def octCloseSpec : ChangeSpec := { name := "octClose", fn := fun _ => fun
  | [d1, d2] => { results := [.lit (.bool true)], args := [d1, d2] }
  | _ => none }
def octCloseRow : OpenClaim := { program := "ytcalcnfppnbooaadoor", sum := "7efd88912480d5456eb2d38cccce906651d123ed17e47033d19873544336f52c", func := "raycone/rayconelaw2.OctClose", spec := "octClose", inPlace := ["internal/reflectlite.ValueOf", "(internal/reflectlite.Value).Type", "(internal/reflectlite.Value).IsNil", "internal/reflectlite.TypeOf", "(internal/reflectlite.Value).Elem", "(internal/reflectlite.Value).Set"], unfollowed := true, recurses := true, named := ["raycone/api.ErrBound", "raycone/api.ErrShape", "raycone/api.ErrOrder", "raycone/api.ErrText", "raycone/api.ErrEmpty", "raycone/api.ErrName", "raycone/api.ErrNone", "raycone/api.ErrProof", "errors.errorType"], apart := false, laid := [("errors.errorType", laid_errors_errorType), ("raycone/api.ErrText", laid_raycone_api_ErrText), ("raycone/api.ErrBound", laid_raycone_api_ErrBound), ("raycone/api.ErrShape", laid_raycone_api_ErrShape), ("raycone/api.ErrEmpty", laid_raycone_api_ErrEmpty), ("raycone/api.ErrName", laid_raycone_api_ErrName), ("raycone/api.ErrNone", laid_raycone_api_ErrNone), ("raycone/api.ErrOrder", laid_raycone_api_ErrOrder), ("raycone/api.ErrProof", laid_raycone_api_ErrProof)] }
def OctCloseSaid : Prop := octCloseRow.holds Tryd.pinned (OpenSpec.ofChange octCloseSpec)

/-- ITS FALSE NEIGHBOUR: 'it returns false'. Refute it at one input. -/
def octCloseWrong : ChangeSpec := { name := "octClose", fn := fun _ => fun
  | [d1, d2] => { results := [.lit (.bool false)], args := [d1, d2] }
  | _ => none }
def OctCloseWrongFalsely : Prop := octCloseRow.holds Tryd.pinned (OpenSpec.ofChange octCloseWrong)

/-- 'rayconelaw2.ZoneLattice': WHATEVER THE INPUT: true; the input reads as it did. -/
def zoneLatticeSpec : ChangeSpec := { name := "zoneLattice", fn := fun _ => fun
  | [d1, d2] => { results := [.lit (.bool true)], args := [d1, d2] }
  | _ => none }
def zoneLatticeRow : OpenClaim := { program := "ytcalcnfppnbooaadoor", sum := "7efd88912480d5456eb2d38cccce906651d123ed17e47033d19873544336f52c", func := "raycone/rayconelaw2.ZoneLattice", spec := "zoneLattice", inPlace := ["internal/reflectlite.ValueOf", "(internal/reflectlite.Value).Type", "(internal/reflectlite.Value).IsNil", "internal/reflectlite.TypeOf", "(internal/reflectlite.Value).Elem", "(internal/reflectlite.Value).Set"], unfollowed := true, recurses := true, named := ["raycone/api.ErrBound", "raycone/api.ErrShape", "raycone/api.ErrEmpty", "raycone/api.ErrText", "raycone/api.ErrName", "raycone/api.ErrNone", "raycone/api.ErrOrder", "raycone/api.ErrProof", "errors.errorType"], apart := false, laid := [("errors.errorType", laid_errors_errorType), ("raycone/api.ErrText", laid_raycone_api_ErrText), ("raycone/api.ErrBound", laid_raycone_api_ErrBound), ("raycone/api.ErrShape", laid_raycone_api_ErrShape), ("raycone/api.ErrEmpty", laid_raycone_api_ErrEmpty), ("raycone/api.ErrName", laid_raycone_api_ErrName), ("raycone/api.ErrNone", laid_raycone_api_ErrNone), ("raycone/api.ErrOrder", laid_raycone_api_ErrOrder), ("raycone/api.ErrProof", laid_raycone_api_ErrProof)] }
def ZoneLatticeSaid : Prop := zoneLatticeRow.holds Tryd.pinned (OpenSpec.ofChange zoneLatticeSpec)

/-- ITS FALSE NEIGHBOUR: 'it returns false'. Refute it at one input. -/
def zoneLatticeWrong : ChangeSpec := { name := "zoneLattice", fn := fun _ => fun
  | [d1, d2] => { results := [.lit (.bool false)], args := [d1, d2] }
  | _ => none }
def ZoneLatticeWrongFalsely : Prop := zoneLatticeRow.holds Tryd.pinned (OpenSpec.ofChange zoneLatticeWrong)

/-- 'rayconelaw2.OctGuard': WHATEVER THE INPUT: true; the input reads as it did. -/
def octGuardSpec : ChangeSpec := { name := "octGuard", fn := fun _ => fun
  | [d1, d2, d3, d4, d5, d6] => { results := [.lit (.bool true)], args := [d1, d2, d3, d4, d5, d6] }
  | _ => none }
def octGuardRow : OpenClaim := { program := "ytcalcnfppnbooaadoor", sum := "7efd88912480d5456eb2d38cccce906651d123ed17e47033d19873544336f52c", func := "raycone/rayconelaw2.OctGuard", spec := "octGuard", inPlace := ["internal/reflectlite.ValueOf", "(internal/reflectlite.Value).Type", "(internal/reflectlite.Value).IsNil", "internal/reflectlite.TypeOf", "(internal/reflectlite.Value).Elem", "(internal/reflectlite.Value).Set"], unfollowed := true, recurses := true, named := ["raycone/api.ErrBound", "raycone/api.ErrShape", "raycone/api.ErrOrder", "raycone/api.ErrText", "raycone/api.ErrEmpty", "raycone/api.ErrName", "raycone/api.ErrNone", "raycone/api.ErrProof", "errors.errorType"], apart := false, laid := [("errors.errorType", laid_errors_errorType), ("raycone/api.ErrText", laid_raycone_api_ErrText), ("raycone/api.ErrBound", laid_raycone_api_ErrBound), ("raycone/api.ErrShape", laid_raycone_api_ErrShape), ("raycone/api.ErrEmpty", laid_raycone_api_ErrEmpty), ("raycone/api.ErrName", laid_raycone_api_ErrName), ("raycone/api.ErrNone", laid_raycone_api_ErrNone), ("raycone/api.ErrOrder", laid_raycone_api_ErrOrder), ("raycone/api.ErrProof", laid_raycone_api_ErrProof)] }
def OctGuardSaid : Prop := octGuardRow.holds Tryd.pinned (OpenSpec.ofChange octGuardSpec)

/-- ITS FALSE NEIGHBOUR: 'it returns false'. Refute it at one input. -/
def octGuardWrong : ChangeSpec := { name := "octGuard", fn := fun _ => fun
  | [d1, d2, d3, d4, d5, d6] => { results := [.lit (.bool false)], args := [d1, d2, d3, d4, d5, d6] }
  | _ => none }
def OctGuardWrongFalsely : Prop := octGuardRow.holds Tryd.pinned (OpenSpec.ofChange octGuardWrong)

/-- 'rayconelaw2.ZoneChanges': WHATEVER THE INPUT: true; the input reads as it did. -/
def zoneChangesSpec : ChangeSpec := { name := "zoneChanges", fn := fun _ => fun
  | [d1, d2, d3, d4] => { results := [.lit (.bool true)], args := [d1, d2, d3, d4] }
  | _ => none }
def zoneChangesRow : OpenClaim := { program := "ytcalcnfppnbooaadoor", sum := "7efd88912480d5456eb2d38cccce906651d123ed17e47033d19873544336f52c", func := "raycone/rayconelaw2.ZoneChanges", spec := "zoneChanges", inPlace := ["internal/reflectlite.ValueOf", "(internal/reflectlite.Value).Type", "(internal/reflectlite.Value).IsNil", "internal/reflectlite.TypeOf", "(internal/reflectlite.Value).Elem", "(internal/reflectlite.Value).Set"], unfollowed := true, recurses := true, named := ["raycone/api.ErrBound", "raycone/api.ErrShape", "raycone/api.ErrText", "raycone/api.ErrEmpty", "raycone/api.ErrName", "raycone/api.ErrNone", "raycone/api.ErrOrder", "raycone/api.ErrProof", "errors.errorType"], apart := false, laid := [("errors.errorType", laid_errors_errorType), ("raycone/api.ErrText", laid_raycone_api_ErrText), ("raycone/api.ErrBound", laid_raycone_api_ErrBound), ("raycone/api.ErrShape", laid_raycone_api_ErrShape), ("raycone/api.ErrEmpty", laid_raycone_api_ErrEmpty), ("raycone/api.ErrName", laid_raycone_api_ErrName), ("raycone/api.ErrNone", laid_raycone_api_ErrNone), ("raycone/api.ErrOrder", laid_raycone_api_ErrOrder), ("raycone/api.ErrProof", laid_raycone_api_ErrProof)] }
def ZoneChangesSaid : Prop := zoneChangesRow.holds Tryd.pinned (OpenSpec.ofChange zoneChangesSpec)

/-- ITS FALSE NEIGHBOUR: 'it returns false'. Refute it at one input. -/
def zoneChangesWrong : ChangeSpec := { name := "zoneChanges", fn := fun _ => fun
  | [d1, d2, d3, d4] => { results := [.lit (.bool false)], args := [d1, d2, d3, d4] }
  | _ => none }
def ZoneChangesWrongFalsely : Prop := zoneChangesRow.holds Tryd.pinned (OpenSpec.ofChange zoneChangesWrong)

/-- 'rayconelaw2.OctWiden': WHATEVER THE INPUT: true; the input reads as it did. -/
def octWidenSpec : ChangeSpec := { name := "octWiden", fn := fun _ => fun
  | [d1, d2, d3] => { results := [.lit (.bool true)], args := [d1, d2, d3] }
  | _ => none }
def octWidenRow : OpenClaim := { program := "ytcalcnfppnbooaadoor", sum := "7efd88912480d5456eb2d38cccce906651d123ed17e47033d19873544336f52c", func := "raycone/rayconelaw2.OctWiden", spec := "octWiden", inPlace := ["internal/reflectlite.ValueOf", "(internal/reflectlite.Value).Type", "(internal/reflectlite.Value).IsNil", "internal/reflectlite.TypeOf", "(internal/reflectlite.Value).Elem", "(internal/reflectlite.Value).Set"], unfollowed := true, recurses := true, named := ["raycone/api.ErrBound", "raycone/api.ErrShape", "raycone/api.ErrOrder", "raycone/api.ErrText", "raycone/api.ErrEmpty", "raycone/api.ErrName", "raycone/api.ErrNone", "raycone/api.ErrProof", "errors.errorType"], apart := false, laid := [("errors.errorType", laid_errors_errorType), ("raycone/api.ErrText", laid_raycone_api_ErrText), ("raycone/api.ErrBound", laid_raycone_api_ErrBound), ("raycone/api.ErrShape", laid_raycone_api_ErrShape), ("raycone/api.ErrEmpty", laid_raycone_api_ErrEmpty), ("raycone/api.ErrName", laid_raycone_api_ErrName), ("raycone/api.ErrNone", laid_raycone_api_ErrNone), ("raycone/api.ErrOrder", laid_raycone_api_ErrOrder), ("raycone/api.ErrProof", laid_raycone_api_ErrProof)] }
def OctWidenSaid : Prop := octWidenRow.holds Tryd.pinned (OpenSpec.ofChange octWidenSpec)

/-- ITS FALSE NEIGHBOUR: 'it returns false'. Refute it at one input. -/
def octWidenWrong : ChangeSpec := { name := "octWiden", fn := fun _ => fun
  | [d1, d2, d3] => { results := [.lit (.bool false)], args := [d1, d2, d3] }
  | _ => none }
def OctWidenWrongFalsely : Prop := octWidenRow.holds Tryd.pinned (OpenSpec.ofChange octWidenWrong)

/-- 'rayconelaw2.OctLattice': WHATEVER THE INPUT: true; the input reads as it did. -/
def octLatticeSpec : ChangeSpec := { name := "octLattice", fn := fun _ => fun
  | [d1, d2] => { results := [.lit (.bool true)], args := [d1, d2] }
  | _ => none }
def octLatticeRow : OpenClaim := { program := "ytcalcnfppnbooaadoor", sum := "7efd88912480d5456eb2d38cccce906651d123ed17e47033d19873544336f52c", func := "raycone/rayconelaw2.OctLattice", spec := "octLattice", inPlace := ["internal/reflectlite.ValueOf", "(internal/reflectlite.Value).Type", "(internal/reflectlite.Value).IsNil", "internal/reflectlite.TypeOf", "(internal/reflectlite.Value).Elem", "(internal/reflectlite.Value).Set"], unfollowed := true, recurses := true, named := ["raycone/api.ErrBound", "raycone/api.ErrShape", "raycone/api.ErrOrder", "raycone/api.ErrEmpty", "raycone/api.ErrText", "raycone/api.ErrName", "raycone/api.ErrNone", "raycone/api.ErrProof", "errors.errorType"], apart := false, laid := [("errors.errorType", laid_errors_errorType), ("raycone/api.ErrText", laid_raycone_api_ErrText), ("raycone/api.ErrBound", laid_raycone_api_ErrBound), ("raycone/api.ErrShape", laid_raycone_api_ErrShape), ("raycone/api.ErrEmpty", laid_raycone_api_ErrEmpty), ("raycone/api.ErrName", laid_raycone_api_ErrName), ("raycone/api.ErrNone", laid_raycone_api_ErrNone), ("raycone/api.ErrOrder", laid_raycone_api_ErrOrder), ("raycone/api.ErrProof", laid_raycone_api_ErrProof)] }
def OctLatticeSaid : Prop := octLatticeRow.holds Tryd.pinned (OpenSpec.ofChange octLatticeSpec)

/-- ITS FALSE NEIGHBOUR: 'it returns false'. Refute it at one input. -/
def octLatticeWrong : ChangeSpec := { name := "octLattice", fn := fun _ => fun
  | [d1, d2] => { results := [.lit (.bool false)], args := [d1, d2] }
  | _ => none }
def OctLatticeWrongFalsely : Prop := octLatticeRow.holds Tryd.pinned (OpenSpec.ofChange octLatticeWrong)

/-- 'rayconelaw2.OctChanges': WHATEVER THE INPUT: true; the input reads as it did. -/
def octChangesSpec : ChangeSpec := { name := "octChanges", fn := fun _ => fun
  | [d1, d2, d3, d4, d5] => { results := [.lit (.bool true)], args := [d1, d2, d3, d4, d5] }
  | _ => none }
def octChangesRow : OpenClaim := { program := "ytcalcnfppnbooaadoor", sum := "7efd88912480d5456eb2d38cccce906651d123ed17e47033d19873544336f52c", func := "raycone/rayconelaw2.OctChanges", spec := "octChanges", inPlace := ["internal/reflectlite.ValueOf", "(internal/reflectlite.Value).Type", "(internal/reflectlite.Value).IsNil", "internal/reflectlite.TypeOf", "(internal/reflectlite.Value).Elem", "(internal/reflectlite.Value).Set"], unfollowed := true, recurses := true, named := ["raycone/api.ErrBound", "raycone/api.ErrShape", "raycone/api.ErrOrder", "raycone/api.ErrText", "raycone/api.ErrEmpty", "raycone/api.ErrName", "raycone/api.ErrNone", "raycone/api.ErrProof", "errors.errorType"], apart := false, laid := [("errors.errorType", laid_errors_errorType), ("raycone/api.ErrText", laid_raycone_api_ErrText), ("raycone/api.ErrBound", laid_raycone_api_ErrBound), ("raycone/api.ErrShape", laid_raycone_api_ErrShape), ("raycone/api.ErrEmpty", laid_raycone_api_ErrEmpty), ("raycone/api.ErrName", laid_raycone_api_ErrName), ("raycone/api.ErrNone", laid_raycone_api_ErrNone), ("raycone/api.ErrOrder", laid_raycone_api_ErrOrder), ("raycone/api.ErrProof", laid_raycone_api_ErrProof)] }
def OctChangesSaid : Prop := octChangesRow.holds Tryd.pinned (OpenSpec.ofChange octChangesSpec)

/-- ITS FALSE NEIGHBOUR: 'it returns false'. Refute it at one input. -/
def octChangesWrong : ChangeSpec := { name := "octChanges", fn := fun _ => fun
  | [d1, d2, d3, d4, d5] => { results := [.lit (.bool false)], args := [d1, d2, d3, d4, d5] }
  | _ => none }
def OctChangesWrongFalsely : Prop := octChangesRow.holds Tryd.pinned (OpenSpec.ofChange octChangesWrong)

/-- 'rayconelaw2.OctZone': WHATEVER THE INPUT: true; the input reads as it did. -/
def octZoneSpec : ChangeSpec := { name := "octZone", fn := fun _ => fun
  | [d1, d2] => { results := [.lit (.bool true)], args := [d1, d2] }
  | _ => none }
def octZoneRow : OpenClaim := { program := "ytcalcnfppnbooaadoor", sum := "7efd88912480d5456eb2d38cccce906651d123ed17e47033d19873544336f52c", func := "raycone/rayconelaw2.OctZone", spec := "octZone", inPlace := ["internal/reflectlite.ValueOf", "(internal/reflectlite.Value).Type", "(internal/reflectlite.Value).IsNil", "internal/reflectlite.TypeOf", "(internal/reflectlite.Value).Elem", "(internal/reflectlite.Value).Set"], unfollowed := true, recurses := true, named := ["raycone/api.ErrBound", "raycone/api.ErrShape", "raycone/api.ErrOrder", "raycone/api.ErrText", "raycone/api.ErrEmpty", "raycone/api.ErrName", "raycone/api.ErrNone", "raycone/api.ErrProof", "errors.errorType"], apart := false, laid := [("errors.errorType", laid_errors_errorType), ("raycone/api.ErrText", laid_raycone_api_ErrText), ("raycone/api.ErrBound", laid_raycone_api_ErrBound), ("raycone/api.ErrShape", laid_raycone_api_ErrShape), ("raycone/api.ErrEmpty", laid_raycone_api_ErrEmpty), ("raycone/api.ErrName", laid_raycone_api_ErrName), ("raycone/api.ErrNone", laid_raycone_api_ErrNone), ("raycone/api.ErrOrder", laid_raycone_api_ErrOrder), ("raycone/api.ErrProof", laid_raycone_api_ErrProof)] }
def OctZoneSaid : Prop := octZoneRow.holds Tryd.pinned (OpenSpec.ofChange octZoneSpec)

/-- ITS FALSE NEIGHBOUR: 'it returns false'. Refute it at one input. -/
def octZoneWrong : ChangeSpec := { name := "octZone", fn := fun _ => fun
  | [d1, d2] => { results := [.lit (.bool false)], args := [d1, d2] }
  | _ => none }
def OctZoneWrongFalsely : Prop := octZoneRow.holds Tryd.pinned (OpenSpec.ofChange octZoneWrong)

/- THE SECOND FORM. 'bulk': how many values and letters a reading holds, each counted each time it is reached (what is shared counts as often as it is met; a slice's spare places count too). A statement '..UptoSaid' is the law's where the arguments, and the package variables that the reading takes, are together of bulk at most 1048576: NARROWER than '..Said'. Prove '..Said' where nothing that the law and all that it calls make is longer than what came in: it says more and counts as full. Else prove '..UptoSaid'. A law counts once. -/
mutual
def uptoBulk {H : Type} : DataW H → Nat
  | .lit (.string bytes) => bytes.length + 1
  | .lit _ => 1
  | .nil => 1
  | .ptr d => uptoBulk d + 1
  | .slice elems spare => uptoBulkAll elems + uptoBulkAll spare + 1
  | .agg parts => uptoBulkAll parts + 1
  | .iface _ d => uptoBulk d + 1
  | .map entries => uptoBulkEntries entries + 1
  | .held _ => 1
def uptoBulkAll {H : Type} : List (DataW H) → Nat
  | [] => 0
  | d :: r => uptoBulk d + uptoBulkAll r
def uptoBulkEntries {H : Type} : List (Lit × DataW H) → Nat
  | [] => 0
  | x :: r => uptoBulkEntry x + uptoBulkEntries r
def uptoBulkEntry {H : Type} : Lit × DataW H → Nat
  | (.string bytes, d) => bytes.length + uptoBulk d + 1
  | (_, d) => uptoBulk d + 1
 end
def uptoSmall : (H : Type) → List (DataW H) → Bool := fun _ ds => decide (uptoBulkAll ds ≤ 1048576)
def OpenSpec.upto (s : _root_.Go.ChangeSpec) : _root_.Go.OpenSpec := { _root_.Go.OpenSpec.ofChange s with cond := some uptoSmall }

/-- 'rayconelaw2.ZoneClose', WHERE WHAT IT READS IS OF BULK AT MOST 1048576: true; the input reads as it did. -/
def zoneCloseUptoRow : OpenClaim := { program := "ytcalcnfppnbooaadoor", sum := "7efd88912480d5456eb2d38cccce906651d123ed17e47033d19873544336f52c", func := "raycone/rayconelaw2.ZoneClose", spec := "zoneClose", inPlace := ["internal/reflectlite.ValueOf", "(internal/reflectlite.Value).Type", "(internal/reflectlite.Value).IsNil", "internal/reflectlite.TypeOf", "(internal/reflectlite.Value).Elem", "(internal/reflectlite.Value).Set"], unfollowed := true, recurses := true, named := ["raycone/api.ErrBound", "raycone/api.ErrShape", "raycone/api.ErrText", "raycone/api.ErrEmpty", "raycone/api.ErrName", "raycone/api.ErrNone", "raycone/api.ErrOrder", "raycone/api.ErrProof", "errors.errorType"], apart := false, laid := [("errors.errorType", laid_errors_errorType), ("raycone/api.ErrText", laid_raycone_api_ErrText), ("raycone/api.ErrBound", laid_raycone_api_ErrBound), ("raycone/api.ErrShape", laid_raycone_api_ErrShape), ("raycone/api.ErrEmpty", laid_raycone_api_ErrEmpty), ("raycone/api.ErrName", laid_raycone_api_ErrName), ("raycone/api.ErrNone", laid_raycone_api_ErrNone), ("raycone/api.ErrOrder", laid_raycone_api_ErrOrder), ("raycone/api.ErrProof", laid_raycone_api_ErrProof)], narrowed := true }
def ZoneCloseUptoSaid : Prop := zoneCloseUptoRow.holds Tryd.pinned (OpenSpec.upto zoneCloseSpec)

/-- 'rayconelaw2.IntervalRefine', WHERE WHAT IT READS IS OF BULK AT MOST 1048576: true; the input reads as it did. -/
def intervalRefineUptoRow : OpenClaim := { program := "ytcalcnfppnbooaadoor", sum := "7efd88912480d5456eb2d38cccce906651d123ed17e47033d19873544336f52c", func := "raycone/rayconelaw2.IntervalRefine", spec := "intervalRefine", inPlace := ["internal/reflectlite.ValueOf", "(internal/reflectlite.Value).Type", "(internal/reflectlite.Value).IsNil", "internal/reflectlite.TypeOf", "(internal/reflectlite.Value).Elem", "(internal/reflectlite.Value).Set"], unfollowed := true, recurses := true, named := ["raycone/api.ErrShape", "raycone/api.ErrBound", "raycone/api.ErrText", "raycone/api.ErrEmpty", "raycone/api.ErrName", "raycone/api.ErrNone", "raycone/api.ErrOrder", "raycone/api.ErrProof", "errors.errorType"], apart := false, laid := [("errors.errorType", laid_errors_errorType), ("raycone/api.ErrText", laid_raycone_api_ErrText), ("raycone/api.ErrBound", laid_raycone_api_ErrBound), ("raycone/api.ErrShape", laid_raycone_api_ErrShape), ("raycone/api.ErrEmpty", laid_raycone_api_ErrEmpty), ("raycone/api.ErrName", laid_raycone_api_ErrName), ("raycone/api.ErrNone", laid_raycone_api_ErrNone), ("raycone/api.ErrOrder", laid_raycone_api_ErrOrder), ("raycone/api.ErrProof", laid_raycone_api_ErrProof)], narrowed := true }
def IntervalRefineUptoSaid : Prop := intervalRefineUptoRow.holds Tryd.pinned (OpenSpec.upto intervalRefineSpec)

/-- 'rayconelaw2.ZoneWiden', WHERE WHAT IT READS IS OF BULK AT MOST 1048576: true; the input reads as it did. -/
def zoneWidenUptoRow : OpenClaim := { program := "ytcalcnfppnbooaadoor", sum := "7efd88912480d5456eb2d38cccce906651d123ed17e47033d19873544336f52c", func := "raycone/rayconelaw2.ZoneWiden", spec := "zoneWiden", inPlace := ["internal/reflectlite.ValueOf", "(internal/reflectlite.Value).Type", "(internal/reflectlite.Value).IsNil", "internal/reflectlite.TypeOf", "(internal/reflectlite.Value).Elem", "(internal/reflectlite.Value).Set"], unfollowed := true, recurses := true, named := ["raycone/api.ErrBound", "raycone/api.ErrShape", "raycone/api.ErrText", "raycone/api.ErrEmpty", "raycone/api.ErrName", "raycone/api.ErrNone", "raycone/api.ErrOrder", "raycone/api.ErrProof", "errors.errorType"], apart := false, laid := [("errors.errorType", laid_errors_errorType), ("raycone/api.ErrText", laid_raycone_api_ErrText), ("raycone/api.ErrBound", laid_raycone_api_ErrBound), ("raycone/api.ErrShape", laid_raycone_api_ErrShape), ("raycone/api.ErrEmpty", laid_raycone_api_ErrEmpty), ("raycone/api.ErrName", laid_raycone_api_ErrName), ("raycone/api.ErrNone", laid_raycone_api_ErrNone), ("raycone/api.ErrOrder", laid_raycone_api_ErrOrder), ("raycone/api.ErrProof", laid_raycone_api_ErrProof)], narrowed := true }
def ZoneWidenUptoSaid : Prop := zoneWidenUptoRow.holds Tryd.pinned (OpenSpec.upto zoneWidenSpec)

/-- 'rayconelaw2.OctClose', WHERE WHAT IT READS IS OF BULK AT MOST 1048576: true; the input reads as it did. -/
def octCloseUptoRow : OpenClaim := { program := "ytcalcnfppnbooaadoor", sum := "7efd88912480d5456eb2d38cccce906651d123ed17e47033d19873544336f52c", func := "raycone/rayconelaw2.OctClose", spec := "octClose", inPlace := ["internal/reflectlite.ValueOf", "(internal/reflectlite.Value).Type", "(internal/reflectlite.Value).IsNil", "internal/reflectlite.TypeOf", "(internal/reflectlite.Value).Elem", "(internal/reflectlite.Value).Set"], unfollowed := true, recurses := true, named := ["raycone/api.ErrBound", "raycone/api.ErrShape", "raycone/api.ErrOrder", "raycone/api.ErrText", "raycone/api.ErrEmpty", "raycone/api.ErrName", "raycone/api.ErrNone", "raycone/api.ErrProof", "errors.errorType"], apart := false, laid := [("errors.errorType", laid_errors_errorType), ("raycone/api.ErrText", laid_raycone_api_ErrText), ("raycone/api.ErrBound", laid_raycone_api_ErrBound), ("raycone/api.ErrShape", laid_raycone_api_ErrShape), ("raycone/api.ErrEmpty", laid_raycone_api_ErrEmpty), ("raycone/api.ErrName", laid_raycone_api_ErrName), ("raycone/api.ErrNone", laid_raycone_api_ErrNone), ("raycone/api.ErrOrder", laid_raycone_api_ErrOrder), ("raycone/api.ErrProof", laid_raycone_api_ErrProof)], narrowed := true }
def OctCloseUptoSaid : Prop := octCloseUptoRow.holds Tryd.pinned (OpenSpec.upto octCloseSpec)

/-- 'rayconelaw2.ZoneLattice', WHERE WHAT IT READS IS OF BULK AT MOST 1048576: true; the input reads as it did. -/
def zoneLatticeUptoRow : OpenClaim := { program := "ytcalcnfppnbooaadoor", sum := "7efd88912480d5456eb2d38cccce906651d123ed17e47033d19873544336f52c", func := "raycone/rayconelaw2.ZoneLattice", spec := "zoneLattice", inPlace := ["internal/reflectlite.ValueOf", "(internal/reflectlite.Value).Type", "(internal/reflectlite.Value).IsNil", "internal/reflectlite.TypeOf", "(internal/reflectlite.Value).Elem", "(internal/reflectlite.Value).Set"], unfollowed := true, recurses := true, named := ["raycone/api.ErrBound", "raycone/api.ErrShape", "raycone/api.ErrEmpty", "raycone/api.ErrText", "raycone/api.ErrName", "raycone/api.ErrNone", "raycone/api.ErrOrder", "raycone/api.ErrProof", "errors.errorType"], apart := false, laid := [("errors.errorType", laid_errors_errorType), ("raycone/api.ErrText", laid_raycone_api_ErrText), ("raycone/api.ErrBound", laid_raycone_api_ErrBound), ("raycone/api.ErrShape", laid_raycone_api_ErrShape), ("raycone/api.ErrEmpty", laid_raycone_api_ErrEmpty), ("raycone/api.ErrName", laid_raycone_api_ErrName), ("raycone/api.ErrNone", laid_raycone_api_ErrNone), ("raycone/api.ErrOrder", laid_raycone_api_ErrOrder), ("raycone/api.ErrProof", laid_raycone_api_ErrProof)], narrowed := true }
def ZoneLatticeUptoSaid : Prop := zoneLatticeUptoRow.holds Tryd.pinned (OpenSpec.upto zoneLatticeSpec)

/-- 'rayconelaw2.OctGuard', WHERE WHAT IT READS IS OF BULK AT MOST 1048576: true; the input reads as it did. -/
def octGuardUptoRow : OpenClaim := { program := "ytcalcnfppnbooaadoor", sum := "7efd88912480d5456eb2d38cccce906651d123ed17e47033d19873544336f52c", func := "raycone/rayconelaw2.OctGuard", spec := "octGuard", inPlace := ["internal/reflectlite.ValueOf", "(internal/reflectlite.Value).Type", "(internal/reflectlite.Value).IsNil", "internal/reflectlite.TypeOf", "(internal/reflectlite.Value).Elem", "(internal/reflectlite.Value).Set"], unfollowed := true, recurses := true, named := ["raycone/api.ErrBound", "raycone/api.ErrShape", "raycone/api.ErrOrder", "raycone/api.ErrText", "raycone/api.ErrEmpty", "raycone/api.ErrName", "raycone/api.ErrNone", "raycone/api.ErrProof", "errors.errorType"], apart := false, laid := [("errors.errorType", laid_errors_errorType), ("raycone/api.ErrText", laid_raycone_api_ErrText), ("raycone/api.ErrBound", laid_raycone_api_ErrBound), ("raycone/api.ErrShape", laid_raycone_api_ErrShape), ("raycone/api.ErrEmpty", laid_raycone_api_ErrEmpty), ("raycone/api.ErrName", laid_raycone_api_ErrName), ("raycone/api.ErrNone", laid_raycone_api_ErrNone), ("raycone/api.ErrOrder", laid_raycone_api_ErrOrder), ("raycone/api.ErrProof", laid_raycone_api_ErrProof)], narrowed := true }
def OctGuardUptoSaid : Prop := octGuardUptoRow.holds Tryd.pinned (OpenSpec.upto octGuardSpec)

/-- 'rayconelaw2.ZoneChanges', WHERE WHAT IT READS IS OF BULK AT MOST 1048576: true; the input reads as it did. -/
def zoneChangesUptoRow : OpenClaim := { program := "ytcalcnfppnbooaadoor", sum := "7efd88912480d5456eb2d38cccce906651d123ed17e47033d19873544336f52c", func := "raycone/rayconelaw2.ZoneChanges", spec := "zoneChanges", inPlace := ["internal/reflectlite.ValueOf", "(internal/reflectlite.Value).Type", "(internal/reflectlite.Value).IsNil", "internal/reflectlite.TypeOf", "(internal/reflectlite.Value).Elem", "(internal/reflectlite.Value).Set"], unfollowed := true, recurses := true, named := ["raycone/api.ErrBound", "raycone/api.ErrShape", "raycone/api.ErrText", "raycone/api.ErrEmpty", "raycone/api.ErrName", "raycone/api.ErrNone", "raycone/api.ErrOrder", "raycone/api.ErrProof", "errors.errorType"], apart := false, laid := [("errors.errorType", laid_errors_errorType), ("raycone/api.ErrText", laid_raycone_api_ErrText), ("raycone/api.ErrBound", laid_raycone_api_ErrBound), ("raycone/api.ErrShape", laid_raycone_api_ErrShape), ("raycone/api.ErrEmpty", laid_raycone_api_ErrEmpty), ("raycone/api.ErrName", laid_raycone_api_ErrName), ("raycone/api.ErrNone", laid_raycone_api_ErrNone), ("raycone/api.ErrOrder", laid_raycone_api_ErrOrder), ("raycone/api.ErrProof", laid_raycone_api_ErrProof)], narrowed := true }
def ZoneChangesUptoSaid : Prop := zoneChangesUptoRow.holds Tryd.pinned (OpenSpec.upto zoneChangesSpec)

/-- 'rayconelaw2.OctWiden', WHERE WHAT IT READS IS OF BULK AT MOST 1048576: true; the input reads as it did. -/
def octWidenUptoRow : OpenClaim := { program := "ytcalcnfppnbooaadoor", sum := "7efd88912480d5456eb2d38cccce906651d123ed17e47033d19873544336f52c", func := "raycone/rayconelaw2.OctWiden", spec := "octWiden", inPlace := ["internal/reflectlite.ValueOf", "(internal/reflectlite.Value).Type", "(internal/reflectlite.Value).IsNil", "internal/reflectlite.TypeOf", "(internal/reflectlite.Value).Elem", "(internal/reflectlite.Value).Set"], unfollowed := true, recurses := true, named := ["raycone/api.ErrBound", "raycone/api.ErrShape", "raycone/api.ErrOrder", "raycone/api.ErrText", "raycone/api.ErrEmpty", "raycone/api.ErrName", "raycone/api.ErrNone", "raycone/api.ErrProof", "errors.errorType"], apart := false, laid := [("errors.errorType", laid_errors_errorType), ("raycone/api.ErrText", laid_raycone_api_ErrText), ("raycone/api.ErrBound", laid_raycone_api_ErrBound), ("raycone/api.ErrShape", laid_raycone_api_ErrShape), ("raycone/api.ErrEmpty", laid_raycone_api_ErrEmpty), ("raycone/api.ErrName", laid_raycone_api_ErrName), ("raycone/api.ErrNone", laid_raycone_api_ErrNone), ("raycone/api.ErrOrder", laid_raycone_api_ErrOrder), ("raycone/api.ErrProof", laid_raycone_api_ErrProof)], narrowed := true }
def OctWidenUptoSaid : Prop := octWidenUptoRow.holds Tryd.pinned (OpenSpec.upto octWidenSpec)

/-- 'rayconelaw2.OctLattice', WHERE WHAT IT READS IS OF BULK AT MOST 1048576: true; the input reads as it did. -/
def octLatticeUptoRow : OpenClaim := { program := "ytcalcnfppnbooaadoor", sum := "7efd88912480d5456eb2d38cccce906651d123ed17e47033d19873544336f52c", func := "raycone/rayconelaw2.OctLattice", spec := "octLattice", inPlace := ["internal/reflectlite.ValueOf", "(internal/reflectlite.Value).Type", "(internal/reflectlite.Value).IsNil", "internal/reflectlite.TypeOf", "(internal/reflectlite.Value).Elem", "(internal/reflectlite.Value).Set"], unfollowed := true, recurses := true, named := ["raycone/api.ErrBound", "raycone/api.ErrShape", "raycone/api.ErrOrder", "raycone/api.ErrEmpty", "raycone/api.ErrText", "raycone/api.ErrName", "raycone/api.ErrNone", "raycone/api.ErrProof", "errors.errorType"], apart := false, laid := [("errors.errorType", laid_errors_errorType), ("raycone/api.ErrText", laid_raycone_api_ErrText), ("raycone/api.ErrBound", laid_raycone_api_ErrBound), ("raycone/api.ErrShape", laid_raycone_api_ErrShape), ("raycone/api.ErrEmpty", laid_raycone_api_ErrEmpty), ("raycone/api.ErrName", laid_raycone_api_ErrName), ("raycone/api.ErrNone", laid_raycone_api_ErrNone), ("raycone/api.ErrOrder", laid_raycone_api_ErrOrder), ("raycone/api.ErrProof", laid_raycone_api_ErrProof)], narrowed := true }
def OctLatticeUptoSaid : Prop := octLatticeUptoRow.holds Tryd.pinned (OpenSpec.upto octLatticeSpec)

/-- 'rayconelaw2.OctChanges', WHERE WHAT IT READS IS OF BULK AT MOST 1048576: true; the input reads as it did. -/
def octChangesUptoRow : OpenClaim := { program := "ytcalcnfppnbooaadoor", sum := "7efd88912480d5456eb2d38cccce906651d123ed17e47033d19873544336f52c", func := "raycone/rayconelaw2.OctChanges", spec := "octChanges", inPlace := ["internal/reflectlite.ValueOf", "(internal/reflectlite.Value).Type", "(internal/reflectlite.Value).IsNil", "internal/reflectlite.TypeOf", "(internal/reflectlite.Value).Elem", "(internal/reflectlite.Value).Set"], unfollowed := true, recurses := true, named := ["raycone/api.ErrBound", "raycone/api.ErrShape", "raycone/api.ErrOrder", "raycone/api.ErrText", "raycone/api.ErrEmpty", "raycone/api.ErrName", "raycone/api.ErrNone", "raycone/api.ErrProof", "errors.errorType"], apart := false, laid := [("errors.errorType", laid_errors_errorType), ("raycone/api.ErrText", laid_raycone_api_ErrText), ("raycone/api.ErrBound", laid_raycone_api_ErrBound), ("raycone/api.ErrShape", laid_raycone_api_ErrShape), ("raycone/api.ErrEmpty", laid_raycone_api_ErrEmpty), ("raycone/api.ErrName", laid_raycone_api_ErrName), ("raycone/api.ErrNone", laid_raycone_api_ErrNone), ("raycone/api.ErrOrder", laid_raycone_api_ErrOrder), ("raycone/api.ErrProof", laid_raycone_api_ErrProof)], narrowed := true }
def OctChangesUptoSaid : Prop := octChangesUptoRow.holds Tryd.pinned (OpenSpec.upto octChangesSpec)

/-- 'rayconelaw2.OctZone', WHERE WHAT IT READS IS OF BULK AT MOST 1048576: true; the input reads as it did. -/
def octZoneUptoRow : OpenClaim := { program := "ytcalcnfppnbooaadoor", sum := "7efd88912480d5456eb2d38cccce906651d123ed17e47033d19873544336f52c", func := "raycone/rayconelaw2.OctZone", spec := "octZone", inPlace := ["internal/reflectlite.ValueOf", "(internal/reflectlite.Value).Type", "(internal/reflectlite.Value).IsNil", "internal/reflectlite.TypeOf", "(internal/reflectlite.Value).Elem", "(internal/reflectlite.Value).Set"], unfollowed := true, recurses := true, named := ["raycone/api.ErrBound", "raycone/api.ErrShape", "raycone/api.ErrOrder", "raycone/api.ErrText", "raycone/api.ErrEmpty", "raycone/api.ErrName", "raycone/api.ErrNone", "raycone/api.ErrProof", "errors.errorType"], apart := false, laid := [("errors.errorType", laid_errors_errorType), ("raycone/api.ErrText", laid_raycone_api_ErrText), ("raycone/api.ErrBound", laid_raycone_api_ErrBound), ("raycone/api.ErrShape", laid_raycone_api_ErrShape), ("raycone/api.ErrEmpty", laid_raycone_api_ErrEmpty), ("raycone/api.ErrName", laid_raycone_api_ErrName), ("raycone/api.ErrNone", laid_raycone_api_ErrNone), ("raycone/api.ErrOrder", laid_raycone_api_ErrOrder), ("raycone/api.ErrProof", laid_raycone_api_ErrProof)], narrowed := true }
def OctZoneUptoSaid : Prop := octZoneUptoRow.holds Tryd.pinned (OpenSpec.upto octZoneSpec)

end Rows
end Go.Proofs.YtcalcnfppnbooaaDoor
