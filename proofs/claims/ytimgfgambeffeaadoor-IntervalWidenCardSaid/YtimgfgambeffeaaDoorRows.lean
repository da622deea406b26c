/-
  NARROWER THAN 'FOR EVERY INPUT', by the rows' own cells (each row's printed sentence says how): IntervalOf: laid · CongrMeet: laid · CongrJoin: laid · CongrOf: laid · IntervalLattice: laid · IntervalWiden: laid · IntervalRefine: laid · CongrDone: laid · CongrTight: laid.
  DERIVED. THE GIVEN ROWS OF THIS SEAT. 9 by the template 'for every input the law returns true; each argument reads behind the call as it read before'; 0 by the template 'total and deterministic' (their statements: YtimgfgambeffeaaDoorTotals.lean).
  GIVEN WITH THE SEED: the statements are not yours to turn. If you find one false, say at which input.
  Laid BY PROGRAM, IN A SANDBOX (cutbox-rows.mjs): the forced cells as the released guide's own fill.sh prints them over the translation f0c5daa55aa4eb44… (all of the seat's roots in one cut). By AI agents, Wed Nov 11 2026. No macro, syntax, notation, axiom, sorry.
-/
import Derived.Test.YtimgfgambeffeaaDoorChecked
import GoSem.Claim
import GoSem.ClaimJoined
import GoSem.ClaimMapViews
import Derived.JoinedTies
import Derived.KernelRfl
namespace Go.Proofs.YtimgfgambeffeaaDoor
/- THE CELL 'sum', in the pinned program and in every row, IS THE sha256 OF THE DUMP (.gsa) THAT YtimgfgambeffeaaDoorProg.lean LOADS. Nothing in Lean hashes anything: it is a label: what it is worth is what the hold of that sum in a sandbox is worth. -/
noncomputable def Tryd.pinned : Pinned := { name := "ytimgfgambeffeaadoor", sum := "f0c5daa55aa4eb44c2113fb53fab11e967cf1279685e55ef90ede1eef4a883e0", checked := Tryd.checked }
namespace Rows
def none {H : Type} : Left H := { results := [], args := [] }

/- WHAT THE LISTED PACKAGE-LEVEL VARIABLES READ AS WHEN THE CALL BEGINS. Each datum BY PROGRAM (the guide's laid-datum.mjs) off the statement by which the dump's own 'gosem.cut.vars' lays the variable. In a bare row this is a premise. The card (YtimgfgambeffeaaDoorCards.lean) ties it to the program's text. -/
def laid_errors_errorType {H : Type} : DataW H := .iface "internal/reflectlite.rtype" (.agg [.ptr (.lit (.string [101, 114, 114, 111, 114]))])
def laid_raycone_api_ErrText {H : Type} : DataW H := .iface "*errors.errorString" (.ptr (.agg [.lit (.string [114, 97, 121, 99, 111, 110, 101, 58, 32, 116, 101, 120, 116])]))
def laid_raycone_api_ErrBound {H : Type} : DataW H := .iface "*errors.errorString" (.ptr (.agg [.lit (.string [114, 97, 121, 99, 111, 110, 101, 58, 32, 98, 111, 117, 110, 100])]))
def laid_raycone_api_ErrShape {H : Type} : DataW H := .iface "*errors.errorString" (.ptr (.agg [.lit (.string [114, 97, 121, 99, 111, 110, 101, 58, 32, 115, 104, 97, 112, 101])]))
def laid_raycone_api_ErrEmpty {H : Type} : DataW H := .iface "*errors.errorString" (.ptr (.agg [.lit (.string [114, 97, 121, 99, 111, 110, 101, 58, 32, 101, 109, 112, 116, 121])]))
def laid_raycone_api_ErrName {H : Type} : DataW H := .iface "*errors.errorString" (.ptr (.agg [.lit (.string [114, 97, 121, 99, 111, 110, 101, 58, 32, 110, 97, 109, 101])]))
def laid_raycone_api_ErrNone {H : Type} : DataW H := .iface "*errors.errorString" (.ptr (.agg [.lit (.string [114, 97, 121, 99, 111, 110, 101, 58, 32, 110, 111, 110, 101])]))
def laid_raycone_api_ErrOrder {H : Type} : DataW H := .iface "*errors.errorString" (.ptr (.agg [.lit (.string [114, 97, 121, 99, 111, 110, 101, 58, 32, 111, 114, 100, 101, 114])]))
def laid_raycone_api_ErrProof {H : Type} : DataW H := .iface "*errors.errorString" (.ptr (.agg [.lit (.string [114, 97, 121, 99, 111, 110, 101, 58, 32, 112, 114, 111, 111, 102])]))

/-- 'rayconelaw2.IntervalOf': WHATEVER THE INPUT: true; the input reads as it did. -/
def intervalOfSpec : ChangeSpec := { name := "intervalOf", fn := fun _ => fun
  | [d1, d2] => { results := [.lit (.bool true)], args := [d1, d2] }
  | _ => none }
def intervalOfRow : OpenClaim := { program := "ytimgfgambeffeaadoor", sum := "f0c5daa55aa4eb44c2113fb53fab11e967cf1279685e55ef90ede1eef4a883e0", func := "raycone/rayconelaw2.IntervalOf", spec := "intervalOf", inPlace := ["internal/reflectlite.ValueOf", "(internal/reflectlite.Value).Type", "(internal/reflectlite.Value).IsNil", "internal/reflectlite.TypeOf", "(internal/reflectlite.Value).Elem", "(internal/reflectlite.Value).Set"], unfollowed := true, recurses := true, named := ["raycone/api.ErrShape", "raycone/api.ErrBound", "raycone/api.ErrText", "raycone/api.ErrEmpty", "raycone/api.ErrName", "raycone/api.ErrNone", "raycone/api.ErrOrder", "raycone/api.ErrProof", "errors.errorType"], apart := false, laid := [("errors.errorType", laid_errors_errorType), ("raycone/api.ErrText", laid_raycone_api_ErrText), ("raycone/api.ErrBound", laid_raycone_api_ErrBound), ("raycone/api.ErrShape", laid_raycone_api_ErrShape), ("raycone/api.ErrEmpty", laid_raycone_api_ErrEmpty), ("raycone/api.ErrName", laid_raycone_api_ErrName), ("raycone/api.ErrNone", laid_raycone_api_ErrNone), ("raycone/api.ErrOrder", laid_raycone_api_ErrOrder), ("raycone/api.ErrProof", laid_raycone_api_ErrProof)] }
def IntervalOfSaid : Prop := intervalOfRow.holds Tryd.pinned (OpenSpec.ofChange intervalOfSpec)

/-- ITS FALSE NEIGHBOUR: 'it returns false'. Refute it at one input. -/
def intervalOfWrong : ChangeSpec := { name := "intervalOf", fn := fun _ => fun
  | [d1, d2] => { results := [.lit (.bool false)], args := [d1, d2] }
  | _ => none }
def IntervalOfWrongFalsely : Prop := intervalOfRow.holds Tryd.pinned (OpenSpec.ofChange intervalOfWrong)

/-- 'rayconelaw2.CongrMeet': WHATEVER THE INPUT: true; the input reads as it did. -/
def congrMeetSpec : ChangeSpec := { name := "congrMeet", fn := fun _ => fun
  | [d1, d2] => { results := [.lit (.bool true)], args := [d1, d2] }
  | _ => none }
def congrMeetRow : OpenClaim := { program := "ytimgfgambeffeaadoor", sum := "f0c5daa55aa4eb44c2113fb53fab11e967cf1279685e55ef90ede1eef4a883e0", func := "raycone/rayconelaw2.CongrMeet", spec := "congrMeet", inPlace := ["internal/reflectlite.ValueOf", "(internal/reflectlite.Value).Type", "(internal/reflectlite.Value).IsNil", "internal/reflectlite.TypeOf", "(internal/reflectlite.Value).Elem", "(internal/reflectlite.Value).Set"], unfollowed := true, recurses := true, named := ["raycone/api.ErrBound", "raycone/api.ErrShape", "raycone/api.ErrText", "raycone/api.ErrEmpty", "raycone/api.ErrName", "raycone/api.ErrNone", "raycone/api.ErrOrder", "raycone/api.ErrProof", "errors.errorType"], apart := false, laid := [("errors.errorType", laid_errors_errorType), ("raycone/api.ErrText", laid_raycone_api_ErrText), ("raycone/api.ErrBound", laid_raycone_api_ErrBound), ("raycone/api.ErrShape", laid_raycone_api_ErrShape), ("raycone/api.ErrEmpty", laid_raycone_api_ErrEmpty), ("raycone/api.ErrName", laid_raycone_api_ErrName), ("raycone/api.ErrNone", laid_raycone_api_ErrNone), ("raycone/api.ErrOrder", laid_raycone_api_ErrOrder), ("raycone/api.ErrProof", laid_raycone_api_ErrProof)] }
def CongrMeetSaid : Prop := congrMeetRow.holds Tryd.pinned (OpenSpec.ofChange congrMeetSpec)

/-- ITS FALSE NEIGHBOUR: 'it returns false'. Refute it at one input. -/
def congrMeetWrong : ChangeSpec := { name := "congrMeet", fn := fun _ => fun
  | [d1, d2] => { results := [.lit (.bool false)], args := [d1, d2] }
  | _ => none }
def CongrMeetWrongFalsely : Prop := congrMeetRow.holds Tryd.pinned (OpenSpec.ofChange congrMeetWrong)

/-- 'rayconelaw2.CongrJoin': WHATEVER THE INPUT: true; the input reads as it did. -/
def congrJoinSpec : ChangeSpec := { name := "congrJoin", fn := fun _ => fun
  | [d1, d2] => { results := [.lit (.bool true)], args := [d1, d2] }
  | _ => none }
def congrJoinRow : OpenClaim := { program := "ytimgfgambeffeaadoor", sum := "f0c5daa55aa4eb44c2113fb53fab11e967cf1279685e55ef90ede1eef4a883e0", func := "raycone/rayconelaw2.CongrJoin", spec := "congrJoin", inPlace := ["internal/reflectlite.ValueOf", "(internal/reflectlite.Value).Type", "(internal/reflectlite.Value).IsNil", "internal/reflectlite.TypeOf", "(internal/reflectlite.Value).Elem", "(internal/reflectlite.Value).Set"], unfollowed := true, recurses := true, named := ["raycone/api.ErrBound", "raycone/api.ErrShape", "raycone/api.ErrText", "raycone/api.ErrEmpty", "raycone/api.ErrName", "raycone/api.ErrNone", "raycone/api.ErrOrder", "raycone/api.ErrProof", "errors.errorType"], apart := false, laid := [("errors.errorType", laid_errors_errorType), ("raycone/api.ErrText", laid_raycone_api_ErrText), ("raycone/api.ErrBound", laid_raycone_api_ErrBound), ("raycone/api.ErrShape", laid_raycone_api_ErrShape), ("raycone/api.ErrEmpty", laid_raycone_api_ErrEmpty), ("raycone/api.ErrName", laid_raycone_api_ErrName), ("raycone/api.ErrNone", laid_raycone_api_ErrNone), ("raycone/api.ErrOrder", laid_raycone_api_ErrOrder), ("raycone/api.ErrProof", laid_raycone_api_ErrProof)] }
def CongrJoinSaid : Prop := congrJoinRow.holds Tryd.pinned (OpenSpec.ofChange congrJoinSpec)

/-- ITS FALSE NEIGHBOUR: 'it returns false'. Refute it at one input. -/
def congrJoinWrong : ChangeSpec := { name := "congrJoin", fn := fun _ => fun
  | [d1, d2] => { results := [.lit (.bool false)], args := [d1, d2] }
  | _ => none }
def CongrJoinWrongFalsely : Prop := congrJoinRow.holds Tryd.pinned (OpenSpec.ofChange congrJoinWrong)

/-- 'rayconelaw2.CongrOf': WHATEVER THE INPUT: true; the input reads as it did. -/
def congrOfSpec : ChangeSpec := { name := "congrOf", fn := fun _ => fun
  | [d1, d2, d3] => { results := [.lit (.bool true)], args := [d1, d2, d3] }
  | _ => none }
def congrOfRow : OpenClaim := { program := "ytimgfgambeffeaadoor", sum := "f0c5daa55aa4eb44c2113fb53fab11e967cf1279685e55ef90ede1eef4a883e0", func := "raycone/rayconelaw2.CongrOf", spec := "congrOf", inPlace := ["internal/reflectlite.ValueOf", "(internal/reflectlite.Value).Type", "(internal/reflectlite.Value).IsNil", "internal/reflectlite.TypeOf", "(internal/reflectlite.Value).Elem", "(internal/reflectlite.Value).Set"], unfollowed := true, recurses := true, named := ["raycone/api.ErrBound", "raycone/api.ErrShape", "raycone/api.ErrText", "raycone/api.ErrEmpty", "raycone/api.ErrName", "raycone/api.ErrNone", "raycone/api.ErrOrder", "raycone/api.ErrProof", "errors.errorType"], apart := false, laid := [("errors.errorType", laid_errors_errorType), ("raycone/api.ErrText", laid_raycone_api_ErrText), ("raycone/api.ErrBound", laid_raycone_api_ErrBound), ("raycone/api.ErrShape", laid_raycone_api_ErrShape), ("raycone/api.ErrEmpty", laid_raycone_api_ErrEmpty), ("raycone/api.ErrName", laid_raycone_api_ErrName), ("raycone/api.ErrNone", laid_raycone_api_ErrNone), ("raycone/api.ErrOrder", laid_raycone_api_ErrOrder), ("raycone/api.ErrProof", laid_raycone_api_ErrProof)] }
def CongrOfSaid : Prop := congrOfRow.holds Tryd.pinned (OpenSpec.ofChange congrOfSpec)

/-- ITS FALSE NEIGHBOUR: 'it returns false'. Refute it at one input. -/
def congrOfWrong : ChangeSpec := { name := "congrOf", fn := fun _ => fun
  | [d1, d2, d3] => { results := [.lit (.bool false)], args := [d1, d2, d3] }
  | _ => none }
def CongrOfWrongFalsely : Prop := congrOfRow.holds Tryd.pinned (OpenSpec.ofChange congrOfWrong)

/-- 'rayconelaw2.IntervalLattice': WHATEVER THE INPUT: true; the input reads as it did. -/
def intervalLatticeSpec : ChangeSpec := { name := "intervalLattice", fn := fun _ => fun
  | [d1, d2] => { results := [.lit (.bool true)], args := [d1, d2] }
  | _ => none }
def intervalLatticeRow : OpenClaim := { program := "ytimgfgambeffeaadoor", sum := "f0c5daa55aa4eb44c2113fb53fab11e967cf1279685e55ef90ede1eef4a883e0", func := "raycone/rayconelaw2.IntervalLattice", spec := "intervalLattice", inPlace := ["internal/reflectlite.ValueOf", "(internal/reflectlite.Value).Type", "(internal/reflectlite.Value).IsNil", "internal/reflectlite.TypeOf", "(internal/reflectlite.Value).Elem", "(internal/reflectlite.Value).Set"], unfollowed := true, recurses := true, named := ["raycone/api.ErrShape", "raycone/api.ErrBound", "raycone/api.ErrText", "raycone/api.ErrEmpty", "raycone/api.ErrName", "raycone/api.ErrNone", "raycone/api.ErrOrder", "raycone/api.ErrProof", "errors.errorType"], apart := false, laid := [("errors.errorType", laid_errors_errorType), ("raycone/api.ErrText", laid_raycone_api_ErrText), ("raycone/api.ErrBound", laid_raycone_api_ErrBound), ("raycone/api.ErrShape", laid_raycone_api_ErrShape), ("raycone/api.ErrEmpty", laid_raycone_api_ErrEmpty), ("raycone/api.ErrName", laid_raycone_api_ErrName), ("raycone/api.ErrNone", laid_raycone_api_ErrNone), ("raycone/api.ErrOrder", laid_raycone_api_ErrOrder), ("raycone/api.ErrProof", laid_raycone_api_ErrProof)] }
def IntervalLatticeSaid : Prop := intervalLatticeRow.holds Tryd.pinned (OpenSpec.ofChange intervalLatticeSpec)

/-- ITS FALSE NEIGHBOUR: 'it returns false'. Refute it at one input. -/
def intervalLatticeWrong : ChangeSpec := { name := "intervalLattice", fn := fun _ => fun
  | [d1, d2] => { results := [.lit (.bool false)], args := [d1, d2] }
  | _ => none }
def IntervalLatticeWrongFalsely : Prop := intervalLatticeRow.holds Tryd.pinned (OpenSpec.ofChange intervalLatticeWrong)

/-- 'rayconelaw2.IntervalWiden': WHATEVER THE INPUT: true; the input reads as it did. -/
def intervalWidenSpec : ChangeSpec := { name := "intervalWiden", fn := fun _ => fun
  | [d1, d2, d3] => { results := [.lit (.bool true)], args := [d1, d2, d3] }
  | _ => none }
def intervalWidenRow : OpenClaim := { program := "ytimgfgambeffeaadoor", sum := "f0c5daa55aa4eb44c2113fb53fab11e967cf1279685e55ef90ede1eef4a883e0", func := "raycone/rayconelaw2.IntervalWiden", spec := "intervalWiden", inPlace := ["internal/reflectlite.ValueOf", "(internal/reflectlite.Value).Type", "(internal/reflectlite.Value).IsNil", "internal/reflectlite.TypeOf", "(internal/reflectlite.Value).Elem", "(internal/reflectlite.Value).Set"], unfollowed := true, recurses := true, named := ["raycone/api.ErrShape", "raycone/api.ErrBound", "raycone/api.ErrEmpty", "raycone/api.ErrText", "raycone/api.ErrName", "raycone/api.ErrNone", "raycone/api.ErrOrder", "raycone/api.ErrProof", "errors.errorType"], apart := false, laid := [("errors.errorType", laid_errors_errorType), ("raycone/api.ErrText", laid_raycone_api_ErrText), ("raycone/api.ErrBound", laid_raycone_api_ErrBound), ("raycone/api.ErrShape", laid_raycone_api_ErrShape), ("raycone/api.ErrEmpty", laid_raycone_api_ErrEmpty), ("raycone/api.ErrName", laid_raycone_api_ErrName), ("raycone/api.ErrNone", laid_raycone_api_ErrNone), ("raycone/api.ErrOrder", laid_raycone_api_ErrOrder), ("raycone/api.ErrProof", laid_raycone_api_ErrProof)] }
def IntervalWidenSaid : Prop := intervalWidenRow.holds Tryd.pinned (OpenSpec.ofChange intervalWidenSpec)

/-- ITS FALSE NEIGHBOUR: 'it returns false'. Refute it at one input. -/
def intervalWidenWrong : ChangeSpec := { name := "intervalWiden", fn := fun _ => fun
  | [d1, d2, d3] => { results := [.lit (.bool false)], args := [d1, d2, d3] }
  | _ => none }
def IntervalWidenWrongFalsely : Prop := intervalWidenRow.holds Tryd.pinned (OpenSpec.ofChange intervalWidenWrong)

/-- 'rayconelaw2.IntervalRefine': WHATEVER THE INPUT: true; the input reads as it did. -/
def intervalRefineSpec : ChangeSpec := { name := "intervalRefine", fn := fun _ => fun
  | [d1, d2, d3] => { results := [.lit (.bool true)], args := [d1, d2, d3] }
  | _ => none }
def intervalRefineRow : OpenClaim := { program := "ytimgfgambeffeaadoor", sum := "f0c5daa55aa4eb44c2113fb53fab11e967cf1279685e55ef90ede1eef4a883e0", func := "raycone/rayconelaw2.IntervalRefine", spec := "intervalRefine", inPlace := ["internal/reflectlite.ValueOf", "(internal/reflectlite.Value).Type", "(internal/reflectlite.Value).IsNil", "internal/reflectlite.TypeOf", "(internal/reflectlite.Value).Elem", "(internal/reflectlite.Value).Set"], unfollowed := true, recurses := true, named := ["raycone/api.ErrShape", "raycone/api.ErrBound", "raycone/api.ErrText", "raycone/api.ErrEmpty", "raycone/api.ErrName", "raycone/api.ErrNone", "raycone/api.ErrOrder", "raycone/api.ErrProof", "errors.errorType"], apart := false, laid := [("errors.errorType", laid_errors_errorType), ("raycone/api.ErrText", laid_raycone_api_ErrText), ("raycone/api.ErrBound", laid_raycone_api_ErrBound), ("raycone/api.ErrShape", laid_raycone_api_ErrShape), ("raycone/api.ErrEmpty", laid_raycone_api_ErrEmpty), ("raycone/api.ErrName", laid_raycone_api_ErrName), ("raycone/api.ErrNone", laid_raycone_api_ErrNone), ("raycone/api.ErrOrder", laid_raycone_api_ErrOrder), ("raycone/api.ErrProof", laid_raycone_api_ErrProof)] }
def IntervalRefineSaid : Prop := intervalRefineRow.holds Tryd.pinned (OpenSpec.ofChange intervalRefineSpec)

/-- ITS FALSE NEIGHBOUR: 'it returns false'. Refute it at one input. -/
def intervalRefineWrong : ChangeSpec := { name := "intervalRefine", fn := fun _ => fun
  | [d1, d2, d3] => { results := [.lit (.bool false)], args := [d1, d2, d3] }
  | _ => none }
def IntervalRefineWrongFalsely : Prop := intervalRefineRow.holds Tryd.pinned (OpenSpec.ofChange intervalRefineWrong)

/-- 'rayconelaw2.CongrDone': WHATEVER THE INPUT: true; the input reads as it did. -/
def congrDoneSpec : ChangeSpec := { name := "congrDone", fn := fun _ => fun
  | [d1, d2, d3] => { results := [.lit (.bool true)], args := [d1, d2, d3] }
  | _ => none }
def congrDoneRow : OpenClaim := { program := "ytimgfgambeffeaadoor", sum := "f0c5daa55aa4eb44c2113fb53fab11e967cf1279685e55ef90ede1eef4a883e0", func := "raycone/rayconelaw2.CongrDone", spec := "congrDone", inPlace := ["internal/reflectlite.ValueOf", "(internal/reflectlite.Value).Type", "(internal/reflectlite.Value).IsNil", "internal/reflectlite.TypeOf", "(internal/reflectlite.Value).Elem", "(internal/reflectlite.Value).Set"], unfollowed := true, recurses := true, named := ["raycone/api.ErrBound", "raycone/api.ErrShape", "raycone/api.ErrText", "raycone/api.ErrEmpty", "raycone/api.ErrName", "raycone/api.ErrNone", "raycone/api.ErrOrder", "raycone/api.ErrProof", "errors.errorType"], apart := false, laid := [("errors.errorType", laid_errors_errorType), ("raycone/api.ErrText", laid_raycone_api_ErrText), ("raycone/api.ErrBound", laid_raycone_api_ErrBound), ("raycone/api.ErrShape", laid_raycone_api_ErrShape), ("raycone/api.ErrEmpty", laid_raycone_api_ErrEmpty), ("raycone/api.ErrName", laid_raycone_api_ErrName), ("raycone/api.ErrNone", laid_raycone_api_ErrNone), ("raycone/api.ErrOrder", laid_raycone_api_ErrOrder), ("raycone/api.ErrProof", laid_raycone_api_ErrProof)] }
def CongrDoneSaid : Prop := congrDoneRow.holds Tryd.pinned (OpenSpec.ofChange congrDoneSpec)

/-- ITS FALSE NEIGHBOUR: 'it returns false'. Refute it at one input. -/
def congrDoneWrong : ChangeSpec := { name := "congrDone", fn := fun _ => fun
  | [d1, d2, d3] => { results := [.lit (.bool false)], args := [d1, d2, d3] }
  | _ => none }
def CongrDoneWrongFalsely : Prop := congrDoneRow.holds Tryd.pinned (OpenSpec.ofChange congrDoneWrong)

/-- 'rayconelaw2.CongrTight': WHATEVER THE INPUT: true; the input reads as it did. -/
def congrTightSpec : ChangeSpec := { name := "congrTight", fn := fun _ => fun
  | [d1, d2] => { results := [.lit (.bool true)], args := [d1, d2] }
  | _ => none }
def congrTightRow : OpenClaim := { program := "ytimgfgambeffeaadoor", sum := "f0c5daa55aa4eb44c2113fb53fab11e967cf1279685e55ef90ede1eef4a883e0", func := "raycone/rayconelaw2.CongrTight", spec := "congrTight", inPlace := ["internal/reflectlite.ValueOf", "(internal/reflectlite.Value).Type", "(internal/reflectlite.Value).IsNil", "internal/reflectlite.TypeOf", "(internal/reflectlite.Value).Elem", "(internal/reflectlite.Value).Set"], unfollowed := true, recurses := true, named := ["raycone/api.ErrBound", "raycone/api.ErrShape", "raycone/api.ErrText", "raycone/api.ErrEmpty", "raycone/api.ErrName", "raycone/api.ErrNone", "raycone/api.ErrOrder", "raycone/api.ErrProof", "errors.errorType"], apart := false, laid := [("errors.errorType", laid_errors_errorType), ("raycone/api.ErrText", laid_raycone_api_ErrText), ("raycone/api.ErrBound", laid_raycone_api_ErrBound), ("raycone/api.ErrShape", laid_raycone_api_ErrShape), ("raycone/api.ErrEmpty", laid_raycone_api_ErrEmpty), ("raycone/api.ErrName", laid_raycone_api_ErrName), ("raycone/api.ErrNone", laid_raycone_api_ErrNone), ("raycone/api.ErrOrder", laid_raycone_api_ErrOrder), ("raycone/api.ErrProof", laid_raycone_api_ErrProof)] }
def CongrTightSaid : Prop := congrTightRow.holds Tryd.pinned (OpenSpec.ofChange congrTightSpec)

/-- ITS FALSE NEIGHBOUR: 'it returns false'. Refute it at one input. -/
def congrTightWrong : ChangeSpec := { name := "congrTight", fn := fun _ => fun
  | [d1, d2] => { results := [.lit (.bool false)], args := [d1, d2] }
  | _ => none }
def CongrTightWrongFalsely : Prop := congrTightRow.holds Tryd.pinned (OpenSpec.ofChange congrTightWrong)

/- THE SECOND FORM. 'bulk': how many values and letters a reading holds, each counted each time it is reached (what is shared counts as often as it is met; a slice's spare places count too). A statement '..UptoSaid' is the law's where the arguments, and the package variables that the reading takes, are together of bulk at most 1048576: NARROWER than '..Said'. Prove '..Said' where nothing that the law and all that it calls make is longer than what came in: it says more and counts as full. Else prove '..UptoSaid'. A law counts once. -/
mutual
def uptoBulk {H : Type} : DataW H → Nat
  | .lit (.string bytes) => bytes.length + 1
  | .lit _ => 1
  | .nil => 1
  | .ptr d => uptoBulk d + 1
  | .slice elems spare => uptoBulkAll elems + uptoBulkAll spare + 1
  | .agg parts => uptoBulkAll parts + 1
  | .iface _ d => uptoBulk d + 1
  | .map entries => uptoBulkEntries entries + 1
  | .held _ => 1
def uptoBulkAll {H : Type} : List (DataW H) → Nat
  | [] => 0
  | d :: r => uptoBulk d + uptoBulkAll r
def uptoBulkEntries {H : Type} : List (Lit × DataW H) → Nat
  | [] => 0
  | x :: r => uptoBulkEntry x + uptoBulkEntries r
def uptoBulkEntry {H : Type} : Lit × DataW H → Nat
  | (.string bytes, d) => bytes.length + uptoBulk d + 1
  | (_, d) => uptoBulk d + 1
 end
def uptoSmall : (H : Type) → List (DataW H) → Bool := fun _ ds => decide (uptoBulkAll ds ≤ 1048576)
def OpenSpec.upto (s : _root_.Go.ChangeSpec) : _root_.Go.OpenSpec := { _root_.Go.OpenSpec.ofChange s with cond := some uptoSmall }

/-- 'rayconelaw2.IntervalOf', WHERE WHAT IT READS IS OF BULK AT MOST 1048576: true; the input reads as it did. -/
def intervalOfUptoRow : OpenClaim := { program := "ytimgfgambeffeaadoor", sum := "f0c5daa55aa4eb44c2113fb53fab11e967cf1279685e55ef90ede1eef4a883e0", func := "raycone/rayconelaw2.IntervalOf", spec := "intervalOf", inPlace := ["internal/reflectlite.ValueOf", "(internal/reflectlite.Value).Type", "(internal/reflectlite.Value).IsNil", "internal/reflectlite.TypeOf", "(internal/reflectlite.Value).Elem", "(internal/reflectlite.Value).Set"], unfollowed := true, recurses := true, named := ["raycone/api.ErrShape", "raycone/api.ErrBound", "raycone/api.ErrText", "raycone/api.ErrEmpty", "raycone/api.ErrName", "raycone/api.ErrNone", "raycone/api.ErrOrder", "raycone/api.ErrProof", "errors.errorType"], apart := false, laid := [("errors.errorType", laid_errors_errorType), ("raycone/api.ErrText", laid_raycone_api_ErrText), ("raycone/api.ErrBound", laid_raycone_api_ErrBound), ("raycone/api.ErrShape", laid_raycone_api_ErrShape), ("raycone/api.ErrEmpty", laid_raycone_api_ErrEmpty), ("raycone/api.ErrName", laid_raycone_api_ErrName), ("raycone/api.ErrNone", laid_raycone_api_ErrNone), ("raycone/api.ErrOrder", laid_raycone_api_ErrOrder), ("raycone/api.ErrProof", laid_raycone_api_ErrProof)], narrowed := true }
def IntervalOfUptoSaid : Prop := intervalOfUptoRow.holds Tryd.pinned (OpenSpec.upto intervalOfSpec)

/-- 'rayconelaw2.CongrMeet', WHERE WHAT IT READS IS OF BULK AT MOST 1048576: true; the input reads as it did. -/
def congrMeetUptoRow : OpenClaim := { program := "ytimgfgambeffeaadoor", sum := "f0c5daa55aa4eb44c2113fb53fab11e967cf1279685e55ef90ede1eef4a883e0", func := "raycone/rayconelaw2.CongrMeet", spec := "congrMeet", inPlace := ["internal/reflectlite.ValueOf", "(internal/reflectlite.Value).Type", "(internal/reflectlite.Value).IsNil", "internal/reflectlite.TypeOf", "(internal/reflectlite.Value).Elem", "(internal/reflectlite.Value).Set"], unfollowed := true, recurses := true, named := ["raycone/api.ErrBound", "raycone/api.ErrShape", "raycone/api.ErrText", "raycone/api.ErrEmpty", "raycone/api.ErrName", "raycone/api.ErrNone", "raycone/api.ErrOrder", "raycone/api.ErrProof", "errors.errorType"], apart := false, laid := [("errors.errorType", laid_errors_errorType), ("raycone/api.ErrText", laid_raycone_api_ErrText), ("raycone/api.ErrBound", laid_raycone_api_ErrBound), ("raycone/api.ErrShape", laid_raycone_api_ErrShape), ("raycone/api.ErrEmpty", laid_raycone_api_ErrEmpty), ("raycone/api.ErrName", laid_raycone_api_ErrName), ("raycone/api.ErrNone", laid_raycone_api_ErrNone), ("raycone/api.ErrOrder", laid_raycone_api_ErrOrder), ("raycone/api.ErrProof", laid_raycone_api_ErrProof)], narrowed := true }
def CongrMeetUptoSaid : Prop := congrMeetUptoRow.holds Tryd.pinned (OpenSpec.upto congrMeetSpec)

/-- 'rayconelaw2.CongrJoin', WHERE WHAT IT READS IS OF BULK AT MOST 1048576: true; the input reads as it did. -/
def congrJoinUptoRow : OpenClaim := { program := "ytimgfgambeffeaadoor", sum := "f0c5daa55aa4eb44c2113fb53fab11e967cf1279685e55ef90ede1eef4a883e0", func := "raycone/rayconelaw2.CongrJoin", spec := "congrJoin", inPlace := ["internal/reflectlite.ValueOf", "(internal/reflectlite.Value).Type", "(internal/reflectlite.Value).IsNil", "internal/reflectlite.TypeOf", "(internal/reflectlite.Value).Elem", "(internal/reflectlite.Value).Set"], unfollowed := true, recurses := true, named := ["raycone/api.ErrBound", "raycone/api.ErrShape", "raycone/api.ErrText", "raycone/api.ErrEmpty", "raycone/api.ErrName", "raycone/api.ErrNone", "raycone/api.ErrOrder", "raycone/api.ErrProof", "errors.errorType"], apart := false, laid := [("errors.errorType", laid_errors_errorType), ("raycone/api.ErrText", laid_raycone_api_ErrText), ("raycone/api.ErrBound", laid_raycone_api_ErrBound), ("raycone/api.ErrShape", laid_raycone_api_ErrShape), ("raycone/api.ErrEmpty", laid_raycone_api_ErrEmpty), ("raycone/api.ErrName", laid_raycone_api_ErrName), ("raycone/api.ErrNone", laid_raycone_api_ErrNone), ("raycone/api.ErrOrder", laid_raycone_api_ErrOrder), ("raycone/api.ErrProof", laid_raycone_api_ErrProof)], narrowed := true }
def CongrJoinUptoSaid : Prop := congrJoinUptoRow.holds Tryd.pinned (OpenSpec.upto congrJoinSpec)

/-- 'rayconelaw2.CongrOf', WHERE WHAT IT READS IS OF BULK AT MOST 1048576: true; the input reads as it did. -/
def congrOfUptoRow : OpenClaim := { program := "ytimgfgambeffeaadoor", sum := "f0c5daa55aa4eb44c2113fb53fab11e967cf1279685e55ef90ede1eef4a883e0", func := "raycone/rayconelaw2.CongrOf", spec := "congrOf", inPlace := ["internal/reflectlite.ValueOf", "(internal/reflectlite.Value).Type", "(internal/reflectlite.Value).IsNil", "internal/reflectlite.TypeOf", "(internal/reflectlite.Value).Elem", "(internal/reflectlite.Value).Set"], unfollowed := true, recurses := true, named := ["raycone/api.ErrBound", "raycone/api.ErrShape", "raycone/api.ErrText", "raycone/api.ErrEmpty", "raycone/api.ErrName", "raycone/api.ErrNone", "raycone/api.ErrOrder", "raycone/api.ErrProof", "errors.errorType"], apart := false, laid := [("errors.errorType", laid_errors_errorType), ("raycone/api.ErrText", laid_raycone_api_ErrText), ("raycone/api.ErrBound", laid_raycone_api_ErrBound), ("raycone/api.ErrShape", laid_raycone_api_ErrShape), ("raycone/api.ErrEmpty", laid_raycone_api_ErrEmpty), ("raycone/api.ErrName", laid_raycone_api_ErrName), ("raycone/api.ErrNone", laid_raycone_api_ErrNone), ("raycone/api.ErrOrder", laid_raycone_api_ErrOrder), ("raycone/api.ErrProof", laid_raycone_api_ErrProof)], narrowed := true }
def CongrOfUptoSaid : Prop := congrOfUptoRow.holds Tryd.pinned (OpenSpec.upto congrOfSpec)

/-- 'rayconelaw2.IntervalLattice', WHERE WHAT IT READS IS OF BULK AT MOST 1048576: true; the input reads as it did. -/
def intervalLatticeUptoRow : OpenClaim := { program := "ytimgfgambeffeaadoor", sum := "f0c5daa55aa4eb44c2113fb53fab11e967cf1279685e55ef90ede1eef4a883e0", func := "raycone/rayconelaw2.IntervalLattice", spec := "intervalLattice", inPlace := ["internal/reflectlite.ValueOf", "(internal/reflectlite.Value).Type", "(internal/reflectlite.Value).IsNil", "internal/reflectlite.TypeOf", "(internal/reflectlite.Value).Elem", "(internal/reflectlite.Value).Set"], unfollowed := true, recurses := true, named := ["raycone/api.ErrShape", "raycone/api.ErrBound", "raycone/api.ErrText", "raycone/api.ErrEmpty", "raycone/api.ErrName", "raycone/api.ErrNone", "raycone/api.ErrOrder", "raycone/api.ErrProof", "errors.errorType"], apart := false, laid := [("errors.errorType", laid_errors_errorType), ("raycone/api.ErrText", laid_raycone_api_ErrText), ("raycone/api.ErrBound", laid_raycone_api_ErrBound), ("raycone/api.ErrShape", laid_raycone_api_ErrShape), ("raycone/api.ErrEmpty", laid_raycone_api_ErrEmpty), ("raycone/api.ErrName", laid_raycone_api_ErrName), ("raycone/api.ErrNone", laid_raycone_api_ErrNone), ("raycone/api.ErrOrder", laid_raycone_api_ErrOrder), ("raycone/api.ErrProof", laid_raycone_api_ErrProof)], narrowed := true }
def IntervalLatticeUptoSaid : Prop := intervalLatticeUptoRow.holds Tryd.pinned (OpenSpec.upto intervalLatticeSpec)

/-- 'rayconelaw2.IntervalWiden', WHERE WHAT IT READS IS OF BULK AT MOST 1048576: true; the input reads as it did. -/
def intervalWidenUptoRow : OpenClaim := { program := "ytimgfgambeffeaadoor", sum := "f0c5daa55aa4eb44c2113fb53fab11e967cf1279685e55ef90ede1eef4a883e0", func := "raycone/rayconelaw2.IntervalWiden", spec := "intervalWiden", inPlace := ["internal/reflectlite.ValueOf", "(internal/reflectlite.Value).Type", "(internal/reflectlite.Value).IsNil", "internal/reflectlite.TypeOf", "(internal/reflectlite.Value).Elem", "(internal/reflectlite.Value).Set"], unfollowed := true, recurses := true, named := ["raycone/api.ErrShape", "raycone/api.ErrBound", "raycone/api.ErrEmpty", "raycone/api.ErrText", "raycone/api.ErrName", "raycone/api.ErrNone", "raycone/api.ErrOrder", "raycone/api.ErrProof", "errors.errorType"], apart := false, laid := [("errors.errorType", laid_errors_errorType), ("raycone/api.ErrText", laid_raycone_api_ErrText), ("raycone/api.ErrBound", laid_raycone_api_ErrBound), ("raycone/api.ErrShape", laid_raycone_api_ErrShape), ("raycone/api.ErrEmpty", laid_raycone_api_ErrEmpty), ("raycone/api.ErrName", laid_raycone_api_ErrName), ("raycone/api.ErrNone", laid_raycone_api_ErrNone), ("raycone/api.ErrOrder", laid_raycone_api_ErrOrder), ("raycone/api.ErrProof", laid_raycone_api_ErrProof)], narrowed := true }
def IntervalWidenUptoSaid : Prop := intervalWidenUptoRow.holds Tryd.pinned (OpenSpec.upto intervalWidenSpec)

/-- 'rayconelaw2.IntervalRefine', WHERE WHAT IT READS IS OF BULK AT MOST 1048576: true; the input reads as it did. -/
def intervalRefineUptoRow : OpenClaim := { program := "ytimgfgambeffeaadoor", sum := "f0c5daa55aa4eb44c2113fb53fab11e967cf1279685e55ef90ede1eef4a883e0", func := "raycone/rayconelaw2.IntervalRefine", spec := "intervalRefine", inPlace := ["internal/reflectlite.ValueOf", "(internal/reflectlite.Value).Type", "(internal/reflectlite.Value).IsNil", "internal/reflectlite.TypeOf", "(internal/reflectlite.Value).Elem", "(internal/reflectlite.Value).Set"], unfollowed := true, recurses := true, named := ["raycone/api.ErrShape", "raycone/api.ErrBound", "raycone/api.ErrText", "raycone/api.ErrEmpty", "raycone/api.ErrName", "raycone/api.ErrNone", "raycone/api.ErrOrder", "raycone/api.ErrProof", "errors.errorType"], apart := false, laid := [("errors.errorType", laid_errors_errorType), ("raycone/api.ErrText", laid_raycone_api_ErrText), ("raycone/api.ErrBound", laid_raycone_api_ErrBound), ("raycone/api.ErrShape", laid_raycone_api_ErrShape), ("raycone/api.ErrEmpty", laid_raycone_api_ErrEmpty), ("raycone/api.ErrName", laid_raycone_api_ErrName), ("raycone/api.ErrNone", laid_raycone_api_ErrNone), ("raycone/api.ErrOrder", laid_raycone_api_ErrOrder), ("raycone/api.ErrProof", laid_raycone_api_ErrProof)], narrowed := true }
def IntervalRefineUptoSaid : Prop := intervalRefineUptoRow.holds Tryd.pinned (OpenSpec.upto intervalRefineSpec)

/-- 'rayconelaw2.CongrDone', WHERE WHAT IT READS IS OF BULK AT MOST 1048576: true; the input reads as it did. -/
def congrDoneUptoRow : OpenClaim := { program := "ytimgfgambeffeaadoor", sum := "f0c5daa55aa4eb44c2113fb53fab11e967cf1279685e55ef90ede1eef4a883e0", func := "raycone/rayconelaw2.CongrDone", spec := "congrDone", inPlace := ["internal/reflectlite.ValueOf", "(internal/reflectlite.Value).Type", "(internal/reflectlite.Value).IsNil", "internal/reflectlite.TypeOf", "(internal/reflectlite.Value).Elem", "(internal/reflectlite.Value).Set"], unfollowed := true, recurses := true, named := ["raycone/api.ErrBound", "raycone/api.ErrShape", "raycone/api.ErrText", "raycone/api.ErrEmpty", "raycone/api.ErrName", "raycone/api.ErrNone", "raycone/api.ErrOrder", "raycone/api.ErrProof", "errors.errorType"], apart := false, laid := [("errors.errorType", laid_errors_errorType), ("raycone/api.ErrText", laid_raycone_api_ErrText), ("raycone/api.ErrBound", laid_raycone_api_ErrBound), ("raycone/api.ErrShape", laid_raycone_api_ErrShape), ("raycone/api.ErrEmpty", laid_raycone_api_ErrEmpty), ("raycone/api.ErrName", laid_raycone_api_ErrName), ("raycone/api.ErrNone", laid_raycone_api_ErrNone), ("raycone/api.ErrOrder", laid_raycone_api_ErrOrder), ("raycone/api.ErrProof", laid_raycone_api_ErrProof)], narrowed := true }
def CongrDoneUptoSaid : Prop := congrDoneUptoRow.holds Tryd.pinned (OpenSpec.upto congrDoneSpec)

/-- 'rayconelaw2.CongrTight', WHERE WHAT IT READS IS OF BULK AT MOST 1048576: true; the input reads as it did. -/
def congrTightUptoRow : OpenClaim := { program := "ytimgfgambeffeaadoor", sum := "f0c5daa55aa4eb44c2113fb53fab11e967cf1279685e55ef90ede1eef4a883e0", func := "raycone/rayconelaw2.CongrTight", spec := "congrTight", inPlace := ["internal/reflectlite.ValueOf", "(internal/reflectlite.Value).Type", "(internal/reflectlite.Value).IsNil", "internal/reflectlite.TypeOf", "(internal/reflectlite.Value).Elem", "(internal/reflectlite.Value).Set"], unfollowed := true, recurses := true, named := ["raycone/api.ErrBound", "raycone/api.ErrShape", "raycone/api.ErrText", "raycone/api.ErrEmpty", "raycone/api.ErrName", "raycone/api.ErrNone", "raycone/api.ErrOrder", "raycone/api.ErrProof", "errors.errorType"], apart := false, laid := [("errors.errorType", laid_errors_errorType), ("raycone/api.ErrText", laid_raycone_api_ErrText), ("raycone/api.ErrBound", laid_raycone_api_ErrBound), ("raycone/api.ErrShape", laid_raycone_api_ErrShape), ("raycone/api.ErrEmpty", laid_raycone_api_ErrEmpty), ("raycone/api.ErrName", laid_raycone_api_ErrName), ("raycone/api.ErrNone", laid_raycone_api_ErrNone), ("raycone/api.ErrOrder", laid_raycone_api_ErrOrder), ("raycone/api.ErrProof", laid_raycone_api_ErrProof)], narrowed := true }
def CongrTightUptoSaid : Prop := congrTightUptoRow.holds Tryd.pinned (OpenSpec.upto congrTightSpec)

end Rows
end Go.Proofs.YtimgfgambeffeaaDoor
