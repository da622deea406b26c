/-
  NARROWER THAN 'FOR EVERY INPUT', by the rows' own cells (each row's printed sentence says how): CongrChinese: laid · ZoneReached: laid · IntervalStays: laid · ZoneStays: laid · IntervalKeeps: laid · CongrLattice: laid · ZoneTriangle: laid · OctStays: laid · ZoneBox: laid · OctReached: laid · OctStrong: laid · ZoneSound: laid · OctTurns: laid · OctSound: laid.
  DERIVED. THE GIVEN ROWS OF THIS SEAT. 14 by the template 'for every input the law returns true; each argument reads behind the call as it read before'; 0 by the template 'total and deterministic' (their statements: YtjpboodkmhikpaaDoorTotals.lean).
  GIVEN WITH THE SEED: the statements are not yours to turn. If you find one false, say at which input.
  Laid BY PROGRAM, IN A SANDBOX (cutbox-rows.mjs): the forced cells as the released guide's own fill.sh prints them over the translation 6e1949cadb24a227… (all of the seat's roots in one cut). By AI agents, Wed Nov 11 2026. No macro, syntax, notation, axiom, sorry.
-/
import Derived.Test.YtjpboodkmhikpaaDoorChecked
import GoSem.Claim
import GoSem.ClaimJoined
import GoSem.ClaimMapViews
import Derived.JoinedTies
import Derived.KernelRfl
namespace Go.Proofs.YtjpboodkmhikpaaDoor
/- THE CELL 'sum', in the pinned program and in every row, IS THE sha256 OF THE DUMP (.gsa) THAT YtjpboodkmhikpaaDoorProg.lean LOADS. Nothing in Lean hashes anything: it is a label: what it is worth is what the hold of that sum in a sandbox is worth. -/
noncomputable def Tryd.pinned : Pinned := { name := "ytjpboodkmhikpaadoor", sum := "6e1949cadb24a2278f6087e1f4d76c5f33063b0223c0af84b68212399f9a769c", checked := Tryd.checked }
namespace Rows
def none {H : Type} : Left H := { results := [], args := [] }

/- WHAT THE LISTED PACKAGE-LEVEL VARIABLES READ AS WHEN THE CALL BEGINS. Each datum BY PROGRAM (the guide's laid-datum.mjs) off the statement by which the dump's own 'gosem.cut.vars' lays the variable. In a bare row this is a premise. The card (YtjpboodkmhikpaaDoorCards.lean) ties it to the program's text. -/
def laid_raycone_api_ErrBound {H : Type} : DataW H := .iface "*errors.errorString" (.ptr (.agg [.lit (.string [114, 97, 121, 99, 111, 110, 101, 58, 32, 98, 111, 117, 110, 100])]))
def laid_raycone_api_ErrShape {H : Type} : DataW H := .iface "*errors.errorString" (.ptr (.agg [.lit (.string [114, 97, 121, 99, 111, 110, 101, 58, 32, 115, 104, 97, 112, 101])]))
def laid_raycone_api_ErrText {H : Type} : DataW H := .iface "*errors.errorString" (.ptr (.agg [.lit (.string [114, 97, 121, 99, 111, 110, 101, 58, 32, 116, 101, 120, 116])]))
def laid_raycone_api_ErrEmpty {H : Type} : DataW H := .iface "*errors.errorString" (.ptr (.agg [.lit (.string [114, 97, 121, 99, 111, 110, 101, 58, 32, 101, 109, 112, 116, 121])]))
def laid_raycone_api_ErrOrder {H : Type} : DataW H := .iface "*errors.errorString" (.ptr (.agg [.lit (.string [114, 97, 121, 99, 111, 110, 101, 58, 32, 111, 114, 100, 101, 114])]))

/-- 'rayconelaw2.CongrChinese': WHATEVER THE INPUT: true; the input reads as it did. -/
def congrChineseSpec : ChangeSpec := { name := "congrChinese", fn := fun _ => fun
  | [d1, d2, d3] => { results := [.lit (.bool true)], args := [d1, d2, d3] }
  | _ => none }
def congrChineseRow : OpenClaim := { program := "ytjpboodkmhikpaadoor", sum := "6e1949cadb24a2278f6087e1f4d76c5f33063b0223c0af84b68212399f9a769c", func := "raycone/rayconelaw2.CongrChinese", spec := "congrChinese", named := ["raycone/api.ErrBound", "raycone/api.ErrShape"], apart := false, laid := [("raycone/api.ErrBound", laid_raycone_api_ErrBound), ("raycone/api.ErrShape", laid_raycone_api_ErrShape)] }
def CongrChineseSaid : Prop := congrChineseRow.holds Tryd.pinned (OpenSpec.ofChange congrChineseSpec)

/-- ITS FALSE NEIGHBOUR: 'it returns false'. Refute it at one input. -/
def congrChineseWrong : ChangeSpec := { name := "congrChinese", fn := fun _ => fun
  | [d1, d2, d3] => { results := [.lit (.bool false)], args := [d1, d2, d3] }
  | _ => none }
def CongrChineseWrongFalsely : Prop := congrChineseRow.holds Tryd.pinned (OpenSpec.ofChange congrChineseWrong)

/-- 'rayconelaw2.ZoneReached': WHATEVER THE INPUT: true; the input reads as it did. -/
def zoneReachedSpec : ChangeSpec := { name := "zoneReached", fn := fun _ => fun
  | [d1, d2, d3] => { results := [.lit (.bool true)], args := [d1, d2, d3] }
  | _ => none }
def zoneReachedRow : OpenClaim := { program := "ytjpboodkmhikpaadoor", sum := "6e1949cadb24a2278f6087e1f4d76c5f33063b0223c0af84b68212399f9a769c", func := "raycone/rayconelaw2.ZoneReached", spec := "zoneReached", unfollowed := true, recurses := true, named := ["raycone/api.ErrBound", "raycone/api.ErrShape"], apart := false, laid := [("raycone/api.ErrBound", laid_raycone_api_ErrBound), ("raycone/api.ErrShape", laid_raycone_api_ErrShape)] }
def ZoneReachedSaid : Prop := zoneReachedRow.holds Tryd.pinned (OpenSpec.ofChange zoneReachedSpec)

/-- ITS FALSE NEIGHBOUR: 'it returns false'. Refute it at one input. -/
def zoneReachedWrong : ChangeSpec := { name := "zoneReached", fn := fun _ => fun
  | [d1, d2, d3] => { results := [.lit (.bool false)], args := [d1, d2, d3] }
  | _ => none }
def ZoneReachedWrongFalsely : Prop := zoneReachedRow.holds Tryd.pinned (OpenSpec.ofChange zoneReachedWrong)

/-- 'rayconelaw2.IntervalStays': WHATEVER THE INPUT: true; the input reads as it did. -/
def intervalStaysSpec : ChangeSpec := { name := "intervalStays", fn := fun _ => fun
  | [d1, d2, d3] => { results := [.lit (.bool true)], args := [d1, d2, d3] }
  | _ => none }
def intervalStaysRow : OpenClaim := { program := "ytjpboodkmhikpaadoor", sum := "6e1949cadb24a2278f6087e1f4d76c5f33063b0223c0af84b68212399f9a769c", func := "raycone/rayconelaw2.IntervalStays", spec := "intervalStays", named := ["raycone/api.ErrShape", "raycone/api.ErrBound"], apart := false, laid := [("raycone/api.ErrBound", laid_raycone_api_ErrBound), ("raycone/api.ErrShape", laid_raycone_api_ErrShape)] }
def IntervalStaysSaid : Prop := intervalStaysRow.holds Tryd.pinned (OpenSpec.ofChange intervalStaysSpec)

/-- ITS FALSE NEIGHBOUR: 'it returns false'. Refute it at one input. -/
def intervalStaysWrong : ChangeSpec := { name := "intervalStays", fn := fun _ => fun
  | [d1, d2, d3] => { results := [.lit (.bool false)], args := [d1, d2, d3] }
  | _ => none }
def IntervalStaysWrongFalsely : Prop := intervalStaysRow.holds Tryd.pinned (OpenSpec.ofChange intervalStaysWrong)

/-- 'rayconelaw2.ZoneStays': WHATEVER THE INPUT: true; the input reads as it did. -/
def zoneStaysSpec : ChangeSpec := { name := "zoneStays", fn := fun _ => fun
  | [d1, d2] => { results := [.lit (.bool true)], args := [d1, d2] }
  | _ => none }
def zoneStaysRow : OpenClaim := { program := "ytjpboodkmhikpaadoor", sum := "6e1949cadb24a2278f6087e1f4d76c5f33063b0223c0af84b68212399f9a769c", func := "raycone/rayconelaw2.ZoneStays", spec := "zoneStays", unfollowed := true, recurses := true, named := ["raycone/api.ErrBound", "raycone/api.ErrShape"], apart := false, laid := [("raycone/api.ErrBound", laid_raycone_api_ErrBound), ("raycone/api.ErrShape", laid_raycone_api_ErrShape)] }
def ZoneStaysSaid : Prop := zoneStaysRow.holds Tryd.pinned (OpenSpec.ofChange zoneStaysSpec)

/-- ITS FALSE NEIGHBOUR: 'it returns false'. Refute it at one input. -/
def zoneStaysWrong : ChangeSpec := { name := "zoneStays", fn := fun _ => fun
  | [d1, d2] => { results := [.lit (.bool false)], args := [d1, d2] }
  | _ => none }
def ZoneStaysWrongFalsely : Prop := zoneStaysRow.holds Tryd.pinned (OpenSpec.ofChange zoneStaysWrong)

/-- 'rayconelaw2.IntervalKeeps': WHATEVER THE INPUT: true; the input reads as it did. -/
def intervalKeepsSpec : ChangeSpec := { name := "intervalKeeps", fn := fun _ => fun
  | [d1, d2, d3, d4, d5] => { results := [.lit (.bool true)], args := [d1, d2, d3, d4, d5] }
  | _ => none }
def intervalKeepsRow : OpenClaim := { program := "ytjpboodkmhikpaadoor", sum := "6e1949cadb24a2278f6087e1f4d76c5f33063b0223c0af84b68212399f9a769c", func := "raycone/rayconelaw2.IntervalKeeps", spec := "intervalKeeps", unfollowed := true, recurses := true, named := ["raycone/api.ErrShape", "raycone/api.ErrBound", "raycone/api.ErrText"], apart := false, laid := [("raycone/api.ErrText", laid_raycone_api_ErrText), ("raycone/api.ErrBound", laid_raycone_api_ErrBound), ("raycone/api.ErrShape", laid_raycone_api_ErrShape)] }
def IntervalKeepsSaid : Prop := intervalKeepsRow.holds Tryd.pinned (OpenSpec.ofChange intervalKeepsSpec)

/-- ITS FALSE NEIGHBOUR: 'it returns false'. Refute it at one input. -/
def intervalKeepsWrong : ChangeSpec := { name := "intervalKeeps", fn := fun _ => fun
  | [d1, d2, d3, d4, d5] => { results := [.lit (.bool false)], args := [d1, d2, d3, d4, d5] }
  | _ => none }
def IntervalKeepsWrongFalsely : Prop := intervalKeepsRow.holds Tryd.pinned (OpenSpec.ofChange intervalKeepsWrong)

/-- 'rayconelaw2.CongrLattice': WHATEVER THE INPUT: true; the input reads as it did. -/
def congrLatticeSpec : ChangeSpec := { name := "congrLattice", fn := fun _ => fun
  | [d1, d2] => { results := [.lit (.bool true)], args := [d1, d2] }
  | _ => none }
def congrLatticeRow : OpenClaim := { program := "ytjpboodkmhikpaadoor", sum := "6e1949cadb24a2278f6087e1f4d76c5f33063b0223c0af84b68212399f9a769c", func := "raycone/rayconelaw2.CongrLattice", spec := "congrLattice", named := ["raycone/api.ErrBound", "raycone/api.ErrShape"], apart := false, laid := [("raycone/api.ErrBound", laid_raycone_api_ErrBound), ("raycone/api.ErrShape", laid_raycone_api_ErrShape)] }
def CongrLatticeSaid : Prop := congrLatticeRow.holds Tryd.pinned (OpenSpec.ofChange congrLatticeSpec)

/-- ITS FALSE NEIGHBOUR: 'it returns false'. Refute it at one input. -/
def congrLatticeWrong : ChangeSpec := { name := "congrLattice", fn := fun _ => fun
  | [d1, d2] => { results := [.lit (.bool false)], args := [d1, d2] }
  | _ => none }
def CongrLatticeWrongFalsely : Prop := congrLatticeRow.holds Tryd.pinned (OpenSpec.ofChange congrLatticeWrong)

/-- 'rayconelaw2.ZoneTriangle': WHATEVER THE INPUT: true; the input reads as it did. -/
def zoneTriangleSpec : ChangeSpec := { name := "zoneTriangle", fn := fun _ => fun
  | [d] => { results := [.lit (.bool true)], args := [d] }
  | _ => none }
def zoneTriangleRow : OpenClaim := { program := "ytjpboodkmhikpaadoor", sum := "6e1949cadb24a2278f6087e1f4d76c5f33063b0223c0af84b68212399f9a769c", func := "raycone/rayconelaw2.ZoneTriangle", spec := "zoneTriangle", unfollowed := true, recurses := true, named := ["raycone/api.ErrBound", "raycone/api.ErrShape", "raycone/api.ErrEmpty"], apart := false, laid := [("raycone/api.ErrBound", laid_raycone_api_ErrBound), ("raycone/api.ErrShape", laid_raycone_api_ErrShape), ("raycone/api.ErrEmpty", laid_raycone_api_ErrEmpty)] }
def ZoneTriangleSaid : Prop := zoneTriangleRow.holds Tryd.pinned (OpenSpec.ofChange zoneTriangleSpec)

/-- ITS FALSE NEIGHBOUR: 'it returns false'. Refute it at one input. -/
def zoneTriangleWrong : ChangeSpec := { name := "zoneTriangle", fn := fun _ => fun
  | [d] => { results := [.lit (.bool false)], args := [d] }
  | _ => none }
def ZoneTriangleWrongFalsely : Prop := zoneTriangleRow.holds Tryd.pinned (OpenSpec.ofChange zoneTriangleWrong)

/-- 'rayconelaw2.OctStays': WHATEVER THE INPUT: true; the input reads as it did. -/
def octStaysSpec : ChangeSpec := { name := "octStays", fn := fun _ => fun
  | [d1, d2] => { results := [.lit (.bool true)], args := [d1, d2] }
  | _ => none }
def octStaysRow : OpenClaim := { program := "ytjpboodkmhikpaadoor", sum := "6e1949cadb24a2278f6087e1f4d76c5f33063b0223c0af84b68212399f9a769c", func := "raycone/rayconelaw2.OctStays", spec := "octStays", unfollowed := true, recurses := true, named := ["raycone/api.ErrBound", "raycone/api.ErrShape", "raycone/api.ErrOrder"], apart := false, laid := [("raycone/api.ErrBound", laid_raycone_api_ErrBound), ("raycone/api.ErrShape", laid_raycone_api_ErrShape), ("raycone/api.ErrOrder", laid_raycone_api_ErrOrder)] }
def OctStaysSaid : Prop := octStaysRow.holds Tryd.pinned (OpenSpec.ofChange octStaysSpec)

/-- ITS FALSE NEIGHBOUR: 'it returns false'. Refute it at one input. -/
def octStaysWrong : ChangeSpec := { name := "octStays", fn := fun _ => fun
  | [d1, d2] => { results := [.lit (.bool false)], args := [d1, d2] }
  | _ => none }
def OctStaysWrongFalsely : Prop := octStaysRow.holds Tryd.pinned (OpenSpec.ofChange octStaysWrong)

/-- 'rayconelaw2.ZoneBox': WHATEVER THE INPUT: true; the input reads as it did. -/
def zoneBoxSpec : ChangeSpec := { name := "zoneBox", fn := fun _ => fun
  | [d1, d2] => { results := [.lit (.bool true)], args := [d1, d2] }
  | _ => none }
def zoneBoxRow : OpenClaim := { program := "ytjpboodkmhikpaadoor", sum := "6e1949cadb24a2278f6087e1f4d76c5f33063b0223c0af84b68212399f9a769c", func := "raycone/rayconelaw2.ZoneBox", spec := "zoneBox", unfollowed := true, recurses := true, named := ["raycone/api.ErrBound", "raycone/api.ErrShape"], apart := false, laid := [("raycone/api.ErrBound", laid_raycone_api_ErrBound), ("raycone/api.ErrShape", laid_raycone_api_ErrShape)] }
def ZoneBoxSaid : Prop := zoneBoxRow.holds Tryd.pinned (OpenSpec.ofChange zoneBoxSpec)

/-- ITS FALSE NEIGHBOUR: 'it returns false'. Refute it at one input. -/
def zoneBoxWrong : ChangeSpec := { name := "zoneBox", fn := fun _ => fun
  | [d1, d2] => { results := [.lit (.bool false)], args := [d1, d2] }
  | _ => none }
def ZoneBoxWrongFalsely : Prop := zoneBoxRow.holds Tryd.pinned (OpenSpec.ofChange zoneBoxWrong)

/-- 'rayconelaw2.OctReached': WHATEVER THE INPUT: true; the input reads as it did. -/
def octReachedSpec : ChangeSpec := { name := "octReached", fn := fun _ => fun
  | [d1, d2, d3, d4, d5] => { results := [.lit (.bool true)], args := [d1, d2, d3, d4, d5] }
  | _ => none }
def octReachedRow : OpenClaim := { program := "ytjpboodkmhikpaadoor", sum := "6e1949cadb24a2278f6087e1f4d76c5f33063b0223c0af84b68212399f9a769c", func := "raycone/rayconelaw2.OctReached", spec := "octReached", unfollowed := true, recurses := true, named := ["raycone/api.ErrBound", "raycone/api.ErrShape", "raycone/api.ErrOrder"], apart := false, laid := [("raycone/api.ErrBound", laid_raycone_api_ErrBound), ("raycone/api.ErrShape", laid_raycone_api_ErrShape), ("raycone/api.ErrOrder", laid_raycone_api_ErrOrder)] }
def OctReachedSaid : Prop := octReachedRow.holds Tryd.pinned (OpenSpec.ofChange octReachedSpec)

/-- ITS FALSE NEIGHBOUR: 'it returns false'. Refute it at one input. -/
def octReachedWrong : ChangeSpec := { name := "octReached", fn := fun _ => fun
  | [d1, d2, d3, d4, d5] => { results := [.lit (.bool false)], args := [d1, d2, d3, d4, d5] }
  | _ => none }
def OctReachedWrongFalsely : Prop := octReachedRow.holds Tryd.pinned (OpenSpec.ofChange octReachedWrong)

/-- 'rayconelaw2.OctStrong': WHATEVER THE INPUT: true; the input reads as it did. -/
def octStrongSpec : ChangeSpec := { name := "octStrong", fn := fun _ => fun
  | [d] => { results := [.lit (.bool true)], args := [d] }
  | _ => none }
def octStrongRow : OpenClaim := { program := "ytjpboodkmhikpaadoor", sum := "6e1949cadb24a2278f6087e1f4d76c5f33063b0223c0af84b68212399f9a769c", func := "raycone/rayconelaw2.OctStrong", spec := "octStrong", unfollowed := true, recurses := true, named := ["raycone/api.ErrBound", "raycone/api.ErrShape", "raycone/api.ErrOrder", "raycone/api.ErrEmpty"], apart := false, laid := [("raycone/api.ErrBound", laid_raycone_api_ErrBound), ("raycone/api.ErrShape", laid_raycone_api_ErrShape), ("raycone/api.ErrEmpty", laid_raycone_api_ErrEmpty), ("raycone/api.ErrOrder", laid_raycone_api_ErrOrder)] }
def OctStrongSaid : Prop := octStrongRow.holds Tryd.pinned (OpenSpec.ofChange octStrongSpec)

/-- ITS FALSE NEIGHBOUR: 'it returns false'. Refute it at one input. -/
def octStrongWrong : ChangeSpec := { name := "octStrong", fn := fun _ => fun
  | [d] => { results := [.lit (.bool false)], args := [d] }
  | _ => none }
def OctStrongWrongFalsely : Prop := octStrongRow.holds Tryd.pinned (OpenSpec.ofChange octStrongWrong)

/-- 'rayconelaw2.ZoneSound': WHATEVER THE INPUT: true; the input reads as it did. -/
def zoneSoundSpec : ChangeSpec := { name := "zoneSound", fn := fun _ => fun
  | [d1, d2, d3, d4, d5, d6] => { results := [.lit (.bool true)], args := [d1, d2, d3, d4, d5, d6] }
  | _ => none }
def zoneSoundRow : OpenClaim := { program := "ytjpboodkmhikpaadoor", sum := "6e1949cadb24a2278f6087e1f4d76c5f33063b0223c0af84b68212399f9a769c", func := "raycone/rayconelaw2.ZoneSound", spec := "zoneSound", unfollowed := true, recurses := true, named := ["raycone/api.ErrBound", "raycone/api.ErrShape", "raycone/api.ErrEmpty"], apart := false, laid := [("raycone/api.ErrBound", laid_raycone_api_ErrBound), ("raycone/api.ErrShape", laid_raycone_api_ErrShape), ("raycone/api.ErrEmpty", laid_raycone_api_ErrEmpty)] }
def ZoneSoundSaid : Prop := zoneSoundRow.holds Tryd.pinned (OpenSpec.ofChange zoneSoundSpec)

/-- ITS FALSE NEIGHBOUR: 'it returns false'. Refute it at one input. -/
def zoneSoundWrong : ChangeSpec := { name := "zoneSound", fn := fun _ => fun
  | [d1, d2, d3, d4, d5, d6] => { results := [.lit (.bool false)], args := [d1, d2, d3, d4, d5, d6] }
  | _ => none }
def ZoneSoundWrongFalsely : Prop := zoneSoundRow.holds Tryd.pinned (OpenSpec.ofChange zoneSoundWrong)

/-- 'rayconelaw2.OctTurns': WHATEVER THE INPUT: true; the input reads as it did. -/
def octTurnsSpec : ChangeSpec := { name := "octTurns", fn := fun _ => fun
  | [d1, d2, d3] => { results := [.lit (.bool true)], args := [d1, d2, d3] }
  | _ => none }
def octTurnsRow : OpenClaim := { program := "ytjpboodkmhikpaadoor", sum := "6e1949cadb24a2278f6087e1f4d76c5f33063b0223c0af84b68212399f9a769c", func := "raycone/rayconelaw2.OctTurns", spec := "octTurns", unfollowed := true, recurses := true, named := ["raycone/api.ErrBound", "raycone/api.ErrShape", "raycone/api.ErrOrder"], apart := false, laid := [("raycone/api.ErrBound", laid_raycone_api_ErrBound), ("raycone/api.ErrShape", laid_raycone_api_ErrShape), ("raycone/api.ErrOrder", laid_raycone_api_ErrOrder)] }
def OctTurnsSaid : Prop := octTurnsRow.holds Tryd.pinned (OpenSpec.ofChange octTurnsSpec)

/-- ITS FALSE NEIGHBOUR: 'it returns false'. Refute it at one input. -/
def octTurnsWrong : ChangeSpec := { name := "octTurns", fn := fun _ => fun
  | [d1, d2, d3] => { results := [.lit (.bool false)], args := [d1, d2, d3] }
  | _ => none }
def OctTurnsWrongFalsely : Prop := octTurnsRow.holds Tryd.pinned (OpenSpec.ofChange octTurnsWrong)

/-- 'rayconelaw2.OctSound': WHATEVER THE INPUT: true; the input reads as it did. -/
def octSoundSpec : ChangeSpec := { name := "octSound", fn := fun _ => fun
  | [d1, d2, d3, d4, d5, d6, d7] => { results := [.lit (.bool true)], args := [d1, d2, d3, d4, d5, d6, d7] }
  | _ => none }
def octSoundRow : OpenClaim := { program := "ytjpboodkmhikpaadoor", sum := "6e1949cadb24a2278f6087e1f4d76c5f33063b0223c0af84b68212399f9a769c", func := "raycone/rayconelaw2.OctSound", spec := "octSound", unfollowed := true, recurses := true, named := ["raycone/api.ErrBound", "raycone/api.ErrShape", "raycone/api.ErrOrder", "raycone/api.ErrEmpty"], apart := false, laid := [("raycone/api.ErrBound", laid_raycone_api_ErrBound), ("raycone/api.ErrShape", laid_raycone_api_ErrShape), ("raycone/api.ErrEmpty", laid_raycone_api_ErrEmpty), ("raycone/api.ErrOrder", laid_raycone_api_ErrOrder)] }
def OctSoundSaid : Prop := octSoundRow.holds Tryd.pinned (OpenSpec.ofChange octSoundSpec)

/-- ITS FALSE NEIGHBOUR: 'it returns false'. Refute it at one input. -/
def octSoundWrong : ChangeSpec := { name := "octSound", fn := fun _ => fun
  | [d1, d2, d3, d4, d5, d6, d7] => { results := [.lit (.bool false)], args := [d1, d2, d3, d4, d5, d6, d7] }
  | _ => none }
def OctSoundWrongFalsely : Prop := octSoundRow.holds Tryd.pinned (OpenSpec.ofChange octSoundWrong)

/- THE SECOND FORM. 'bulk': how many values and letters a reading holds, each counted each time it is reached (what is shared counts as often as it is met; a slice's spare places count too). A statement '..UptoSaid' is the law's where the arguments, and the package variables that the reading takes, are together of bulk at most 1048576: NARROWER than '..Said'. Prove '..Said' where nothing that the law and all that it calls make is longer than what came in: it says more and counts as full. Else prove '..UptoSaid'. A law counts once. -/
mutual
def uptoBulk {H : Type} : DataW H → Nat
  | .lit (.string bytes) => bytes.length + 1
  | .lit _ => 1
  | .nil => 1
  | .ptr d => uptoBulk d + 1
  | .slice elems spare => uptoBulkAll elems + uptoBulkAll spare + 1
  | .agg parts => uptoBulkAll parts + 1
  | .iface _ d => uptoBulk d + 1
  | .map entries => uptoBulkEntries entries + 1
  | .held _ => 1
def uptoBulkAll {H : Type} : List (DataW H) → Nat
  | [] => 0
  | d :: r => uptoBulk d + uptoBulkAll r
def uptoBulkEntries {H : Type} : List (Lit × DataW H) → Nat
  | [] => 0
  | x :: r => uptoBulkEntry x + uptoBulkEntries r
def uptoBulkEntry {H : Type} : Lit × DataW H → Nat
  | (.string bytes, d) => bytes.length + uptoBulk d + 1
  | (_, d) => uptoBulk d + 1
 end
def uptoSmall : (H : Type) → List (DataW H) → Bool := fun _ ds => decide (uptoBulkAll ds ≤ 1048576)
def OpenSpec.upto (s : _root_.Go.ChangeSpec) : _root_.Go.OpenSpec := { _root_.Go.OpenSpec.ofChange s with cond := some uptoSmall }

/-- 'rayconelaw2.CongrChinese', WHERE WHAT IT READS IS OF BULK AT MOST 1048576: true; the input reads as it did. -/
def congrChineseUptoRow : OpenClaim := { program := "ytjpboodkmhikpaadoor", sum := "6e1949cadb24a2278f6087e1f4d76c5f33063b0223c0af84b68212399f9a769c", func := "raycone/rayconelaw2.CongrChinese", spec := "congrChinese", named := ["raycone/api.ErrBound", "raycone/api.ErrShape"], apart := false, laid := [("raycone/api.ErrBound", laid_raycone_api_ErrBound), ("raycone/api.ErrShape", laid_raycone_api_ErrShape)], narrowed := true }
def CongrChineseUptoSaid : Prop := congrChineseUptoRow.holds Tryd.pinned (OpenSpec.upto congrChineseSpec)

/-- 'rayconelaw2.ZoneReached', WHERE WHAT IT READS IS OF BULK AT MOST 1048576: true; the input reads as it did. -/
def zoneReachedUptoRow : OpenClaim := { program := "ytjpboodkmhikpaadoor", sum := "6e1949cadb24a2278f6087e1f4d76c5f33063b0223c0af84b68212399f9a769c", func := "raycone/rayconelaw2.ZoneReached", spec := "zoneReached", unfollowed := true, recurses := true, named := ["raycone/api.ErrBound", "raycone/api.ErrShape"], apart := false, laid := [("raycone/api.ErrBound", laid_raycone_api_ErrBound), ("raycone/api.ErrShape", laid_raycone_api_ErrShape)], narrowed := true }
def ZoneReachedUptoSaid : Prop := zoneReachedUptoRow.holds Tryd.pinned (OpenSpec.upto zoneReachedSpec)

/-- 'rayconelaw2.IntervalStays', WHERE WHAT IT READS IS OF BULK AT MOST 1048576: true; the input reads as it did. -/
def intervalStaysUptoRow : OpenClaim := { program := "ytjpboodkmhikpaadoor", sum := "6e1949cadb24a2278f6087e1f4d76c5f33063b0223c0af84b68212399f9a769c", func := "raycone/rayconelaw2.IntervalStays", spec := "intervalStays", named := ["raycone/api.ErrShape", "raycone/api.ErrBound"], apart := false, laid := [("raycone/api.ErrBound", laid_raycone_api_ErrBound), ("raycone/api.ErrShape", laid_raycone_api_ErrShape)], narrowed := true }
def IntervalStaysUptoSaid : Prop := intervalStaysUptoRow.holds Tryd.pinned (OpenSpec.upto intervalStaysSpec)

/-- 'rayconelaw2.ZoneStays', WHERE WHAT IT READS IS OF BULK AT MOST 1048576: true; the input reads as it did. -/
def zoneStaysUptoRow : OpenClaim := { program := "ytjpboodkmhikpaadoor", sum := "6e1949cadb24a2278f6087e1f4d76c5f33063b0223c0af84b68212399f9a769c", func := "raycone/rayconelaw2.ZoneStays", spec := "zoneStays", unfollowed := true, recurses := true, named := ["raycone/api.ErrBound", "raycone/api.ErrShape"], apart := false, laid := [("raycone/api.ErrBound", laid_raycone_api_ErrBound), ("raycone/api.ErrShape", laid_raycone_api_ErrShape)], narrowed := true }
def ZoneStaysUptoSaid : Prop := zoneStaysUptoRow.holds Tryd.pinned (OpenSpec.upto zoneStaysSpec)

/-- 'rayconelaw2.IntervalKeeps', WHERE WHAT IT READS IS OF BULK AT MOST 1048576: true; the input reads as it did. -/
def intervalKeepsUptoRow : OpenClaim := { program := "ytjpboodkmhikpaadoor", sum := "6e1949cadb24a2278f6087e1f4d76c5f33063b0223c0af84b68212399f9a769c", func := "raycone/rayconelaw2.IntervalKeeps", spec := "intervalKeeps", unfollowed := true, recurses := true, named := ["raycone/api.ErrShape", "raycone/api.ErrBound", "raycone/api.ErrText"], apart := false, laid := [("raycone/api.ErrText", laid_raycone_api_ErrText), ("raycone/api.ErrBound", laid_raycone_api_ErrBound), ("raycone/api.ErrShape", laid_raycone_api_ErrShape)], narrowed := true }
def IntervalKeepsUptoSaid : Prop := intervalKeepsUptoRow.holds Tryd.pinned (OpenSpec.upto intervalKeepsSpec)

/-- 'rayconelaw2.CongrLattice', WHERE WHAT IT READS IS OF BULK AT MOST 1048576: true; the input reads as it did. -/
def congrLatticeUptoRow : OpenClaim := { program := "ytjpboodkmhikpaadoor", sum := "6e1949cadb24a2278f6087e1f4d76c5f33063b0223c0af84b68212399f9a769c", func := "raycone/rayconelaw2.CongrLattice", spec := "congrLattice", named := ["raycone/api.ErrBound", "raycone/api.ErrShape"], apart := false, laid := [("raycone/api.ErrBound", laid_raycone_api_ErrBound), ("raycone/api.ErrShape", laid_raycone_api_ErrShape)], narrowed := true }
def CongrLatticeUptoSaid : Prop := congrLatticeUptoRow.holds Tryd.pinned (OpenSpec.upto congrLatticeSpec)

/-- 'rayconelaw2.ZoneTriangle', WHERE WHAT IT READS IS OF BULK AT MOST 1048576: true; the input reads as it did. -/
def zoneTriangleUptoRow : OpenClaim := { program := "ytjpboodkmhikpaadoor", sum := "6e1949cadb24a2278f6087e1f4d76c5f33063b0223c0af84b68212399f9a769c", func := "raycone/rayconelaw2.ZoneTriangle", spec := "zoneTriangle", unfollowed := true, recurses := true, named := ["raycone/api.ErrBound", "raycone/api.ErrShape", "raycone/api.ErrEmpty"], apart := false, laid := [("raycone/api.ErrBound", laid_raycone_api_ErrBound), ("raycone/api.ErrShape", laid_raycone_api_ErrShape), ("raycone/api.ErrEmpty", laid_raycone_api_ErrEmpty)], narrowed := true }
def ZoneTriangleUptoSaid : Prop := zoneTriangleUptoRow.holds Tryd.pinned (OpenSpec.upto zoneTriangleSpec)

/-- 'rayconelaw2.OctStays', WHERE WHAT IT READS IS OF BULK AT MOST 1048576: true; the input reads as it did. -/
def octStaysUptoRow : OpenClaim := { program := "ytjpboodkmhikpaadoor", sum := "6e1949cadb24a2278f6087e1f4d76c5f33063b0223c0af84b68212399f9a769c", func := "raycone/rayconelaw2.OctStays", spec := "octStays", unfollowed := true, recurses := true, named := ["raycone/api.ErrBound", "raycone/api.ErrShape", "raycone/api.ErrOrder"], apart := false, laid := [("raycone/api.ErrBound", laid_raycone_api_ErrBound), ("raycone/api.ErrShape", laid_raycone_api_ErrShape), ("raycone/api.ErrOrder", laid_raycone_api_ErrOrder)], narrowed := true }
def OctStaysUptoSaid : Prop := octStaysUptoRow.holds Tryd.pinned (OpenSpec.upto octStaysSpec)

/-- 'rayconelaw2.ZoneBox', WHERE WHAT IT READS IS OF BULK AT MOST 1048576: true; the input reads as it did. -/
def zoneBoxUptoRow : OpenClaim := { program := "ytjpboodkmhikpaadoor", sum := "6e1949cadb24a2278f6087e1f4d76c5f33063b0223c0af84b68212399f9a769c", func := "raycone/rayconelaw2.ZoneBox", spec := "zoneBox", unfollowed := true, recurses := true, named := ["raycone/api.ErrBound", "raycone/api.ErrShape"], apart := false, laid := [("raycone/api.ErrBound", laid_raycone_api_ErrBound), ("raycone/api.ErrShape", laid_raycone_api_ErrShape)], narrowed := true }
def ZoneBoxUptoSaid : Prop := zoneBoxUptoRow.holds Tryd.pinned (OpenSpec.upto zoneBoxSpec)

/-- 'rayconelaw2.OctReached', WHERE WHAT IT READS IS OF BULK AT MOST 1048576: true; the input reads as it did. -/
def octReachedUptoRow : OpenClaim := { program := "ytjpboodkmhikpaadoor", sum := "6e1949cadb24a2278f6087e1f4d76c5f33063b0223c0af84b68212399f9a769c", func := "raycone/rayconelaw2.OctReached", spec := "octReached", unfollowed := true, recurses := true, named := ["raycone/api.ErrBound", "raycone/api.ErrShape", "raycone/api.ErrOrder"], apart := false, laid := [("raycone/api.ErrBound", laid_raycone_api_ErrBound), ("raycone/api.ErrShape", laid_raycone_api_ErrShape), ("raycone/api.ErrOrder", laid_raycone_api_ErrOrder)], narrowed := true }
def OctReachedUptoSaid : Prop := octReachedUptoRow.holds Tryd.pinned (OpenSpec.upto octReachedSpec)

/-- 'rayconelaw2.OctStrong', WHERE WHAT IT READS IS OF BULK AT MOST 1048576: true; the input reads as it did. -/
def octStrongUptoRow : OpenClaim := { program := "ytjpboodkmhikpaadoor", sum := "6e1949cadb24a2278f6087e1f4d76c5f33063b0223c0af84b68212399f9a769c", func := "raycone/rayconelaw2.OctStrong", spec := "octStrong", unfollowed := true, recurses := true, named := ["raycone/api.ErrBound", "raycone/api.ErrShape", "raycone/api.ErrOrder", "raycone/api.ErrEmpty"], apart := false, laid := [("raycone/api.ErrBound", laid_raycone_api_ErrBound), ("raycone/api.ErrShape", laid_raycone_api_ErrShape), ("raycone/api.ErrEmpty", laid_raycone_api_ErrEmpty), ("raycone/api.ErrOrder", laid_raycone_api_ErrOrder)], narrowed := true }
def OctStrongUptoSaid : Prop := octStrongUptoRow.holds Tryd.pinned (OpenSpec.upto octStrongSpec)

/-- 'rayconelaw2.ZoneSound', WHERE WHAT IT READS IS OF BULK AT MOST 1048576: true; the input reads as it did. -/
def zoneSoundUptoRow : OpenClaim := { program := "ytjpboodkmhikpaadoor", sum := "6e1949cadb24a2278f6087e1f4d76c5f33063b0223c0af84b68212399f9a769c", func := "raycone/rayconelaw2.ZoneSound", spec := "zoneSound", unfollowed := true, recurses := true, named := ["raycone/api.ErrBound", "raycone/api.ErrShape", "raycone/api.ErrEmpty"], apart := false, laid := [("raycone/api.ErrBound", laid_raycone_api_ErrBound), ("raycone/api.ErrShape", laid_raycone_api_ErrShape), ("raycone/api.ErrEmpty", laid_raycone_api_ErrEmpty)], narrowed := true }
def ZoneSoundUptoSaid : Prop := zoneSoundUptoRow.holds Tryd.pinned (OpenSpec.upto zoneSoundSpec)

/-- 'rayconelaw2.OctTurns', WHERE WHAT IT READS IS OF BULK AT MOST 1048576: true; the input reads as it did. -/
def octTurnsUptoRow : OpenClaim := { program := "ytjpboodkmhikpaadoor", sum := "6e1949cadb24a2278f6087e1f4d76c5f33063b0223c0af84b68212399f9a769c", func := "raycone/rayconelaw2.OctTurns", spec := "octTurns", unfollowed := true, recurses := true, named := ["raycone/api.ErrBound", "raycone/api.ErrShape", "raycone/api.ErrOrder"], apart := false, laid := [("raycone/api.ErrBound", laid_raycone_api_ErrBound), ("raycone/api.ErrShape", laid_raycone_api_ErrShape), ("raycone/api.ErrOrder", laid_raycone_api_ErrOrder)], narrowed := true }
def OctTurnsUptoSaid : Prop := octTurnsUptoRow.holds Tryd.pinned (OpenSpec.upto octTurnsSpec)

/-- 'rayconelaw2.OctSound', WHERE WHAT IT READS IS OF BULK AT MOST 1048576: true; the input reads as it did. -/
def octSoundUptoRow : OpenClaim := { program := "ytjpboodkmhikpaadoor", sum := "6e1949cadb24a2278f6087e1f4d76c5f33063b0223c0af84b68212399f9a769c", func := "raycone/rayconelaw2.OctSound", spec := "octSound", unfollowed := true, recurses := true, named := ["raycone/api.ErrBound", "raycone/api.ErrShape", "raycone/api.ErrOrder", "raycone/api.ErrEmpty"], apart := false, laid := [("raycone/api.ErrBound", laid_raycone_api_ErrBound), ("raycone/api.ErrShape", laid_raycone_api_ErrShape), ("raycone/api.ErrEmpty", laid_raycone_api_ErrEmpty), ("raycone/api.ErrOrder", laid_raycone_api_ErrOrder)], narrowed := true }
def OctSoundUptoSaid : Prop := octSoundUptoRow.holds Tryd.pinned (OpenSpec.upto octSoundSpec)

end Rows
end Go.Proofs.YtjpboodkmhikpaaDoor
