import Derived.Test.YtcalcnfppnbooaaDoorOxZ0
import Derived.Test.YtcalcnfppnbooaaDoorOxZones
/- The functions of package zone, as they are told: plain. The contracts that the printed texts ask: Zg. -/
set_option linter.unusedVariables false
namespace Go.Proofs.Rcg
open Go.RowKit Go.Proofs.Rcn Go.Proofs.YtcalcnfppnbooaaDoor.Z

abbrev ZC := S120
def cel (x : ZC) : Cel := ⟨x.f0, x.f1⟩
def zce (c : Cel) : ZC := ⟨c.has, c.most⟩
def cels (l : List ZC) : List Cel := l.map cel
def zces (L : List Cel) : List ZC := L.map zce
theorem cels_length (l : List ZC) : (cels l).length = l.length := by simp [cels]
theorem zces_length (L : List Cel) : (zces L).length = L.length := by simp [zces]

/-- Too great in size? -/
def zfar (m : Int) : Bool := decide (m > 1099511627776 ∨ m < -1099511627776)
/-- The error of a zone: its number. -/
def zErr (N : Int) (L : List Cel) : Option Int :=
  if N < 0 ∨ N > 4 then some 2 else if (L.length : Int) ≠ (N + 1) * (N + 1) then some 3
  else if (L.any fun c => !c.has && c.most != 0) = true then some 3 else if (L.any fun c => zfar c.most) = true then some 2 else none
/-- Does it have a point (0 ahead of it)? -/
def hasAll (n : Nat) (L : List Cel) (p : List Int) : Bool := (List.range n).all fun i => (List.range n).all fun j => !(cg L (i * n + j)).has || decide (p.getD j 0 - p.getD i 0 ≤ (cg L (i * n + j)).most)

def zone_Valid.f (a0_0 : Int) (l0_1 : List ZC) : Option (Option Int) := some (zErr a0_0 (cels l0_1))
def zone_Zone_clone.f (a0_0 : Int) (l0_1 : List ZC) : Option (Int × List ZC) := if l0_1.length ≤ 1000 then some (a0_0, l0_1) else none
/-- The closed one, behind its errors. -/
def shutZ (N : Int) (L : List Cel) : Int × List ZC × Bool := match closeZ (N + 1).toNat L with | none => (0, [], false) | some C => (N, zces C, true)
def zone_Zone_close.f (a0_0 : Int) (l0_1 : List ZC) : Option (Int × List ZC × Bool) :=
  if 0 ≤ a0_0 ∧ a0_0 ≤ 4 ∧ (l0_1.length : Int) = (a0_0 + 1) * (a0_0 + 1) then some (shutZ a0_0 (cels l0_1)) else none
def zone_Has.f (a0_0 : Int) (l0_1 : List ZC) (l1 : List Int) : Option (Bool × Option Int) :=
  match zErr a0_0 (cels l0_1) with
  | some e => some (false, some e)
  | none => if (l1.length : Int) ≠ a0_0 then some (false, some 3) else if (l1.any zfar) = true then some (false, some 2) else some (hasAll (a0_0 + 1).toNat (cels l0_1) (0 :: l1), none)
def zone_Guard.f (a0_0 : Int) (l0_1 : List ZC) (a1 : Int) (a2 : Int) (a3 : Int) : Option (Int × List ZC × Bool × Option Int) :=
  match zErr a0_0 (cels l0_1) with
  | some e => some (0, [], false, some e)
  | none => if a1 < 0 ∨ a1 > a0_0 ∨ a2 < 0 ∨ a2 > a0_0 then some (0, [], false, some 3) else if zfar a3 = true then some (0, [], false, some 2)
    else some ((shutZ a0_0 (leastL (cels l0_1) (a1.toNat * (a0_0 + 1).toNat + a2.toNat) true a3)).1, (shutZ a0_0 (leastL (cels l0_1) (a1.toNat * (a0_0 + 1).toNat + a2.toNat) true a3)).2.1, (shutZ a0_0 (leastL (cels l0_1) (a1.toNat * (a0_0 + 1).toNat + a2.toNat) true a3)).2.2, none)
/-- Of two. -/
def zTwo (N : Int) (L : List Cel) (M : Int) (K : List Cel) : Option Int := match zErr N L with | some e => some e | none => match zErr M K with | some e => some e | none => if N = M then none else some 3
/-- Each cell the lower one. -/
def metL (L K : List Cel) : List Cel := rep (fun X i => leastL X i (cg K i).has (cg K i).most) K.length L
def zone_Meet.f (a0_0 : Int) (l0_1 : List ZC) (a1_0 : Int) (l1_1 : List ZC) : Option (Int × List ZC × Bool × Option Int) :=
  match zTwo a0_0 (cels l0_1) a1_0 (cels l1_1) with
  | some e => some (0, [], false, some e)
  | none => some ((shutZ a0_0 (metL (cels l0_1) (cels l1_1))).1, (shutZ a0_0 (metL (cels l0_1) (cels l1_1))).2.1, (shutZ a0_0 (metL (cels l0_1) (cels l1_1))).2.2, none)
def zone_Bounds.f (a0_0 : Int) (l0_1 : List ZC) (a1 : Int) : Option (Bool × Bool × Int × Int × Bool × Option Int) :=
  match zErr a0_0 (cels l0_1) with
  | some e => some (false, false, 0, 0, false, some e)
  | none => if a1 < 1 ∨ a1 > a0_0 then some (false, false, 0, 0, false, some 3) else
    match closeZ (a0_0 + 1).toNat (cels l0_1) with
    | none => some (false, false, 0, 0, false, none)
    | some C => some (!(cg C (a1.toNat * (a0_0 + 1).toNat)).has, !(cg C a1.toNat).has, wrap64 (-(cg C (a1.toNat * (a0_0 + 1).toNat)).most), (cg C a1.toNat).most, true, none)
/-- One variable forgotten. -/
def forgetI (n x : Nat) (L : List Cel) (i : Nat) : List Cel := (L.set (i * n + x) ⟨false, 0⟩).set (x * n + i) ⟨false, 0⟩
def forgetL (n x : Nat) (L : List Cel) : List Cel := (rep (forgetI n x) n L).set (x * n + x) ⟨true, 0⟩
def zone_Forget.f (a0_0 : Int) (l0_1 : List ZC) (a1 : Int) : Option (Int × List ZC × Bool × Option Int) :=
  match zErr a0_0 (cels l0_1) with
  | some e => some (0, [], false, some e)
  | none => if a1 < 1 ∨ a1 > a0_0 then some (0, [], false, some 3) else
    match closeZ (a0_0 + 1).toNat (cels l0_1) with
    | none => some (0, [], false, none)
    | some C => some (a0_0, zces (forgetL (a0_0 + 1).toNat a1.toNat C), true, none)
/-- One variable more by c. -/
def addC (c : Cel) (m : Int) : Cel := if c.has = true then ⟨true, wrap64 (c.most + m)⟩ else c
def shiftI (n x : Nat) (m : Int) (L : List Cel) (i : Nat) : List Cel := if i = x then L else let M := L.set (i * n + x) (addC (cg L (i * n + x)) m); M.set (x * n + i) (addC (cg M (x * n + i)) (-m))
def assignL (n x y : Nat) (c : Int) (C : List Cel) : List Cel := if x = y then rep (shiftI n x c) n C else ((forgetL n x C).set (y * n + x) ⟨true, c⟩).set (x * n + y) ⟨true, -c⟩
def zone_Assign.f (a0_0 : Int) (l0_1 : List ZC) (a1 : Int) (a2 : Int) (a3 : Int) : Option (Int × List ZC × Bool × Option Int) :=
  match zErr a0_0 (cels l0_1) with
  | some e => some (0, [], false, some e)
  | none => if a1 < 1 ∨ a1 > a0_0 ∨ a2 < 0 ∨ a2 > a0_0 then some (0, [], false, some 3) else if zfar a3 = true then some (0, [], false, some 2) else
    match closeZ (a0_0 + 1).toNat (cels l0_1) with
    | none => some (0, [], false, none)
    | some C => some ((shutZ a0_0 (assignL (a0_0 + 1).toNat a1.toNat a2.toNat a3 C)).1, (shutZ a0_0 (assignL (a0_0 + 1).toNat a1.toNat a2.toNat a3 C)).2.1, (shutZ a0_0 (assignL (a0_0 + 1).toNat a1.toNat a2.toNat a3 C)).2.2, none)
/-- The higher of two bounds. -/
def joinC (c d : Cel) : Cel := if d.has = true then (if c.has = true then ⟨true, max c.most d.most⟩ else c) else ⟨false, 0⟩
def joinL (L K : List Cel) : List Cel := rep (fun X i => X.set i (joinC (cg X i) (cg K i))) K.length L
def zone_Join.f (a0_0 : Int) (l0_1 : List ZC) (a1_0 : Int) (l1_1 : List ZC) : Option (Int × List ZC × Option Int) :=
  match zTwo a0_0 (cels l0_1) a1_0 (cels l1_1) with
  | some e => some (0, [], some e)
  | none => match closeZ (a0_0 + 1).toNat (cels l0_1), closeZ (a0_0 + 1).toNat (cels l1_1) with
    | none, none => some (0, [], some 4)
    | none, some K => some (a0_0, zces K, none)
    | some C, none => some (a0_0, zces C, none)
    | some C, some K => some (a0_0, zces (joinL C K), none)
/-- A bound that is gone beyond is none. -/
def widenC (c d : Cel) : Cel := if (c.has && (!d.has || decide (d.most > c.most))) = true then ⟨false, 0⟩ else c
def widenL (L K : List Cel) : List Cel := rep (fun X i => X.set i (widenC (cg X i) (cg K i))) L.length L
def zone_Widen.f (a0_0 : Int) (l0_1 : List ZC) (a1_0 : Int) (l1_1 : List ZC) : Option (Int × List ZC × Option Int) :=
  match zTwo a0_0 (cels l0_1) a1_0 (cels l1_1) with
  | some e => some (0, [], some e)
  | none => match closeZ (a0_0 + 1).toNat (cels l0_1), closeZ (a0_0 + 1).toNat (cels l1_1) with
    | none, none => some (a0_0, l0_1, none)
    | none, some K => some (a0_0, zces K, none)
    | some _, none => some (a0_0, l0_1, none)
    | some _, some K => some (a0_0, zces (widenL (cels l0_1) K), none)
end Go.Proofs.Rcg
