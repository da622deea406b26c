import Derived.Test.YtcalcnfppnbooaaDoorOxZf
import Derived.Test.YtcalcnfppnbooaaDoorOxOctCells
/- The functions of package octagon, as they are told: plain. -/
set_option linter.unusedVariables false
namespace Go.Proofs.Rcg
open Go.RowKit Go.Proofs.Rcn Go.Proofs.YtcalcnfppnbooaaDoor.Z

abbrev OC := S146
def ocel (x : OC) : Cel := ⟨x.f0, x.f1⟩
def oce (c : Cel) : OC := ⟨c.has, c.most⟩
def ocels (l : List OC) : List Cel := l.map ocel
def oces (L : List Cel) : List OC := L.map oce
theorem ocels_oces (L : List Cel) : ocels (oces L) = L := by simp [ocels, oces, Function.comp_def, ocel, oce]
theorem ocels_length (l : List OC) : (ocels l).length = l.length := by simp [ocels]
theorem oces_length (L : List Cel) : (oces L).length = L.length := by simp [oces]

/-- Each bound, and that of the opposites: the same? -/
def cohB (n : Nat) (L : List Cel) : Bool := (List.range n).all fun i => (List.range n).all fun j => decide (cg L (i * n + j) = cg L (op j * n + op i))
/-- The error of an octagon: its number. -/
def oErr (N : Int) (L : List Cel) : Option Int :=
  if N < 0 ∨ N > 4 then some 2 else if (L.length : Int) ≠ 4 * N * N then some 3
  else if (L.any fun c => !c.has && c.most != 0) = true then some 3 else if (L.any fun c => zfar c.most) = true then some 2
  else if cohB (2 * N).toNat L = true then none else some 7
/-- The value of a variable or its opposite. -/
def valO (p : List Int) (i : Nat) : Int := if i % 2 = 1 then -(p.getD (i / 2) 0) else p.getD (i / 2) 0
def hasO (n : Nat) (L : List Cel) (p : List Int) : Bool := (List.range n).all fun i => (List.range n).all fun j => !(cg L (i * n + j)).has || decide (valO p j - valO p i ≤ (cg L (i * n + j)).most)

def octagon_Valid.f (a0_0 : Int) (l0_1 : List OC) : Option (Option Int) := some (oErr a0_0 (ocels l0_1))
def octagon_Octagon_clone.f (a0_0 : Int) (l0_1 : List OC) : Option (Int × List OC) := if l0_1.length ≤ 1000 then some (a0_0, l0_1) else none
/-- The tight one, behind its errors. -/
def shutO (N : Int) (L : List Cel) : Int × List OC × Bool := match closeO (2 * N).toNat L with | none => (0, [], false) | some C => (N, oces C, true)
def octagon_Octagon_close.f (a0_0 : Int) (l0_1 : List OC) : Option (Int × List OC × Bool) :=
  if 0 ≤ a0_0 ∧ a0_0 ≤ 4 ∧ (l0_1.length : Int) = 4 * a0_0 * a0_0 then some (shutO a0_0 (ocels l0_1)) else none
def octagon_Has.f (a0_0 : Int) (l0_1 : List OC) (l1 : List Int) : Option (Bool × Option Int) :=
  match oErr a0_0 (ocels l0_1) with
  | some e => some (false, some e)
  | none => if (l1.length : Int) ≠ a0_0 then some (false, some 3) else if (l1.any zfar) = true then some (false, some 2) else some (hasO (2 * a0_0).toNat (ocels l0_1) l1, none)
/-- The index whose value it is. -/
def atS (s : Int) (v : Nat) : Nat := if s < 0 then 2 * v + 1 else 2 * v
/-- With a bound more: a times x, and b times y. -/
def boundL (n : Nat) (a : Int) (x : Nat) (b : Int) (y : Nat) (c : Int) (L : List Cel) : List Cel :=
  if a = 0 then leastO n L (op (atS b y)) (atS b y) true (2 * c) else if b = 0 then leastO n L (op (atS a x)) (atS a x) true (2 * c) else leastO n L (op (atS b y)) (atS a x) true c
def octagon_Guard.f (a0_0 : Int) (l0_1 : List OC) (a1 : Int) (a2 : Int) (a3 : Int) (a4 : Int) (a5 : Int) : Option (Int × List OC × Bool × Option Int) :=
  match oErr a0_0 (ocels l0_1) with
  | some e => some (0, [], false, some e)
  | none => if (a2 < 0 ∨ a2 ≥ a0_0 ∨ a4 < 0 ∨ a4 ≥ a0_0) ∨ (a1 < -1 ∨ a1 > 1 ∨ a3 < -1 ∨ a3 > 1) ∨ a2 = a4 then some (0, [], false, some 3) else if zfar a5 = true then some (0, [], false, some 2)
    else if a1 = 0 ∧ a3 = 0 then (if a5 < 0 then some (0, [], false, none) else some ((shutO a0_0 (ocels l0_1)).1, (shutO a0_0 (ocels l0_1)).2.1, (shutO a0_0 (ocels l0_1)).2.2, none))
    else some ((shutO a0_0 (boundL (2 * a0_0).toNat a1 a2.toNat a3 a4.toNat a5 (ocels l0_1))).1, (shutO a0_0 (boundL (2 * a0_0).toNat a1 a2.toNat a3 a4.toNat a5 (ocels l0_1))).2.1, (shutO a0_0 (boundL (2 * a0_0).toNat a1 a2.toNat a3 a4.toNat a5 (ocels l0_1))).2.2, none)
/-- Of two. -/
def oTwo (N : Int) (L : List Cel) (M : Int) (K : List Cel) : Option Int := match oErr N L with | some e => some e | none => match oErr M K with | some e => some e | none => if N = M then none else some 3
/-- Each cell the lower one. -/
def metO (n : Nat) (L K : List Cel) : List Cel := rep (fun X i => leastO n X (i / n) (i % n) (cg K i).has (cg K i).most) K.length L
def octagon_Meet.f (a0_0 : Int) (l0_1 : List OC) (a1_0 : Int) (l1_1 : List OC) : Option (Int × List OC × Bool × Option Int) :=
  match oTwo a0_0 (ocels l0_1) a1_0 (ocels l1_1) with
  | some e => some (0, [], false, some e)
  | none => some ((shutO a0_0 (metO (2 * a0_0).toNat (ocels l0_1) (ocels l1_1))).1, (shutO a0_0 (metO (2 * a0_0).toNat (ocels l0_1) (ocels l1_1))).2.1, (shutO a0_0 (metO (2 * a0_0).toNat (ocels l0_1) (ocels l1_1))).2.2, none)
def octagon_Bounds.f (a0_0 : Int) (l0_1 : List OC) (a1 : Int) : Option (Bool × Bool × Int × Int × Bool × Option Int) :=
  match oErr a0_0 (ocels l0_1) with
  | some e => some (false, false, 0, 0, false, some e)
  | none => if a1 < 0 ∨ a1 ≥ a0_0 then some (false, false, 0, 0, false, some 3) else
    match closeO (2 * a0_0).toNat (ocels l0_1) with
    | none => some (false, false, 0, 0, false, none)
    | some C => some (!(cg C (2 * a1.toNat * (2 * a0_0).toNat + (2 * a1.toNat + 1))).has, !(cg C ((2 * a1.toNat + 1) * (2 * a0_0).toNat + 2 * a1.toNat)).has,
        -((cg C (2 * a1.toNat * (2 * a0_0).toNat + (2 * a1.toNat + 1))).most / 2), (cg C ((2 * a1.toNat + 1) * (2 * a0_0).toNat + 2 * a1.toNat)).most / 2, true, none)
/-- One variable forgotten. -/
def forgetO (n x : Nat) (L : List Cel) : List Cel :=
  ((rep (fun M i => forgetI n (2 * x + 1) (forgetI n (2 * x) M i) i) n L).set (2 * x * n + 2 * x) ⟨true, 0⟩).set ((2 * x + 1) * n + (2 * x + 1)) ⟨true, 0⟩
def octagon_Forget.f (a0_0 : Int) (l0_1 : List OC) (a1 : Int) : Option (Int × List OC × Bool × Option Int) :=
  match oErr a0_0 (ocels l0_1) with
  | some e => some (0, [], false, some e)
  | none => if a1 < 0 ∨ a1 ≥ a0_0 then some (0, [], false, some 3) else
    match closeO (2 * a0_0).toNat (ocels l0_1) with
    | none => some (0, [], false, none)
    | some C => some (a0_0, oces (forgetO (2 * a0_0).toNat a1.toNat C), true, none)
/-- The opposite changes places with it. -/
def toO (x i : Nat) : Nat := if i / 2 = x then op i else i
def turnO (n x : Nat) (C : List Cel) : List Cel := rep (fun M i => rep (fun K j => K.set (toO x i * n + toO x j) (cg C (i * n + j))) n M) n C
/-- What a value becomes more. -/
def shO (x : Nat) (c : Int) (i : Nat) : Int := if i = 2 * x then c else if i = 2 * x + 1 then -c else 0
def shiftO (n x : Nat) (c : Int) (C : List Cel) : List Cel := rep (fun M i => rep (fun K j => K.set (i * n + j) (addC (cg K (i * n + j)) (shO x c j - shO x c i))) n M) n C
def assignO (n x : Nat) (s : Int) (y : Nat) (c : Int) (C : List Cel) : List Cel :=
  if s ≠ 0 ∧ x = y then shiftO n x c (if s < 0 then turnO n x C else C) else boundL n (-1) x s y (-c) (boundL n 1 x (-s) y c (forgetO n x C))
def octagon_Assign.f (a0_0 : Int) (l0_1 : List OC) (a1 : Int) (a2 : Int) (a3 : Int) (a4 : Int) : Option (Int × List OC × Bool × Option Int) :=
  match oErr a0_0 (ocels l0_1) with
  | some e => some (0, [], false, some e)
  | none => if (a1 < 0 ∨ a1 ≥ a0_0 ∨ a3 < 0 ∨ a3 ≥ a0_0) ∨ a2 < -1 ∨ a2 > 1 then some (0, [], false, some 3) else if zfar a4 = true then some (0, [], false, some 2) else
    match closeO (2 * a0_0).toNat (ocels l0_1) with
    | none => some (0, [], false, none)
    | some C => some ((shutO a0_0 (assignO (2 * a0_0).toNat a1.toNat a2 a3.toNat a4 C)).1, (shutO a0_0 (assignO (2 * a0_0).toNat a1.toNat a2 a3.toNat a4 C)).2.1, (shutO a0_0 (assignO (2 * a0_0).toNat a1.toNat a2 a3.toNat a4 C)).2.2, none)
def octagon_Join.f (a0_0 : Int) (l0_1 : List OC) (a1_0 : Int) (l1_1 : List OC) : Option (Int × List OC × Option Int) :=
  match oTwo a0_0 (ocels l0_1) a1_0 (ocels l1_1) with
  | some e => some (0, [], some e)
  | none => match closeO (2 * a0_0).toNat (ocels l0_1), closeO (2 * a0_0).toNat (ocels l1_1) with
    | none, none => some (0, [], some 4)
    | none, some K => some (a0_0, oces K, none)
    | some C, none => some (a0_0, oces C, none)
    | some C, some K => some (a0_0, oces (joinL C K), none)
def octagon_Widen.f (a0_0 : Int) (l0_1 : List OC) (a1_0 : Int) (l1_1 : List OC) : Option (Int × List OC × Option Int) :=
  match oTwo a0_0 (ocels l0_1) a1_0 (ocels l1_1) with
  | some e => some (0, [], some e)
  | none => match closeO (2 * a0_0).toNat (ocels l0_1), closeO (2 * a0_0).toNat (ocels l1_1) with
    | none, none => some (a0_0, l0_1, none)
    | none, some K => some (a0_0, oces K, none)
    | some _, none => some (a0_0, l0_1, none)
    | some _, some K => some (a0_0, oces (widenL (ocels l0_1) K), none)
/-- The octagon of a zone, cell by cell; none: a way from a variable to itself below 0. -/
def ofI (N : Nat) (Z : List Cel) (L : Option (List Cel)) (k : Nat) : Option (List Cel) := L.bind fun M =>
  if (cg Z k).has = false then some M
  else if k / (N + 1) = k % (N + 1) then (if (cg Z k).most < 0 then none else some M)
  else if k / (N + 1) = 0 then some (boundL (2 * N) 1 (k % (N + 1) - 1) 0 0 (cg Z k).most M)
  else if k % (N + 1) = 0 then some (boundL (2 * N) (-1) (k / (N + 1) - 1) 0 0 (cg Z k).most M)
  else some (boundL (2 * N) 1 (k % (N + 1) - 1) (-1) (k / (N + 1) - 1) (cg Z k).most M)
def ofL (N : Nat) (Z : List Cel) : Option (List Cel) := rep (ofI N Z) Z.length (some (List.replicate (4 * N * N) ⟨false, 0⟩))
def octagon_OfZone.f (a0_0 : Int) (l0_1 : List ZC) : Option (Int × List OC × Bool × Option Int) :=
  match zErr a0_0 (cels l0_1) with
  | some e => some (0, [], false, some e)
  | none => match ofL a0_0.toNat (cels l0_1) with
    | none => some (0, [], false, none)
    | some L => some ((shutO a0_0 L).1, (shutO a0_0 L).2.1, (shutO a0_0 L).2.2, none)
end Go.Proofs.Rcg
