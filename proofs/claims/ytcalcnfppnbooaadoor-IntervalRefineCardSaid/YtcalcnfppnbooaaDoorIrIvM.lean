import Derived.Test.YtcalcnfppnbooaaDoorIrIvs
/- Plain law: intervals: met, with one less, by how they stand. No program. -/
namespace Go.Proofs.Rcp
open Go.Proofs.Rcn

def zeroI : Iv := ⟨false, false, 0, 0⟩
/-- The numbers of an interval. -/
def InI (a : Iv) (n : Int) : Prop := (a.down = true ∨ a.low ≤ n) ∧ (a.up = true ∨ n ≤ a.high)
instance (a : Iv) (n : Int) : Decidable (InI a n) := by unfold InI; infer_instance
def met (a b : Iv) : Iv :=
  ⟨if a.down = true ∨ (b.down = false ∧ b.low > a.low) then b.down else a.down, if a.up = true ∨ (b.up = false ∧ b.high < a.high) then b.up else a.up,
   if a.down = true ∨ (b.down = false ∧ b.low > a.low) then b.low else a.low, if a.up = true ∨ (b.up = false ∧ b.high < a.high) then b.high else a.high⟩
def nothing (a : Iv) : Prop := a.down = false ∧ a.up = false ∧ a.low > a.high
instance (a : Iv) : Decidable (nothing a) := by unfold nothing; infer_instance
def ivMeet (a b : Iv) : Iv × Bool := if nothing (met a b) then (zeroI, false) else (met a b, true)
/-- Pairs of which the first is at most the second less by. -/
def ivLess (a b : Iv) (by_ : Int) : Iv × Iv × Bool :=
  if b.up = false then
    if (ivMeet a ⟨true, false, 0, b.high - by_⟩).2 = true ∧ a.down = false then ((ivMeet a ⟨true, false, 0, b.high - by_⟩).1, (ivMeet b ⟨false, true, a.low + by_, 0⟩).1, (ivMeet b ⟨false, true, a.low + by_, 0⟩).2)
    else ((ivMeet a ⟨true, false, 0, b.high - by_⟩).1, b, (ivMeet a ⟨true, false, 0, b.high - by_⟩).2)
  else if a.down = false then (a, (ivMeet b ⟨false, true, a.low + by_, 0⟩).1, (ivMeet b ⟨false, true, a.low + by_, 0⟩).2)
  else (a, b, true)
def ivWithout (a : Iv) (n : Int) : Iv × Bool :=
  if a.down = false ∧ a.up = false ∧ a.low = n ∧ a.high = n then (zeroI, false)
  else if a.down = false ∧ a.low = n then (⟨a.down, a.up, a.low + 1, a.high⟩, true)
  else if a.up = false ∧ a.high = n then (⟨a.down, a.up, a.low, a.high - 1⟩, true)
  else (a, true)
end Go.Proofs.Rcp
