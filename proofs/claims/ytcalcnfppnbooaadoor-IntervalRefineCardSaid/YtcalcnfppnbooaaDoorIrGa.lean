import Derived.Test.YtcalcnfppnbooaaDoorIrIv7
import Derived.Test.YtcalcnfppnbooaaDoorIrEb
/- interval.add, with the contract that the printed texts ask of it. -/
set_option linter.unusedVariables false
namespace Go.Proofs.Rcg
open Go Go.RowKit Go.Proofs.Rcn

/-- 'interval.add', as it is told: of bounds that are near. -/
def interval_add.f (a0_0 : Bool) (a0_1 : Bool) (a0_2 : Int) (a0_3 : Int) (a1_0 : Bool) (a1_1 : Bool) (a1_2 : Int) (a1_3 : Int) : Option (Bool × Bool × Int × Int) :=
  if (-4398046511104 ≤ a0_2 ∧ a0_2 ≤ 4398046511104) ∧ (-4398046511104 ≤ a0_3 ∧ a0_3 ≤ 4398046511104) ∧ (-4398046511104 ≤ a1_2 ∧ a1_2 ≤ 4398046511104) ∧ (-4398046511104 ≤ a1_3 ∧ a1_3 ≤ 4398046511104) then
    some ((ivAdd ⟨a0_0, a0_1, a0_2, a0_3⟩ ⟨a1_0, a1_1, a1_2, a1_3⟩).down, (ivAdd ⟨a0_0, a0_1, a0_2, a0_3⟩ ⟨a1_0, a1_1, a1_2, a1_3⟩).up, (ivAdd ⟨a0_0, a0_1, a0_2, a0_3⟩ ⟨a1_0, a1_1, a1_2, a1_3⟩).low, (ivAdd ⟨a0_0, a0_1, a0_2, a0_3⟩ ⟨a1_0, a1_1, a1_2, a1_3⟩).high) else none
theorem interval_add.calls [EA] (a0_0 : Bool) (a0_1 : Bool) (a0_2 : Int) (a0_3 : Int) (a1_0 : Bool) (a1_1 : Bool) (a1_2 : Int) (a1_3 : Int) (r1 : Bool) (r2 : Bool) (r3 : Int) (r4 : Int) (w : World) (h : interval_add.f a0_0 a0_1 a0_2 a0_3 a1_0 a1_1 a1_2 a1_3 = some (r1, r2, r3, r4)) :
    Calls Tryd.prog 131 #[.agg #[.bool a0_0, .bool a0_1, .int .i64 a0_2, .int .i64 a0_3], .agg #[.bool a1_0, .bool a1_1, .int .i64 a1_2, .int .i64 a1_3]] w fun e w' => e = .returned (.agg #[.bool r1, .bool r2, .int .i64 r3, .int .i64 r4]) ∧ Below w.heap.size w w' := by
  unfold interval_add.f at h
  split at h
  · rename_i hc
    simp only [Option.some.injEq, Prod.mk.injEq] at h
    obtain ⟨rfl, rfl, rfl, rfl⟩ := h
    exact iadd_any a0_0 a0_1 a0_2 a0_3 a1_0 a1_1 a1_2 a1_3 w hc.1 hc.2.1 hc.2.2.1 hc.2.2.2
  · cases h
end Go.Proofs.Rcg
