import Derived.Test.YtcalcnfppnbooaaDoorIrOpC
/- What comes in, opened: an interval. Of whatever program with these types. -/
set_option linter.unusedVariables false
set_option linter.unusedSimpArgs false
namespace Go.Proofs.Rcp
open Go Go.RowKit Go.ChangeShapes Go.WideShapes Go.Deep Go.Joins
variable {H : Type} {enc : TypeId × Value → H} {P : Program} {w : World} {base : Nat} {spare : Nat → Bool} {held : Bool}

theorem open_ivl {r : Reach} {b0 : Nat} {t : TypeId} {f0 f1 f2 f3 : Field} {v : Value} {d : DataW H} {p : List MemPlace} (hs : P.underlying t = some (.struct #[f0, f1, f2, f3])) (hone : oneCellFields P #[f0, f1, f2, f3] = true) (hC : P.cellsOf t = 4)
    (h0 : P.underlying f0.type = some .bool) (h1 : P.underlying f1.type = some .bool) (h2 : P.underlying f2.type = some (.int .i64)) (h3 : P.underlying f3.type = some (.int .i64))
    (hv : Value.okWide P w r b0 t v) (h : DataW.Trod enc P w base spare held t v d p) : ∃ (a b : Bool) (x y : Int), v = .agg #[.bool a, .bool b, .int .i64 x, .int .i64 y] ∧ I64 x ∧ I64 y := by
  obtain ⟨v0, v1, v2, v3, y0, y1, y2, y3, n, rfl, _, _, t0, t1, t2, t3⟩ := open_agg4 hs hone hC hv h
  obtain ⟨b0, e0, _⟩ := DataW.trod_bool h0 t0
  obtain ⟨b1, e1, _⟩ := DataW.trod_bool h1 t1
  obtain ⟨n2, e2, _, w2⟩ := DataW.trod_int h2 t2
  obtain ⟨n3, e3, _, w3⟩ := DataW.trod_int h3 t3
  simp only [List.cons.injEq, and_true] at e0 e1 e2 e3
  subst e0 e1 e2 e3
  exact ⟨b0, b1, n2, n3, rfl, i64_of_wf w2, i64_of_wf w3⟩
end Go.Proofs.Rcp
