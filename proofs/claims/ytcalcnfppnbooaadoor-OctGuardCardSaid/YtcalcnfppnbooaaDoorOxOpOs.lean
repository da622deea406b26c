import Derived.Lib.SmallJoins
import Derived.Deep.Slices
import Derived.Below
import Derived.Test.YtcalcnfppnbooaaDoorOxW
import Derived.Deep.SlicePairs
import Derived.Test.YtcalcnfppnbooaaDoorOxZ0
/- What comes in, opened: numbers, rows of numbers, octagons, rows of octagons, by value, as the printed texts ask them. -/
set_option linter.unusedVariables false
set_option linter.unusedSimpArgs false
namespace Go.Proofs.Rcp
open Go Go.RowKit Go.ChangeShapes Go.WideShapes Go.Deep Go.Joins

/-- A whole number that fits. -/
def I64 (x : Int) : Prop := -9223372036854775808 ≤ x ∧ x ≤ 9223372036854775807
theorem i64_of_wf {x : Int} (h : (Lit.int .i64 x).wf = true) : I64 x := by
  simp only [Lit.wf, Bool.and_eq_true, decide_eq_true_eq] at h
  have h1 : IntKind.i64.min = -9223372036854775808 := by decide
  have h2 : IntKind.i64.max = 9223372036854775807 := by decide
  rw [h1, h2] at h
  exact ⟨by omega, by omega⟩

section
end
end Go.Proofs.Rcp

namespace Go.Proofs.Rcp
open Go Go.RowKit Go.ChangeShapes Go.WideShapes Go.Deep Go.Joins Go.Proofs.YtcalcnfppnbooaaDoorW.PrintWords
end Go.Proofs.Rcp

namespace Go.Proofs.Rcp
open Go Go.RowKit Go.ChangeShapes Go.WideShapes Go.Deep Go.Joins Go.Proofs.YtcalcnfppnbooaaDoor.Z Go.Proofs.YtcalcnfppnbooaaDoorW.PrintWords
variable {H : Type} {enc : TypeId × Value → H} {P : Program} {w : World} {base : Nat} {held : Bool}

theorem cellsC_of_pairs {t e : TypeId} {f0 f1 : Field} {fuel : Nat} {A : Option Addr} {n c : Nat} {x : DataW H × List MemPlace} (ht : P.underlying t = some (.slice e)) (he : P.underlying e = some (.struct #[f0, f1]))
    (ce : P.cellsOf e = 2) (o0 : f0.offset = 0) (o1 : f1.offset = 1) (c0 : P.cellsOf f0.type = 1) (c1 : P.cellsOf f1.type = 1) (u0 : P.underlying f0.type = some .bool) (u1 : P.underlying f1.type = some (.int .i64))
    (h : DataW.trod enc P w base (fun _ => true) held fuel t [.slice A n c] = some x) : ∃ l : List S67, n = l.length ∧ Kd.C k67 w A l.length l ∧ l.length ≤ c := by
  rcases open_slice_pairs ht he ce o0 o1 c0 c1 h with ⟨hcs, _⟩ | ⟨a, len, cap, m, k, V0, V1, D0, D1, P0, P1, hcs, _, hl, hm, hmm, _, hx⟩
  · simp at hcs
    obtain ⟨rfl, rfl, rfl⟩ := hcs
    exact ⟨[], rfl, Kd.C_nil _ _, Nat.le_refl _⟩
  · simp at hcs
    obtain ⟨rfl, rfl, rfl⟩ := hcs
    have hlm : n ≤ m := by rw [hmm]; split <;> omega
    have each : ∀ i, i < n → ∃ q : S67, w.cell? (a.add (i * 2)) = some (.bool q.f0) ∧ w.cell? (a.add (i * 2 + 1)) = some (.int .i64 q.f1) := by
      intro i hi
      obtain ⟨e0, e1, t0, t1⟩ := hx i (by omega)
      obtain ⟨b, g0, _⟩ := DataW.trod_bool u0 t0
      obtain ⟨z, g1, _, w1⟩ := DataW.trod_int u1 t1
      simp only [List.cons.injEq, and_true] at g0 g1
      exact ⟨⟨b, z⟩, by rw [e0, g0], by rw [e1, g1]⟩
    obtain ⟨f, hf⟩ : ∃ f : Nat → S67, ∀ i, i < n → w.cell? (a.add (i * 2)) = some (.bool (f i).f0) ∧ w.cell? (a.add (i * 2 + 1)) = some (.int .i64 (f i).f1) := by
      haveI : Inhabited S67 := ⟨⟨false, 0⟩⟩
      exact choose_lt each
    refine ⟨(List.range n).map f, by simp, ⟨rfl, by have : maxLen ≤ 9223372036854775807 := by decide
                                                    simp; omega, fun hn => ⟨a, rfl, fun j p hj => ?_⟩⟩, by simp; omega⟩
    have hjn : j < n := by have := (List.getElem?_eq_some_iff.1 hj).1; simpa using this
    have hp : p = f j := by
      rw [List.getElem?_map, List.getElem?_range hjn] at hj
      exact (Option.some.inj hj).symm
    subst hp
    refine ⟨_, rfl, k67_mk w (f j), fun i u hu => ?_⟩
    match i, hu with
    | 0, hu => rw [← Option.some.inj hu]; exact (hf j hjn).1
    | 1, hu => rw [← Option.some.inj hu]; exact (hf j hjn).2
theorem open_zoneK {r : Reach} {b0 : Nat} {t e : TypeId} {g0 g1 f0 f1 : Field} {v : Value} {d : DataW H} {p : List MemPlace} (hs : P.underlying t = some (.struct #[g0, g1])) (hone : oneCellFields P #[g0, g1] = true) (hC : P.cellsOf t = 2)
    (h0 : P.underlying g0.type = some (.int .i64)) (h1 : P.underlying g1.type = some (.slice e)) (he : P.underlying e = some (.struct #[f0, f1]))
    (ce : P.cellsOf e = 2) (o0 : f0.offset = 0) (o1 : f1.offset = 1) (c0 : P.cellsOf f0.type = 1) (c1 : P.cellsOf f1.type = 1) (u0 : P.underlying f0.type = some .bool) (u1 : P.underlying f1.type = some (.int .i64))
    (hv : Value.okWide P w r b0 t v) (h : DataW.Trod enc P w base (fun _ => true) held t v d p) :
    ∃ (N : Int) (A : Option Addr) (c : Nat) (l : List S67), v = .agg #[.int .i64 N, .slice A l.length c] ∧ I64 N ∧ Kd.C k67 w A l.length l ∧ l.length ≤ c := by
  obtain ⟨v0, v1, y0, y1, n, rfl, _, _, t0, t1⟩ := open_agg2 hs hone hC hv h
  obtain ⟨n0, e0, _, w0⟩ := DataW.trod_int h0 t0
  simp only [List.cons.injEq, and_true] at e0
  subst e0
  obtain ⟨a, l, c, hsl⟩ := slice_form h1 t1
  simp only [List.cons.injEq, and_true] at hsl
  subst hsl
  obtain ⟨L, rfl, h2, h3⟩ := cellsC_of_pairs h1 he ce o0 o1 c0 c1 u0 u1 t1
  exact ⟨n0, a, c, L, rfl, i64_of_wf w0, h2, h3⟩
end Go.Proofs.Rcp
namespace Go.Proofs.Rcp
open Go Go.RowKit Go.ChangeShapes Go.WideShapes Go.Deep Go.Joins Go.Proofs.YtcalcnfppnbooaaDoor.Z Go.Proofs.YtcalcnfppnbooaaDoorW.PrintWords
end Go.Proofs.Rcp
