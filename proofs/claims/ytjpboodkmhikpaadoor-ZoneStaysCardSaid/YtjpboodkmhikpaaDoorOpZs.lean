/- What comes in, opened: a row of zones, by value, as the printed texts ask it. -/
import Derived.Test.YtjpboodkmhikpaaDoorOpZ
set_option linter.unusedVariables false
set_option linter.unusedSimpArgs false
namespace Go.Proofs.Rcp
open Go Go.RowKit Go.ChangeShapes Go.WideShapes Go.Deep Go.Joins Go.Proofs.YtjpboodkmhikpaaDoor.Z Go.Proofs.YtjpboodkmhikpaaDoorW.PrintWords
variable {H : Type} {enc : TypeId × Value → H} {P : Program} {w : World} {base : Nat} {held : Bool}

theorem open_zonesK {r : Reach} {b0 : Nat} {t z e : TypeId} {g0 g1 f0 f1 : Field} {v : Value} {d : DataW H} {p : List MemPlace} (ht : P.underlying t = some (.slice z)) (hs : P.underlying z = some (.struct #[g0, g1])) (hC : P.cellsOf z = 2)
    (p0 : g0.offset = 0) (p1 : g1.offset = 1) (k0 : P.cellsOf g0.type = 1) (k1 : P.cellsOf g1.type = 1)
    (h0 : P.underlying g0.type = some (.int .i64)) (h1 : P.underlying g1.type = some (.slice e)) (he : P.underlying e = some (.struct #[f0, f1]))
    (ce : P.cellsOf e = 2) (o0 : f0.offset = 0) (o1 : f1.offset = 1) (c0 : P.cellsOf f0.type = 1) (c1 : P.cellsOf f1.type = 1) (u0 : P.underlying f0.type = some .bool) (u1 : P.underlying f1.type = some (.int .i64))
    (hv : Value.okWide P w r b0 t v) (h : DataW.Trod enc P w base (fun _ => true) held t v d p) :
    ∃ (A : Option Addr) (c : Nat) (l : List S33), v = .slice A l.length c ∧ Kd.C k33 w A l.length l ∧ l.length ≤ c := by
  obtain ⟨A', n', c', rfl⟩ := okWide_slice ht hv
  obtain ⟨fuel, hf⟩ := h
  rcases open_slice_pairs ht hs hC p0 p1 k0 k1 hf with ⟨hcs, _⟩ | ⟨a, n, c, m, k, V0, V1, D0, D1, P0, P1, hcs, _, hl, hm, hmm, _, hx⟩
  · simp [Value.cells] at hcs
    obtain ⟨rfl, rfl, rfl⟩ := hcs
    exact ⟨none, 0, [], rfl, Kd.C_nil _ _, Nat.le_refl _⟩
  · simp [Value.cells] at hcs
    obtain ⟨rfl, rfl, rfl⟩ := hcs
    have hlm : n' ≤ m := by rw [hmm]; split <;> omega
    have each : ∀ i, i < n' → ∃ q : S33 × Option Addr × Nat, w.cell? (a.add (i * 2)) = some (.int .i64 q.1.f0) ∧ w.cell? (a.add (i * 2 + 1)) = some (.slice q.2.1 q.1.f1.length q.2.2) ∧ Kd.C k112 w q.2.1 q.1.f1.length q.1.f1 ∧ q.1.f1.length ≤ q.2.2 := by
      intro i hi
      obtain ⟨e0, e1, t0, t1⟩ := hx i (by omega)
      obtain ⟨x, y0, _, w0⟩ := DataW.trod_int h0 t0
      obtain ⟨a1, l1, q1, hsl⟩ := slice_form h1 t1
      simp only [List.cons.injEq, and_true] at y0 hsl
      rw [hsl] at t1
      obtain ⟨L, rfl, h2, h3⟩ := cellsC_of_pairs h1 he ce o0 o1 c0 c1 u0 u1 t1
      exact ⟨⟨⟨x, L⟩, a1, q1⟩, by rw [e0, y0], by rw [e1, hsl], h2, h3⟩
    obtain ⟨f, hf⟩ : ∃ f : Nat → S33 × Option Addr × Nat, ∀ i, i < n' → w.cell? (a.add (i * 2)) = some (.int .i64 (f i).1.f0) ∧ w.cell? (a.add (i * 2 + 1)) = some (.slice (f i).2.1 (f i).1.f1.length (f i).2.2) ∧ Kd.C k112 w (f i).2.1 (f i).1.f1.length (f i).1.f1 ∧ (f i).1.f1.length ≤ (f i).2.2 := by
      haveI : Inhabited (S33 × Option Addr × Nat) := ⟨⟨⟨0, []⟩, none, 0⟩⟩
      exact choose_lt each
    have hmx : ((List.range n').map fun i => (f i).1).length ≤ 9223372036854775807 := by
      have : maxLen ≤ 9223372036854775807 := by decide
      simp; omega
    refine ⟨some a, c', (List.range n').map fun i => (f i).1, by simp, ⟨rfl, hmx, fun hn => ⟨a, rfl, fun j p hj => ?_⟩⟩, by simp; omega⟩
    have hjn : j < n' := by have := (List.getElem?_eq_some_iff.1 hj).1; simpa using this
    have hp : p = (f j).1 := by
      rw [List.getElem?_map, List.getElem?_range hjn] at hj
      exact (Option.some.inj hj).symm
    subst hp
    obtain ⟨e0, e1, g1, l1⟩ := hf j hjn
    refine ⟨_, rfl, k33_mk w (f j).1 l1 g1, fun i u hu => ?_⟩
    match i, hu with
    | 0, hu => rw [← Option.some.inj hu]; exact e0
    | 1, hu => rw [← Option.some.inj hu]; exact e1
end Go.Proofs.Rcp
