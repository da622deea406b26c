/- What comes in, opened: intervals, congruences, numbers, zones, rows of them. Of whatever program with these types. -/
import Derived.Test.YtjpboodkmhikpaaDoorIv1
import Derived.Test.YtjpboodkmhikpaaDoorIv3
import Derived.Test.YtjpboodkmhikpaaDoorMem
import Derived.Lib.SmallJoins
import Derived.Deep.SlicePairs
import Derived.Deep.Slices
set_option linter.unusedVariables false
set_option linter.unusedSimpArgs false
namespace Go.Proofs.Rcn
open Go Go.RowKit Go.ChangeShapes Go.WideShapes Go.Deep Go.Joins

/-- A whole number that fits. -/
def I64 (x : Int) : Prop := -9223372036854775808 ≤ x ∧ x ≤ 9223372036854775807
theorem i64_of_wf {x : Int} (h : (Lit.int .i64 x).wf = true) : I64 x := by
  simp only [Lit.wf, Bool.and_eq_true, decide_eq_true_eq] at h
  have h1 : IntKind.i64.min = -9223372036854775808 := by decide
  have h2 : IntKind.i64.max = 9223372036854775807 := by decide
  rw [h1, h2] at h
  exact ⟨by omega, by omega⟩

/-- A row of pairs (a bound and whether it is one) that is read. -/
def RCel (w : World) (A : Option Addr) (n : Nat) (L : List Cel) : Prop :=
  L.length = n ∧ (0 < n → ∃ g o, A = some ⟨g, o, none⟩ ∧ ∀ j, j < n → w.cell? ⟨g, o + j * 2, none⟩ = some (.bool (cg L j).has) ∧ w.cell? ⟨g, o + j * 2 + 1, none⟩ = some (.int .i64 (cg L j).most))
theorem RCel.below {w w1 : World} {A : Option Addr} {n : Nat} {L : List Cel} (h : RCel w A n L) (hb : Below w.heap.size w w1) : RCel w1 A n L :=
  ⟨h.1, fun hn => by
    obtain ⟨g, o, e, hc⟩ := h.2 hn
    exact ⟨g, o, e, fun j hj => ⟨cell_below hb (hc j hj).1, cell_below hb (hc j hj).2⟩⟩⟩
/-- A row of intervals that is read. -/
def RIvs (w : World) (A : Option Addr) (n : Nat) (L : List Iv) : Prop :=
  L.length = n ∧ (0 < n → ∃ g o, A = some ⟨g, o, none⟩ ∧ ∀ j, j < n → w.cell? ⟨g, o + j * 4, none⟩ = some (.bool (L.getD j zeroIv).down) ∧ w.cell? ⟨g, o + j * 4 + 1, none⟩ = some (.bool (L.getD j zeroIv).up) ∧
    w.cell? ⟨g, o + j * 4 + 2, none⟩ = some (.int .i64 (L.getD j zeroIv).low) ∧ w.cell? ⟨g, o + j * 4 + 3, none⟩ = some (.int .i64 (L.getD j zeroIv).high))
theorem RIvs.below {w w1 : World} {A : Option Addr} {n : Nat} {L : List Iv} (h : RIvs w A n L) (hb : Below w.heap.size w w1) : RIvs w1 A n L :=
  ⟨h.1, fun hn => by
    obtain ⟨g, o, e, hc⟩ := h.2 hn
    exact ⟨g, o, e, fun j hj => ⟨cell_below hb (hc j hj).1, cell_below hb (hc j hj).2.1, cell_below hb (hc j hj).2.2.1, cell_below hb (hc j hj).2.2.2⟩⟩⟩

section
variable {H : Type} {enc : TypeId × Value → H} {P : Program} {w : World} {base : Nat} {spare : Nat → Bool} {held : Bool}

theorem flat_addr {a : Addr} (h : a.spot = none) (i : Nat) : a.add i = ⟨a.block, a.off + i, none⟩ := by
  obtain ⟨b, o, s⟩ := a
  simp only at h
  subst h
  unfold Addr.add
  split
  · rename_i e; subst e; rfl
  · rfl

theorem open_iv {r : Reach} {b0 : Nat} {t : TypeId} {f0 f1 f2 f3 : Field} {v : Value} {d : DataW H} {p : List MemPlace} (hs : P.underlying t = some (.struct #[f0, f1, f2, f3])) (hone : oneCellFields P #[f0, f1, f2, f3] = true) (hC : P.cellsOf t = 4)
    (h0 : P.underlying f0.type = some .bool) (h1 : P.underlying f1.type = some .bool) (h2 : P.underlying f2.type = some (.int .i64)) (h3 : P.underlying f3.type = some (.int .i64))
    (hv : Value.okWide P w r b0 t v) (h : DataW.Trod enc P w base spare held t v d p) : ∃ a : Iv, v = ivV a ∧ I64 a.low ∧ I64 a.high := by
  obtain ⟨v0, v1, v2, v3, y0, y1, y2, y3, n, rfl, _, _, t0, t1, t2, t3⟩ := open_agg4 hs hone hC hv h
  obtain ⟨b0, e0, _⟩ := DataW.trod_bool h0 t0
  obtain ⟨b1, e1, _⟩ := DataW.trod_bool h1 t1
  obtain ⟨n2, e2, _, w2⟩ := DataW.trod_int h2 t2
  obtain ⟨n3, e3, _, w3⟩ := DataW.trod_int h3 t3
  simp only [List.cons.injEq, and_true] at e0 e1 e2 e3
  subst e0 e1 e2 e3
  exact ⟨⟨b0, b1, n2, n3⟩, rfl, i64_of_wf w2, i64_of_wf w3⟩

theorem open_two_ints {r : Reach} {b0 : Nat} {t : TypeId} {f0 f1 : Field} {v : Value} {d : DataW H} {p : List MemPlace} (hs : P.underlying t = some (.struct #[f0, f1])) (hone : oneCellFields P #[f0, f1] = true) (hC : P.cellsOf t = 2)
    (h0 : P.underlying f0.type = some (.int .i64)) (h1 : P.underlying f1.type = some (.int .i64))
    (hv : Value.okWide P w r b0 t v) (h : DataW.Trod enc P w base spare held t v d p) : ∃ a b : Int, v = .agg #[.int .i64 a, .int .i64 b] ∧ I64 a ∧ I64 b := by
  obtain ⟨v0, v1, y0, y1, n, rfl, _, _, t0, t1⟩ := open_agg2 hs hone hC hv h
  obtain ⟨n0, e0, _, w0⟩ := DataW.trod_int h0 t0
  obtain ⟨n1, e1, _, w1⟩ := DataW.trod_int h1 t1
  simp only [List.cons.injEq, and_true] at e0 e1
  subst e0 e1
  exact ⟨n0, n1, rfl, i64_of_wf w0, i64_of_wf w1⟩

theorem open_rints {r : Reach} {b0 : Nat} {t e : TypeId} {v : Value} {d : DataW H} {ps : List MemPlace} (ht : P.underlying t = some (.slice e)) (he : P.underlying e = some (.int .i64)) (hc : P.cellsOf e = 1)
    (hv : Value.okWide P w r b0 t v) (h : DataW.Trod enc P w base spare held t v d ps) : ∃ A n c xs, v = .slice A n c ∧ RInts w A n xs ∧ n ≤ maxLen ∧ ∀ j, j < n → I64 (xs.getD j 0) := by
  obtain ⟨a', l', c', rfl⟩ := okWide_slice ht hv
  obtain ⟨fuel, hf⟩ := h
  rcases open_ints ht he hc hf with ⟨hcs, _⟩ | ⟨a, len, cap, zs, hcs, _, hl, hm, hz, _, hcell, hwf⟩
  · simp [Value.cells] at hcs
    obtain ⟨rfl, rfl, rfl⟩ := hcs
    exact ⟨none, 0, 0, [], rfl, ⟨rfl, fun h => absurd h (by omega)⟩, by simp [maxLen], fun j hj => absurd hj (by omega)⟩
  · simp [Value.cells] at hcs
    obtain ⟨rfl, rfl, rfl⟩ := hcs
    have hzl : l' ≤ zs.length := by rw [hz]; split <;> omega
    refine ⟨some a, l', c', zs.take l', rfl, ⟨by simp; omega, fun hn => ?_⟩, by omega, fun j hj => ?_⟩
    · have hsp : a.spot = none := by
        have := World.cell?_spot (hcell 0 (by omega))
        simpa [Addr.add] using this
      refine ⟨a.block, a.off, by cases a; simp only at hsp; subst hsp; rfl, fun j hj => ?_⟩
      have := hcell j (by omega)
      rw [flat_addr hsp] at this
      rw [this]
      simp [List.getD_eq_getElem?_getD, List.getElem?_take, hj]
    · have hj' : j < zs.length := by omega
      have := hwf (zs.getD j 0) (by simp [List.getD_eq_getElem?_getD, List.getElem?_eq_getElem hj'])
      have hh := i64_of_wf this
      simpa [List.getD_eq_getElem?_getD, List.getElem?_take, hj] using hh

theorem rcel_of_pairs {t e : TypeId} {f0 f1 : Field} {fuel : Nat} {A : Option Addr} {n c : Nat} {x : DataW H × List MemPlace} (ht : P.underlying t = some (.slice e)) (he : P.underlying e = some (.struct #[f0, f1]))
    (ce : P.cellsOf e = 2) (o0 : f0.offset = 0) (o1 : f1.offset = 1) (c0 : P.cellsOf f0.type = 1) (c1 : P.cellsOf f1.type = 1) (u0 : P.underlying f0.type = some .bool) (u1 : P.underlying f1.type = some (.int .i64))
    (h : DataW.trod enc P w base spare held fuel t [.slice A n c] = some x) : ∃ L, RCel w A n L ∧ n ≤ maxLen ∧ ∀ j, j < n → I64 (cg L j).most := by
  rcases open_slice_pairs ht he ce o0 o1 c0 c1 h with ⟨hcs, _⟩ | ⟨a, len, cap, m, k, V0, V1, D0, D1, P0, P1, hcs, _, hl, hm, hmm, _, hx⟩
  · simp at hcs
    obtain ⟨rfl, rfl, rfl⟩ := hcs
    exact ⟨[], ⟨rfl, fun h => absurd h (by omega)⟩, by simp [maxLen], fun j hj => absurd hj (by omega)⟩
  · simp at hcs
    obtain ⟨rfl, rfl, rfl⟩ := hcs
    have hlm : n ≤ m := by rw [hmm]; split <;> omega
    have each : ∀ i, i < n → ∃ q : Cel, w.cell? (a.add (i * 2)) = some (.bool q.has) ∧ w.cell? (a.add (i * 2 + 1)) = some (.int .i64 q.most) ∧ I64 q.most := by
      intro i hi
      obtain ⟨e0, e1, t0, t1⟩ := hx i (by omega)
      obtain ⟨b, g0, _⟩ := DataW.trod_bool u0 t0
      obtain ⟨z, g1, _, w1⟩ := DataW.trod_int u1 t1
      simp only [List.cons.injEq, and_true] at g0 g1
      exact ⟨⟨b, z⟩, by rw [e0, g0], by rw [e1, g1], i64_of_wf w1⟩
    obtain ⟨f, hf⟩ : ∃ f : Nat → Cel, ∀ i, i < n → w.cell? (a.add (i * 2)) = some (.bool (f i).has) ∧ w.cell? (a.add (i * 2 + 1)) = some (.int .i64 (f i).most) ∧ I64 (f i).most := by
      haveI : Inhabited Cel := ⟨⟨false, 0⟩⟩
      exact choose_lt each
    have hg : ∀ j, j < n → cg ((List.range n).map f) j = f j := fun j hj => by simp [cg, List.getD_eq_getElem?_getD, List.getElem?_map, List.getElem?_range hj]
    refine ⟨(List.range n).map f, ⟨by simp, fun hn => ?_⟩, by omega, fun j hj => by rw [hg j hj]; exact (hf j hj).2.2⟩
    have hsp : a.spot = none := by
      have := World.cell?_spot (hf 0 (by omega)).1
      simpa [Addr.add] using this
    refine ⟨a.block, a.off, by cases a; simp only at hsp; subst hsp; rfl, fun j hj => ?_⟩
    have := hf j hj
    rw [flat_addr hsp, flat_addr hsp] at this
    rw [hg j hj]
    exact ⟨this.1, this.2.1⟩

/-- A zone, or an octagon, by value. -/
theorem open_zone {r : Reach} {b0 : Nat} {t tl e : TypeId} {g0 g1 f0 f1 : Field} {v : Value} {d : DataW H} {p : List MemPlace} (hs : P.underlying t = some (.struct #[g0, g1])) (hone : oneCellFields P #[g0, g1] = true) (hC : P.cellsOf t = 2)
    (h0 : P.underlying g0.type = some (.int .i64)) (h1 : P.underlying g1.type = some (.slice e)) (he : P.underlying e = some (.struct #[f0, f1]))
    (ce : P.cellsOf e = 2) (o0 : f0.offset = 0) (o1 : f1.offset = 1) (c0 : P.cellsOf f0.type = 1) (c1 : P.cellsOf f1.type = 1) (u0 : P.underlying f0.type = some .bool) (u1 : P.underlying f1.type = some (.int .i64))
    (hv : Value.okWide P w r b0 t v) (h : DataW.Trod enc P w base spare held t v d p) :
    ∃ N A n c L, v = .agg #[.int .i64 N, .slice A n c] ∧ I64 N ∧ RCel w A n L ∧ n ≤ maxLen ∧ ∀ j, j < n → I64 (cg L j).most := by
  obtain ⟨v0, v1, y0, y1, n, rfl, _, _, t0, t1⟩ := open_agg2 hs hone hC hv h
  obtain ⟨n0, e0, _, w0⟩ := DataW.trod_int h0 t0
  simp only [List.cons.injEq, and_true] at e0
  subst e0
  obtain ⟨a, l, c, hsl⟩ := slice_form h1 t1
  simp only [List.cons.injEq, and_true] at hsl
  subst hsl
  obtain ⟨L, h1, h2, h3⟩ := rcel_of_pairs h1 he ce o0 o1 c0 c1 u0 u1 t1
  exact ⟨n0, a, l, c, L, rfl, i64_of_wf w0, h1, h2, h3⟩

theorem open_ivs {r : Reach} {b0 : Nat} {t e : TypeId} {f0 f1 f2 f3 : Field} {v : Value} {d : DataW H} {ps : List MemPlace} (ht : P.underlying t = some (.slice e)) (hs : P.underlying e = some (.struct #[f0, f1, f2, f3])) (hC : P.cellsOf e = 4)
    (o0 : f0.offset = 0) (o1 : f1.offset = 1) (o2 : f2.offset = 2) (o3 : f3.offset = 3)
    (c0 : P.cellsOf f0.type = 1) (c1 : P.cellsOf f1.type = 1) (c2 : P.cellsOf f2.type = 1) (c3 : P.cellsOf f3.type = 1)
    (h0 : P.underlying f0.type = some .bool) (h1 : P.underlying f1.type = some .bool) (h2 : P.underlying f2.type = some (.int .i64)) (h3 : P.underlying f3.type = some (.int .i64))
    (hv : Value.okWide P w r b0 t v) (h : DataW.Trod enc P w base spare held t v d ps) : ∃ A n c xs, v = .slice A n c ∧ RIvs w A n xs ∧ n ≤ maxLen ∧ ∀ j, j < n → I64 (xs.getD j zeroIv).low ∧ I64 (xs.getD j zeroIv).high := by
  obtain ⟨a', n, c, rfl⟩ := okWide_slice ht hv
  obtain ⟨fuel, hf⟩ := h
  rcases open_slice ht hf with ⟨hcs, _⟩ | ⟨a, len, cap, m, k, D, Pl, hcs, _, hl, hm, hmm, _, hx⟩
  · simp [Value.cells] at hcs
    obtain ⟨rfl, rfl, rfl⟩ := hcs
    exact ⟨none, 0, 0, [], rfl, ⟨rfl, fun h => absurd h (by omega)⟩, by simp [maxLen], fun j hj => absurd hj (by omega)⟩
  · simp [Value.cells] at hcs
    obtain ⟨rfl, rfl, rfl⟩ := hcs
    have hlm : n ≤ m := by rw [hmm]; split <;> omega
    have each : ∀ i, i < n → ∃ q : Iv, w.cell? (a.add (i * 4)) = some (.bool q.down) ∧ w.cell? (a.add (i * 4 + 1)) = some (.bool q.up) ∧ w.cell? (a.add (i * 4 + 2)) = some (.int .i64 q.low) ∧ w.cell? (a.add (i * 4 + 3)) = some (.int .i64 q.high) ∧ I64 q.low ∧ I64 q.high := by
      intro i hi
      obtain ⟨cs', g1, g2⟩ := hx i (by omega)
      rw [hC] at g1
      obtain ⟨_, hlen, hcell⟩ := World.cells?_some g1
      obtain ⟨l⟩ : ∃ l : List Value, l = cs' := ⟨_, rfl⟩
      obtain ⟨v0, v1, v2, v3, rfl⟩ : ∃ v0 v1 v2 v3, cs' = [v0, v1, v2, v3] := by
        match cs', hlen with
        | [v0, v1, v2, v3], _ => exact ⟨v0, v1, v2, v3, rfl⟩
      obtain ⟨y0, y1, y2, y3, q, _, _, t0, t1, t2, t3⟩ := trod_struct4 hs g2
      simp [o0, o1, o2, o3, c0, c1, c2, c3] at t0 t1 t2 t3
      obtain ⟨b0, e0, _⟩ := DataW.trod_bool h0 t0
      obtain ⟨b1, e1, _⟩ := DataW.trod_bool h1 t1
      obtain ⟨n2, e2, _, w2⟩ := DataW.trod_int h2 t2
      obtain ⟨n3, e3, _, w3⟩ := DataW.trod_int h3 t3
      simp only [List.cons.injEq, and_true] at e0 e1 e2 e3
      subst e0 e1 e2 e3
      have k0 := hcell 0 (by omega)
      have k1 := hcell 1 (by omega)
      have k2 := hcell 2 (by omega)
      have k3 := hcell 3 (by omega)
      rw [add_add] at k0 k1 k2 k3
      exact ⟨⟨b0, b1, n2, n3⟩, by simpa using k0, by simpa using k1, by simpa using k2, by simpa using k3, i64_of_wf w2, i64_of_wf w3⟩
    obtain ⟨f, hf⟩ : ∃ f : Nat → Iv, ∀ i, i < n → w.cell? (a.add (i * 4)) = some (.bool (f i).down) ∧ w.cell? (a.add (i * 4 + 1)) = some (.bool (f i).up) ∧ w.cell? (a.add (i * 4 + 2)) = some (.int .i64 (f i).low) ∧ w.cell? (a.add (i * 4 + 3)) = some (.int .i64 (f i).high) ∧ I64 (f i).low ∧ I64 (f i).high := by
      haveI : Inhabited Iv := ⟨zeroIv⟩
      exact choose_lt each
    have hg : ∀ j, j < n → ((List.range n).map f).getD j zeroIv = f j := fun j hj => by simp [List.getD_eq_getElem?_getD, List.getElem?_map, List.getElem?_range hj]
    refine ⟨some a, n, c, (List.range n).map f, rfl, ⟨by simp, fun hn => ?_⟩, by omega, fun j hj => by rw [hg j hj]; exact (hf j hj).2.2.2.2⟩
    have hsp : a.spot = none := by
      have := World.cell?_spot (hf 0 (by omega)).1
      simpa [Addr.add] using this
    refine ⟨a.block, a.off, by cases a; simp only at hsp; subst hsp; rfl, fun j hj => ?_⟩
    have := hf j hj
    rw [flat_addr hsp, flat_addr hsp, flat_addr hsp, flat_addr hsp] at this
    rw [hg j hj]
    exact ⟨this.1, this.2.1, this.2.2.1, this.2.2.2.1⟩
end
end Go.Proofs.Rcn
