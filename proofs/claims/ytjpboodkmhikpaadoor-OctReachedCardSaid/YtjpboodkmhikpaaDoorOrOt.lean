import Derived.Test.YtjpboodkmhikpaaDoorOrQf
import Derived.Test.YtjpboodkmhikpaaDoorOrZpt
/- Plain law: tight octagons: tight again, met with themselves, with a bound more. -/
set_option linter.unusedVariables false
namespace Go.Proofs.Rcp
open Go.RowKit (wrap64)
open Go.Proofs.Rcg Go.Proofs.Rcn

theorem cohL_leastO {N : Nat} {L : List Cel} (hL : L.length = 2 * N * (2 * N)) (nL : Norm L) (hc : CohL (2 * N) L) {a b : Nat} (ha : a < 2 * N) (hb : b < 2 * N) (h : Bool) (m : Int) : CohL (2 * N) (leastO (2 * N) L a b h m) := by
  refine cohL_of (norm_leastO nL _ _ _ _) fun i j v q => ?_
  rw [bd_leastO hL ha hb] at q ⊢
  rcases q with q | ⟨q, rfl, rfl, hv⟩ | ⟨q, rfl, rfl, hv⟩
  · exact .inl (hc.coh _ _ _ q)
  · exact .inr (.inr ⟨q, rfl, rfl, hv⟩)
  · exact .inr (.inl ⟨q, op_op _, op_op _, hv⟩)
theorem rowO_leastO {N : Nat} {L : List Cel} (R : RowO N L) {a b : Nat} (ha : a < 2 * N) (hb : b < 2 * N) (h : Bool) {m : Int} (hm : -1099511627776 ≤ m ∧ m ≤ 1099511627776) : RowO N (leastO (2 * N) L a b h m) :=
  ⟨by rw [leastO_length]; exact R.len, norm_leastO R.norm _ _ _ _, near_leastO R.near (fun _ => by omega), cohL_leastO R.len R.norm R.coh ha hb h m⟩
/-- The ways with a bound more. -/
theorem odiag_least {N : Nat} {L : List Cel} (hL : L.length = 2 * N * (2 * N)) {a b : Nat} (ha : a < 2 * N) (hb : b < 2 * N) (m : Int) (i j : Nat) (v : Int) : Bd (2 * N) (odiag (2 * N) (leastO (2 * N) L a b true m)) i j v ↔ plus2 (Bd (2 * N) (odiag (2 * N) L)) a b m i j v := by
  rw [bd_odiag (by rw [leastO_length]; exact hL), bd_leastO hL ha hb]
  unfold plus2 plus
  rw [bd_odiag hL]
  constructor
  · rintro ((q | ⟨_, q⟩ | ⟨_, q⟩) | q)
    · exact .inl (.inl (.inl q))
    · exact .inl (.inr q)
    · exact .inr q
    · exact .inl (.inl (.inr q))
  · rintro (((q | q) | q) | q)
    · exact .inl (.inl q)
    · exact .inr q
    · exact .inl (.inr (.inl ⟨rfl, q⟩))
    · exact .inl (.inr (.inr ⟨rfl, q⟩))
/-- A bound that is not beyond its opposite: something is left. -/
theorem least_some {N : Nat} (hN : N ≤ 4) {L C : List Cel} (R : RowO N L) (T : TightO N C) (hLC : ∀ i j v, Bd (2 * N) L i j v → Bd (2 * N) C i j v) {a b : Nat} (ha : a < 2 * N) (hb : b < 2 * N) (hab : a ≠ b) {m : Int} (hm : -1099511627776 ≤ m ∧ m ≤ 1099511627776)
    (hc : ∀ v, Bd (2 * N) C b a v → 0 ≤ v + m) : closeO (2 * N) (leastO (2 * N) L a b true m) ≠ none := by
  obtain ⟨hf, hw⟩ := reached (c := m) T.tight hab ha hb (op_lt ha) (op_lt hb) hc
  have ho : Over (2 * N) (plus2 (Bd (2 * N) C) a b m) := plus_over (plus_over (bd_over _ _) ha hb) (op_lt hb) (op_lt ha)
  refine (closeO_iff hN (rowO_leastO R ha hb true hm)).2 (closeO_sub hN (rowO_leastO R ha hb true hm) (shut_path ho (fun i hi => .inl (.inl (T.tight.shut.refl i hi))) hf) hw fun i j v q => .one ?_)
  rw [bd_leastO R.len ha hb] at q
  rcases q with q | ⟨_, q⟩ | ⟨_, q⟩
  · exact .inl (.inl (hLC _ _ _ q))
  · exact .inl (.inr q)
  · exact .inr q
/-- One that is: nothing is left. -/
theorem least_none {N : Nat} (hN : N ≤ 4) {L C : List Cel} (R : RowO N L) (hC : ∀ i j v, Bd (2 * N) C i j v → Ti (WaysO N L) i j v) {a b : Nat} (ha : a < 2 * N) (hb : b < 2 * N) {m v : Int} (hm : -1099511627776 ≤ m ∧ m ≤ 1099511627776)
    (hv : Bd (2 * N) C b a v) (hc : m + v < 0) : closeO (2 * N) (leastO (2 * N) L a b true m) = none := by
  refine Classical.byContradiction fun q => ?_
  obtain ⟨hf, hw⟩ := (closeO_iff hN (rowO_leastO R ha hb true hm)).1 q
  have e := fun i j v => odiag_least R.len ha hb m i j v
  have hf' : Fine (plus2 (Bd (2 * N) (odiag (2 * N) L)) a b m) := Fine.mono (fun i j v p => (e i j v).2 p) hf
  exact not_reached (S := Bd (2 * N) C) (B := Bd (2 * N) (odiag (2 * N) L)) hC hv hc hf' (Whole.mono (fun i j v p => p.mono fun i j v p => (e i j v).2 p) hw)
end Go.Proofs.Rcp
