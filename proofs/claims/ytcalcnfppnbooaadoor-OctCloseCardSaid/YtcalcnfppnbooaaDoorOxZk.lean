import Derived.Test.YtcalcnfppnbooaaDoorOxZv
/- Package zone: Guard, two. -/
set_option linter.unusedVariables false
set_option linter.unusedSimpArgs false
namespace Go.Proofs.Rcg
open Go Go.RowKit Go.Proofs.Rcn Go.Proofs.YtcalcnfppnbooaaDoor.Z Go.Proofs.YtcalcnfppnbooaaDoorW.PrintWords

/-- What comes back: a zone, a yes or no, an error. -/
def ZRet [EA] (w : World) (R : Int × List ZC × Bool × Option Int) (e : Ending) (w' : World) : Prop :=
  ∃ v : Value, e = .returned (.tuple #[.agg #[.int .i64 R.1, v], .bool R.2.2.1, errW R.2.2.2]) ∧ Kd.R k120 120 w' w.heap.size (fun _ => True) v R.2.1 ∧ Below w.heap.size w w'
theorem ZRet.no [EA] {w w' : World} {er : Option Int} (hb : Below w.heap.size w w') : ZRet w (0, [], false, er) (.returned (.tuple #[.agg #[.int .i64 0, .slice none 0 0], .bool false, errW er])) w' := ⟨_, rfl, R_nilZ _ _, hb⟩

theorem zErr_none {N : Int} {L : List Cel} (h : zErr N L = none) : ∃ n : Nat, N + 1 = n ∧ 1 ≤ n ∧ n ≤ 5 ∧ L.length = n * n ∧ (∀ j, j < L.length → bad (cg L j) = false) ∧ ∀ j, j < L.length → zfar (cg L j).most = false := by
  rw [zErr_eq] at h
  by_cases h1 : N < 0 ∨ N > 4
  · rw [if_pos h1] at h; cases h
  rw [if_neg h1] at h
  by_cases h2 : (L.length : Int) ≠ (N + 1) * (N + 1)
  · rw [if_pos h2] at h; cases h
  rw [if_neg h2] at h
  by_cases h3 : L.any bad = true
  · rw [if_pos h3] at h; cases h
  rw [if_neg h3] at h
  by_cases h4 : (L.any fun c => zfar c.most) = true
  · rw [if_pos h4] at h; cases h
  obtain ⟨n, hn⟩ : ∃ n : Nat, N + 1 = n := ⟨(N + 1).toNat, by omega⟩
  refine ⟨n, hn, by omega, by omega, ?_, fun j hj => ?_, fun j hj => ?_⟩
  · have h2' := Classical.not_not.1 h2
    rw [hn] at h2'
    exact_mod_cast h2'
  · exact Bool.eq_false_iff.2 fun q => h3 (anyBad_true hj q)
  · exact Bool.eq_false_iff.2 fun q => h4 ((anyFar L).2 ⟨j, hj, q⟩)

end Go.Proofs.Rcg

set_option linter.unusedVariables false
set_option linter.unusedSimpArgs false
namespace Go.Proofs.Rcg
open Go Go.RowKit Go.Proofs.Rcn Go.Proofs.YtcalcnfppnbooaaDoor.Z Go.Proofs.YtcalcnfppnbooaaDoorW.PrintWords

end Go.Proofs.Rcg
