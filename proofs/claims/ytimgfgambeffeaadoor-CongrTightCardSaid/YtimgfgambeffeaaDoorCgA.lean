/- Plain law: a congruence is right, has a number: what the printed functions tell (the few that the law 'CongrTight' reaches). -/
import Derived.Test.YtimgfgambeffeaaDoorCg
import Derived.Test.YtimgfgambeffeaaDoorEv
import Derived.Test.YtimgfgambeffeaaDoorC4
import Derived.Test.YtimgfgambeffeaaDoorC6
import Derived.Test.YtimgfgambeffeaaDoorC9
import Derived.Test.YtimgfgambeffeaaDoorCd
set_option linter.unusedVariables false
namespace Go.Proofs.Rcp
open Go.RowKit Go.Proofs.Rcg Go.Proofs.YtimgfgambeffeaaDoor.C Go.Proofs.YtimgfgambeffeaaDoorW.PrintWords Go.Proofs.YtimgfgambeffeaaDoorW.PrintMore

theorem far_c (a : Int) : congr_far.f a 1099511627776 = some (decide (a > 1099511627776 ∨ a < -1099511627776)) := by
  have e : wrap64 (-1099511627776) = -1099511627776 := by unfold wrap64; omega
  unfold congr_far.f
  rw [e]
  split
  · rename_i h; rw [decide_eq_true (.inl h)]
  · rename_i h
    congr 1
    exact decide_eq_decide.2 ⟨.inr, fun q => q.resolve_left h⟩
theorem ev_Valid (r m : Int) : Ev (fun k => congr_Valid.f k r m) (cValid r m) := by
  have j : ∀ b : Bool, Ev (fun k => congr_Valid.j0 k b r m) (if b = true then some 2 else if m > 0 ∧ (r < 0 ∨ r ≥ m) then some 3 else none) := by
    intro b
    refine Ev.step (h := fun k => if b = true then some (some 2) else if m > 0 then (if r < 0 then some (some 3) else if r ≥ m then some (some 3) else some none) else some none) (fun k => by simp only [congr_Valid.j0]) (.of fun _ => ?_)
    cases b
    · simp only [Bool.false_eq_true, if_false]
      by_cases h1 : m > 0
      · by_cases h2 : r < 0
        · rw [if_pos h1, if_pos h2, if_pos ⟨h1, .inl h2⟩]
        · by_cases h3 : r ≥ m
          · rw [if_pos h1, if_neg h2, if_pos h3, if_pos ⟨h1, .inr h3⟩]
          · rw [if_pos h1, if_neg h2, if_neg h3, if_neg (by omega)]
      · rw [if_neg h1, if_neg (by omega)]
    · simp
  unfold cValid congr_Valid.f
  by_cases h1 : m < 0
  · simp only [if_pos h1]
    rw [if_pos (.inl h1)]
    exact j true
  · simp only [if_neg h1]
    by_cases h2 : m > 1048576
    · simp only [if_pos h2]
      rw [if_pos (.inr (.inl h2))]
      exact j true
    · simp only [if_neg h2]
      by_cases h3 : m = 0
      · simp only [if_pos h3, far_c, Option.bind_some]
        by_cases h4 : r > 1099511627776 ∨ r < -1099511627776
        · rw [if_pos (.inr (.inr ⟨h3, h4⟩))]
          simp only [decide_eq_true h4]
          exact j true
        · rw [if_neg (by omega)]
          simp only [decide_eq_false h4]
          exact j false
      · simp only [if_neg h3]
        rw [if_neg (by omega)]
        exact j false

theorem ev_Has {r m : Int} (n : Int) (h : CV r m) : Ev (fun k => congr_Has.f k r m n) (inC r m n) := by
  unfold congr_Has.f
  refine .bind (ev_Valid r m) ?_
  rw [cValid_none.2 h]
  simp only [Option.isNone_none, if_true]
  by_cases h0 : m = 0
  · simp only [if_pos h0, inC]
    exact .some
  · simp only [if_neg h0, inC]
    have := h.bd
    rw [up_mod n m (by omega) (by omega)]
    exact .some
def errN (e : Option Int) : Int := e.getD 0
theorem far_r (a : Int) : R2_Far.f a 1099511627776 = some (decide (a > 1099511627776 ∨ a < -1099511627776)) := far_c a
theorem ev_CongrError (r m : Int) : Ev (fun k => R2_CongrError.f k r m) (errN (cValid r m)) := by
  have j : ∀ b : Bool, Ev (fun k => R2_CongrError.j0 k b r m) (if b = true then 2 else if m > 0 ∧ (r < 0 ∨ r ≥ m) then 3 else 0) := by
    intro b
    refine Ev.step (h := fun k => if b = true then some 2 else if m > 0 then (if r < 0 then some 3 else if r ≥ m then some 3 else some 0) else some 0) (fun k => by simp only [R2_CongrError.j0]) (.of fun _ => ?_)
    cases b
    · simp only [Bool.false_eq_true, if_false]
      by_cases h1 : m > 0
      · by_cases h2 : r < 0
        · rw [if_pos h1, if_pos h2, if_pos ⟨h1, .inl h2⟩]
        · by_cases h3 : r ≥ m
          · rw [if_pos h1, if_neg h2, if_pos h3, if_pos ⟨h1, .inr h3⟩]
          · rw [if_pos h1, if_neg h2, if_neg h3, if_neg (by omega)]
      · rw [if_neg h1, if_neg (by omega)]
    · simp
  unfold cValid R2_CongrError.f
  simp only [far_r, Option.bind_some]
  by_cases h1 : m < 0
  · simp only [if_pos h1]
    rw [if_pos (.inl h1)]
    exact j true
  · simp only [if_neg h1]
    by_cases h2 : m > 1048576
    · simp only [if_pos h2]
      rw [if_pos (.inr (.inl h2))]
      exact j true
    · simp only [if_neg h2]
      by_cases h3 : m = 0
      · simp only [if_pos h3]
        by_cases h4 : r > 1099511627776 ∨ r < -1099511627776
        · rw [if_pos (.inr (.inr ⟨h3, h4⟩))]
          simp only [decide_eq_true h4]
          exact j true
        · rw [if_neg (by omega)]
          simp only [decide_eq_false h4]
          have := j false
          by_cases h5 : m > 0 ∧ (r < 0 ∨ r ≥ m)
          · omega
          · rw [if_neg h5] at this ⊢; exact this
      · simp only [if_neg h3]
        rw [if_neg (by omega)]
        have := j false
        by_cases h5 : m > 0 ∧ (r < 0 ∨ r ≥ m)
        · rw [if_pos h5] at this ⊢; exact this
        · rw [if_neg h5] at this ⊢; exact this
theorem cValid_cases (r m : Int) : cValid r m = none ∨ cValid r m = some 2 ∨ cValid r m = some 3 := by
  unfold cValid
  split
  · exact .inr (.inl rfl)
  · split
    · exact .inr (.inr rfl)
    · exact .inl rfl
theorem cv_mod {r m : Int} (h : CV r m) : m = 0 ∨ r % m = r := by
  rcases h with ⟨h, _⟩ | ⟨h1, _, h3, h4⟩
  · exact .inl h
  · exact .inr (Int.emod_eq_of_lt h3 h4)
theorem leaves_c {r m : Int} (n : Int) (h : CV r m) (h1 : -4611686018427387904 ≤ n) (h2 : n ≤ 4611686018427387904) : R2_LeavesOf.f r m n = some (inC r m n) := by
  have a := h.bd
  unfold R2_LeavesOf.f inC
  by_cases h0 : m = 0
  · rw [if_pos h0, if_pos h0]
  · rw [if_neg h0, if_neg h0, w64 (by omega) (by omega)]
    congr 1
    rw [Bool.eq_iff_iff, beq_iff_eq, beq_iff_eq, tmod_dvd, Int.dvd_iff_emod_eq_zero, ← Int.emod_eq_emod_iff_emod_sub_eq_zero]
    rcases cv_mod h with q | q
    · exact absurd q h0
    · rw [q]

theorem coded_ok : L2_coded.f none 0 = some true := rfl
theorem coded_err {c : Int} (h : c = 2 ∨ c = 3) : L2_coded.f (some c) c = some true := by
  unfold L2_coded.f
  rw [if_pos (by simp; omega)]
  simp
theorem coded_one (r m : Int) : L2_coded.f (cValid r m) (errN (cValid r m)) = some true := by
  rcases cValid_cases r m with e | e | e <;> rw [e]
  · exact coded_ok
  · exact coded_err (.inl rfl)
  · exact coded_err (.inr rfl)
end Go.Proofs.Rcp
