import Derived.Test.YtcalcnfppnbooaaDoorIrCg
import Derived.Test.YtcalcnfppnbooaaDoorIrEv
import Derived.Test.YtcalcnfppnbooaaDoorIrCd
import Derived.Test.YtcalcnfppnbooaaDoorIrR3
import Derived.Test.YtcalcnfppnbooaaDoorIrR8
import Derived.Test.YtcalcnfppnbooaaDoorIrR2
/- Plain law: what the printed functions of single intervals tell (the few that the law 'IntervalWiden' reaches). -/
set_option linter.unusedVariables false
namespace Go.Proofs.Rcp
open Go.RowKit Go.Proofs.Rcg Go.Proofs.YtcalcnfppnbooaaDoor.R Go.Proofs.YtcalcnfppnbooaaDoorW.PrintWords Go.Proofs.YtcalcnfppnbooaaDoorW.PrintMore

def errN (e : Option Int) : Int := e.getD 0
theorem coded_err {c : Int} (h : c = 2 ∨ c = 3) : L2_coded.f (some c) c = some true := by
  unfold L2_coded.f
  rw [if_pos (by simp; omega)]
  simp
def farB (a : Int) : Bool := decide (a > 1099511627776 ∨ a < -1099511627776)
/-- Right, or the error's number. -/
def iErr (d u : Bool) (lo hi : Int) : Option Int := if (d = true ∧ lo ≠ 0) ∨ (u = true ∧ hi ≠ 0) ∨ (d = false ∧ u = false ∧ lo > hi) then some 3 else if farB lo = true ∨ farB hi = true then some 2 else none
/-- A right interval. -/
structure IV (d u : Bool) (lo hi : Int) : Prop where
  d0 : d = true → lo = 0
  u0 : u = true → hi = 0
  le : d = false → u = false → lo ≤ hi
  l1 : -1099511627776 ≤ lo
  l2 : lo ≤ 1099511627776
  h1 : -1099511627776 ≤ hi
  h2 : hi ≤ 1099511627776
theorem farB_false {a : Int} : farB a = false ↔ -1099511627776 ≤ a ∧ a ≤ 1099511627776 := by unfold farB; rw [decide_eq_false_iff_not]; omega
theorem iErr_none {d u : Bool} {lo hi : Int} : iErr d u lo hi = none ↔ IV d u lo hi := by
  unfold iErr
  constructor
  · intro h
    split at h
    · cases h
    · rename_i h1
      split at h
      · cases h
      · rename_i h2
        have a := farB_false.1 (Bool.eq_false_iff.2 fun q => h2 (.inl q))
        have b := farB_false.1 (Bool.eq_false_iff.2 fun q => h2 (.inr q))
        exact ⟨fun q => Classical.byContradiction fun z => h1 (.inl ⟨q, z⟩), fun q => Classical.byContradiction fun z => h1 (.inr (.inl ⟨q, z⟩)), fun p q => Int.not_lt.1 fun z => h1 (.inr (.inr ⟨p, q, z⟩)), a.1, a.2, b.1, b.2⟩
  · intro h
    rw [if_neg, if_neg]
    · rw [farB_false.2 ⟨h.l1, h.l2⟩, farB_false.2 ⟨h.h1, h.h2⟩]; simp
    · rintro (⟨p, q⟩ | ⟨p, q⟩ | ⟨p, q, z⟩)
      · exact q (h.d0 p)
      · exact q (h.u0 p)
      · have := h.le p q; omega
theorem iErr_cases (d u : Bool) (lo hi : Int) : iErr d u lo hi = none ∨ iErr d u lo hi = some 2 ∨ iErr d u lo hi = some 3 := by
  unfold iErr
  split
  · exact .inr (.inr rfl)
  · split
    · exact .inr (.inl rfl)
    · exact .inl rfl
theorem iv_far (a : Int) : interval_far.f a = some (farB a) := by
  unfold interval_far.f farB
  split
  · rename_i h; rw [decide_eq_true (.inl h)]
  · rename_i h
    congr 1
    exact decide_eq_decide.2 ⟨.inr, fun q => q.resolve_left h⟩
theorem far_n {n : Int} (hn : 0 ≤ n ∧ n ≤ 1152921504606846976) (a : Int) : R2_Far.f a n = some (decide (a > n ∨ a < -n)) := by
  unfold R2_Far.f
  rw [w64 (by omega) (by omega)]
  split
  · rename_i h; rw [decide_eq_true (.inl h)]
  · rename_i h
    congr 1
    exact decide_eq_decide.2 ⟨.inr, fun q => q.resolve_left h⟩
theorem ev_iValid (d u : Bool) (lo hi : Int) : Ev (fun k => interval_Valid.f k d u lo hi) (iErr d u lo hi) := by
  have j : ∀ b : Bool, Ev (fun k => interval_Valid.j0 k b d u lo hi) (if b = true then some 3 else if farB lo = true ∨ farB hi = true then some 2 else none) := by
    intro b
    refine Ev.step (h := fun _ => some (if b = true then some 3 else if farB lo = true ∨ farB hi = true then some 2 else none)) (fun k => ?_) .some
    simp only [interval_Valid.j0, iv_far, Option.bind_some]
    cases b <;> cases farB lo <;> cases farB hi <;> rfl
  have t := j true
  have f := j false
  simp only [if_true, Bool.false_eq_true, if_false] at t f
  unfold interval_Valid.f iErr
  cases d <;> cases u <;> simp only [Bool.false_eq_true, if_true, if_false, false_and, true_and, false_or]
  · by_cases h : lo > hi
    · rw [if_pos (by simp [h])]; simpa [h] using t
    · rw [if_neg (by simp; omega)]; simpa [h] using f
  · by_cases h : hi = 0
    · rw [if_neg (by simp [h])]; simpa [h] using f
    · rw [if_pos (by simp [h])]; simpa [h] using t
  · by_cases h : lo = 0
    · rw [if_neg (by simp [h])]; simpa [h] using f
    · rw [if_pos (by simp [h])]; simpa [h] using t
  · by_cases h : lo = 0
    · by_cases h' : hi = 0
      · rw [if_neg (by simp [h, h'])]; simpa [h, h'] using f
      · rw [if_pos (by simp [h'])]; simpa [h, h'] using t
    · rw [if_pos (by simp [h])]; simpa [h] using t
theorem ev_iError (d u : Bool) (lo hi : Int) : Ev (fun k => R2_IntervalError.f k d u lo hi) (errN (iErr d u lo hi)) := by
  have j1 : ∀ b : Bool, Ev (fun k => R2_IntervalError.j1 k b d u lo hi) (if b = true then 3 else if farB lo = true ∨ farB hi = true then 2 else 0) := by
    intro b
    refine Ev.step (h := fun _ => some (if b = true then 3 else if farB lo = true ∨ farB hi = true then 2 else 0)) (fun k => ?_) .some
    simp only [R2_IntervalError.j1, far_n (n := 1099511627776) (by omega), Option.bind_some]
    change (if b = true then some 3 else (if farB lo = true then some 2 else if farB hi = true then some 2 else some 0)) = _
    cases b <;> cases farB lo <;> cases farB hi <;> rfl
  have j : ∀ b : Bool, Ev (fun k => R2_IntervalError.j0 k b d u lo hi) (if b = true ∨ (d = false ∧ u = false ∧ lo > hi) then 3 else if farB lo = true ∨ farB hi = true then 2 else 0) := by
    intro b
    refine Ev.step (h := fun k => if b = true then (some 3) else (if d = true then (R2_IntervalError.j1 k false d u lo hi) else (if u = true then (R2_IntervalError.j1 k false d u lo hi) else (R2_IntervalError.j1 k (decide (lo > hi)) d u lo hi)))) (fun k => by simp only [R2_IntervalError.j0]) ?_
    have t := j1 true
    have f := j1 false
    simp only [if_true, Bool.false_eq_true, if_false] at t f
    cases b
    · refine .neg (by decide) ?_
      refine .ite (fun hd => ?_) (fun hd => .ite (fun hu => ?_) (fun hu => ?_))
      · rw [if_neg (by simp [hd])]; exact f
      · rw [if_neg (by simp [hu])]; exact f
      · by_cases h : lo > hi
        · rw [if_pos (by simp [h, hd, hu])]; simpa [h] using t
        · rw [if_neg (by simp; omega)]; simpa [h] using f
    · rw [if_pos (.inl rfl)]; exact .pos rfl .some
  have e : ∀ p q : Prop, [Decidable p] → [Decidable q] → errN (if p then some 3 else if q then some 2 else none) = if p then 3 else if q then 2 else 0 := by
    intro p q _ _
    split
    · rfl
    · split <;> rfl
  unfold R2_IntervalError.f iErr
  rw [e]
  have t := j true
  have f := j false
  cases d <;> cases u <;> simp only [Bool.false_eq_true, if_true, if_false, false_and, true_and, false_or] at t f ⊢
  · simpa using f
  · by_cases h : hi = 0
    · subst h; simpa using f
    · have hb : (hi != 0) = true := by simpa using h
      rw [hb]; simpa [h] using t
  · by_cases h : lo = 0
    · simpa [h] using f
    · simpa [h] using t
  · by_cases h : lo = 0
    · by_cases h' : hi = 0
      · subst h h'; simpa using f
      · have hb : (hi != 0) = true := by simpa using h'
        rw [hb]; simpa [h, h'] using t
    · simpa [h] using t
theorem ev_three : Ev (fun k => L2_three.f k) true := Ev.mono (k := 20) (fun k r h => L2_three.mono k r h) (by kernel_rfl)

variable {d u : Bool} {l h : Int} {d' u' : Bool} {l' h' : Int}

/-- The first error of two. -/
def iTwo (d u : Bool) (l h : Int) (d' u' : Bool) (l' h' : Int) : Option Int := if (iErr d u l h).isNone = true then iErr d' u' l' h' else iErr d u l h
theorem iTwo_none : iTwo d u l h d' u' l' h' = none ↔ IV d u l h ∧ IV d' u' l' h' := by
  rw [← iErr_none, ← iErr_none]
  unfold iTwo
  cases iErr d u l h <;> simp
theorem iTwo_cases (d u : Bool) (l h : Int) (d' u' : Bool) (l' h' : Int) : iTwo d u l h d' u' l' h' = none ∨ iTwo d u l h d' u' l' h' = some 2 ∨ iTwo d u l h d' u' l' h' = some 3 := by
  unfold iTwo
  split
  · exact iErr_cases _ _ _ _
  · exact iErr_cases _ _ _ _
theorem ev_iTwo (d u : Bool) (l h : Int) (d' u' : Bool) (l' h' : Int) : Ev (fun k => interval_two.f k d u l h d' u' l' h') (iTwo d u l h d' u' l' h') := by
  unfold interval_two.f iTwo
  refine .bind (ev_iValid d u l h) (.ite (fun e => ?_) (fun e => ?_))
  · rw [if_pos e]; exact .bind (ev_iValid _ _ _ _) .some
  · rw [if_neg e]
    cases he : iErr d u l h with
    | none => rw [he] at e; exact absurd rfl e
    | some c => exact .some
theorem ev_TwoIntervals (d u : Bool) (l h : Int) (d' u' : Bool) (l' h' : Int) : Ev (fun k => R2_TwoIntervals.f k d u l h d' u' l' h') (errN (iTwo d u l h d' u' l' h')) := by
  unfold R2_TwoIntervals.f iTwo
  refine .bind (ev_iError d u l h) ?_
  rcases iErr_cases d u l h with e | e | e <;> rw [e]
  · exact .pos rfl (.bind (ev_iError _ _ _ _) .some)
  · exact .neg (by decide) .some
  · exact .neg (by decide) .some
end Go.Proofs.Rcp
