/- Plain law: the law 'IntervalLattice' as it is printed is true, whatever it is given. -/
import Derived.Test.YtimgfgambeffeaaDoorIvA
import Derived.Test.YtimgfgambeffeaaDoorI10
set_option linter.unusedVariables false
namespace Go.Proofs.Rcp
open Go.RowKit Go.Proofs.Rcg Go.Proofs.YtimgfgambeffeaaDoor.I Go.Proofs.YtimgfgambeffeaaDoorW.PrintWords Go.Proofs.YtimgfgambeffeaaDoorW.PrintMore
variable {d u : Bool} {l h : Int} {d' u' : Bool} {l' h' : Int}

/-- The first error of two. -/
def iTwo (d u : Bool) (l h : Int) (d' u' : Bool) (l' h' : Int) : Option Int := if (iErr d u l h).isNone = true then iErr d' u' l' h' else iErr d u l h
theorem iTwo_none : iTwo d u l h d' u' l' h' = none ↔ IV d u l h ∧ IV d' u' l' h' := by
  rw [← iErr_none, ← iErr_none]
  unfold iTwo
  cases iErr d u l h <;> simp
theorem iTwo_cases (d u : Bool) (l h : Int) (d' u' : Bool) (l' h' : Int) : iTwo d u l h d' u' l' h' = none ∨ iTwo d u l h d' u' l' h' = some 2 ∨ iTwo d u l h d' u' l' h' = some 3 := by
  unfold iTwo
  split
  · exact iErr_cases _ _ _ _
  · exact iErr_cases _ _ _ _
theorem ev_iTwo (d u : Bool) (l h : Int) (d' u' : Bool) (l' h' : Int) : Ev (fun k => interval_two.f k d u l h d' u' l' h') (iTwo d u l h d' u' l' h') := by
  unfold interval_two.f iTwo
  refine .bind (ev_iValid d u l h) (.ite (fun e => ?_) (fun e => ?_))
  · rw [if_pos e]; exact .bind (ev_iValid _ _ _ _) .some
  · rw [if_neg e]
    cases he : iErr d u l h with
    | none => rw [he] at e; exact absurd rfl e
    | some c => exact .some
theorem ev_TwoIntervals (d u : Bool) (l h : Int) (d' u' : Bool) (l' h' : Int) : Ev (fun k => R2_TwoIntervals.f k d u l h d' u' l' h') (errN (iTwo d u l h d' u' l' h')) := by
  unfold R2_TwoIntervals.f iTwo
  refine .bind (ev_iError d u l h) ?_
  rcases iErr_cases d u l h with e | e | e <;> rw [e]
  · exact .pos rfl (.bind (ev_iError _ _ _ _) .some)
  · exact .neg (by decide) .some
  · exact .neg (by decide) .some
theorem Ev.of3 {α : Type} {g : Nat → Option α} {x : α} (e : ∀ k, g (k + 3) = Option.some x) : Ev g x := ⟨3, fun k hk => by rw [show k = k - 3 + 3 by omega]; exact e _⟩
theorem Ev.of1 {α : Type} {g : Nat → Option α} {x : α} (e : ∀ k, g (k + 1) = Option.some x) : Ev g x := ⟨1, fun k hk => by rw [show k = k - 1 + 1 by omega]; exact e _⟩
theorem mn_min (a b : Int) : mn a b = min a b := by unfold mn; split <;> omega
theorem mx_max (a b : Int) : mx a b = max a b := by unfold mx; split <;> omega
theorem join_ref (a : IV d u l h) (b : IV d' u' l' h') (k : Nat) : R2_JoinedOf.f (k + 1) d u l h d' u' l' h' = some (d || d', u || u', if (d || d') = true then 0 else min l l', if (u || u') = true then 0 else max h h') := by
  have a1 := a.d0; have a2 := a.u0; have a3 := a.le; have b1 := b.d0; have b2 := b.u0; have b3 := b.le
  cases d <;> cases u <;> cases d' <;> cases u' <;> simp only [true_implies, reduceCtorEq, false_implies] at a1 a2 a3 b1 b2 b3 <;>
    simp only [R2_JoinedOf.f, R2_JoinedOf.j0, Bool.false_eq_true, if_true, if_false, Bool.or_false, Bool.or_true, decide_eq_true_eq] <;> (repeat' split) <;> simp only [Option.some.injEq, Prod.mk.injEq, true_and] <;> omega
theorem met_ref (a : IV d u l h) (b : IV d' u' l' h') (k : Nat) : interval_meet.f (k + 3) d u l h d' u' l' h' = R2_MetOf.f (k + 3) d u l h d' u' l' h' := by
  have a1 := a.d0; have a2 := a.u0; have a3 := a.le; have b1 := b.d0; have b2 := b.u0; have b3 := b.le
  cases d <;> cases u <;> cases d' <;> cases u' <;> simp only [true_implies, reduceCtorEq, false_implies] at a1 a2 a3 b1 b2 b3 <;>
    simp only [interval_meet.f, interval_meet.j0, interval_meet.j1, interval_meet.j2, R2_MetOf.f, R2_MetOf.j0, R2_MetOf.j1, R2_MetOf.j2, Bool.false_eq_true, if_true, if_false, decide_eq_true_eq] <;> (repeat' split) <;> first | rfl | (simp only [Option.some.injEq, Prod.mk.injEq, true_and, and_true]; omega) | omega
theorem met_some (d u : Bool) (l h : Int) (d' u' : Bool) (l' h' : Int) : ∃ M : Bool × Bool × Int × Int × Bool, ∀ k, R2_MetOf.f (k + 3) d u l h d' u' l' h' = some M := by
  refine ⟨(R2_MetOf.f 3 d u l h d' u' l' h').getD (false, false, 0, 0, false), fun k => ?_⟩
  cases d <;> cases u <;> cases d' <;> cases u' <;>
    simp only [R2_MetOf.f, R2_MetOf.j0, R2_MetOf.j1, R2_MetOf.j2, Bool.false_eq_true, if_true, if_false, decide_eq_true_eq] <;> (repeat' split) <;> rfl
theorem meet_same (a : IV d u l h) (b : IV d' u' l' h') : ∃ M : Bool × Bool × Int × Int × Bool, ∀ k, interval_meet.f (k + 3) d u l h d' u' l' h' = some M ∧ R2_MetOf.f (k + 3) d u l h d' u' l' h' = some M := by
  obtain ⟨M, hM⟩ := met_some d u l h d' u' l' h'
  exact ⟨M, fun k => ⟨(met_ref a b k).trans (hM k), hM k⟩⟩
theorem join_same (a : IV d u l h) (b : IV d' u' l' h') : ∃ J : Bool × Bool × Int × Int, interval_join.f d u l h d' u' l' h' = some J ∧ ∀ k, R2_JoinedOf.f (k + 1) d u l h d' u' l' h' = some J :=
  ⟨_, rfl, fun k => join_ref a b k⟩
theorem within_same (a : IV d u l h) (b : IV d' u' l' h') : ∃ t : Bool, interval_within.f d u l h d' u' l' h' = some t ∧ ∀ k, R2_InsideOf.f (k + 1) d u l h d' u' l' h' = some t := by
  refine ⟨_, rfl, fun k => ?_⟩
  unfold R2_InsideOf.f
  rw [join_ref b a k, Option.bind_some]
  congr 1
  have a1 := a.d0; have a2 := a.u0; have a3 := a.le; have b1 := b.d0; have b2 := b.u0; have b3 := b.le
  rw [Bool.eq_iff_iff]
  unfold Go.Proofs.Rcn.ivWithin
  simp only [Bool.and_eq_true, beq_iff_eq, Bool.or_eq_true, Bool.not_eq_true', decide_eq_true_eq]
  cases d <;> cases u <;> cases d' <;> cases u' <;> simp only [true_implies, reduceCtorEq, false_implies, Bool.false_eq_true, if_true, if_false, Bool.or_false, Bool.or_true, true_and, and_true, false_and, and_false, false_or, true_or] at a1 a2 a3 b1 b2 b3 ⊢ <;> first | omega | (simp; done) | (simp; omega)
theorem pure_IntervalLattice (d u : Bool) (l h : Int) (d' u' : Bool) (l' h' : Int) : Ev (fun k => L2_IntervalLattice.f k d u l h d' u' l' h') true := by
  unfold L2_IntervalLattice.f
  refine .bind ev_three (.pos rfl (.bind (ev_TwoIntervals d u l h d' u' l' h') ?_))
  by_cases c : iTwo d u l h d' u' l' h' = none
  · obtain ⟨a, b⟩ := iTwo_none.1 c
    obtain ⟨J, hJ, hJ'⟩ := join_same a b
    obtain ⟨M, hM⟩ := meet_same a b
    obtain ⟨t, ht, ht'⟩ := within_same a b
    have hj : Ev (fun k => interval_Join.f k d u l h d' u' l' h') (J.1, J.2.1, J.2.2.1, J.2.2.2, none) := by
      unfold interval_Join.f
      refine .bind (ev_iTwo _ _ _ _ _ _ _ _) ?_
      rw [c]
      exact .pos rfl (.bind (.of fun _ => hJ) .some)
    have hm : Ev (fun k => interval_Meet.f k d u l h d' u' l' h') (M.1, M.2.1, M.2.2.1, M.2.2.2.1, M.2.2.2.2, none) := by
      unfold interval_Meet.f
      refine .bind (ev_iTwo _ _ _ _ _ _ _ _) ?_
      rw [c]
      exact .pos rfl (.bind (.of3 fun k => (hM k).1) .some)
    have hw : Ev (fun k => interval_Within.f k d u l h d' u' l' h') (t, none) := by
      unfold interval_Within.f
      refine .bind (ev_iTwo _ _ _ _ _ _ _ _) ?_
      rw [c]
      exact .pos rfl (.bind (.of fun _ => ht) .some)
    refine .bind hj (.bind hm (.bind hw ?_))
    rw [c]
    refine .neg (by decide) (.bind (.of3 fun k => (hM k).2) (.bind (x := J) (.of1 hJ') ?_))
    refine .bind (.of fun _ => isSpan_ok _ _ _ _) (.pos rfl ?_)
    refine .bind (.of fun _ => isSpan_ok _ _ _ _) (.pos rfl (.pos (by simp) (.pos rfl ?_)))
    exact .bind (x := t) (.of1 ht') (.of fun _ => by simp)
  · have hc : ∃ e : Int, (e = 2 ∨ e = 3) ∧ iTwo d u l h d' u' l' h' = some e := by
      rcases iTwo_cases d u l h d' u' l' h' with e | e | e
      · exact absurd e c
      · exact ⟨2, .inl rfl, e⟩
      · exact ⟨3, .inr rfl, e⟩
    obtain ⟨e, he, hc⟩ := hc
    have hj : Ev (fun k => interval_Join.f k d u l h d' u' l' h') (false, false, 0, 0, some e) := by
      unfold interval_Join.f
      refine .bind (ev_iTwo _ _ _ _ _ _ _ _) ?_
      rw [hc]
      exact .neg (by simp) .some
    have hm : Ev (fun k => interval_Meet.f k d u l h d' u' l' h') (false, false, 0, 0, false, some e) := by
      unfold interval_Meet.f
      refine .bind (ev_iTwo _ _ _ _ _ _ _ _) ?_
      rw [hc]
      exact .neg (by simp) .some
    have hw : Ev (fun k => interval_Within.f k d u l h d' u' l' h') (false, some e) := by
      unfold interval_Within.f
      refine .bind (ev_iTwo _ _ _ _ _ _ _ _) ?_
      rw [hc]
      exact .neg (by simp) .some
    refine .bind hj (.bind hm (.bind hw ?_))
    rw [hc]
    exact .pos (show e > 0 by omega) (.bind (.of fun _ => isSpan_err he _ _ _ _) (.pos rfl (.bind (.of fun _ => isSpan_err he _ _ _ _) (.pos rfl (.bind (.of fun _ => coded_err he) (.pos rfl (.neg (by simp) .some)))))))
end Go.Proofs.Rcp
