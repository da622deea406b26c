/- Plain law: the law 'CongrOf' as it is printed is true, whatever it is given. -/
import Derived.Test.YtimgfgambeffeaaDoorCgRef
import Derived.Test.YtimgfgambeffeaaDoorCgLat
import Derived.Test.YtimgfgambeffeaaDoorC10
set_option linter.unusedVariables false
namespace Go.Proofs.Rcp
open Go.RowKit Go.Proofs.Rcg Go.Proofs.YtimgfgambeffeaaDoor.C Go.Proofs.YtimgfgambeffeaaDoorW.PrintWords Go.Proofs.YtimgfgambeffeaaDoorW.PrintMore

theorem coded_one (r m : Int) : L2_coded.f (cValid r m) (errN (cValid r m)) = some true := by
  rcases cValid_cases r m with e | e | e <;> rw [e]
  · exact coded_ok
  · exact coded_err (.inl rfl)
  · exact coded_err (.inr rfl)
theorem ev_Has_bad {r m n : Int} (h : cValid r m ≠ none) : Ev (fun k => congr_Has.f k r m n) false := by
  unfold congr_Has.f
  refine .bind (ev_Valid r m) ?_
  obtain ⟨c, hc⟩ := Option.ne_none_iff_exists'.1 h
  rw [hc]
  exact .neg (by simp) .some
theorem ev_Within_bad {r m s n : Int} (h : cTwo r m s n ≠ none) : Ev (fun k => congr_Within.f k r m s n) (false, cTwo r m s n) := by
  unfold congr_Within.f
  refine .bind ev_two_bad ?_
  obtain ⟨c, hc⟩ := Option.ne_none_iff_exists'.1 h
  rw [hc]
  exact .neg (by simp) .some
theorem of_l0 {s n : Int} (h : CV s n) {l : List Int} (hl : l.length ≤ 1000) (hb : ∀ k, k < l.length → -4611686018427387904 ≤ l.getD k 0 ∧ l.getD k 0 ≤ 4611686018427387904) (v : Bool) (hv : v = l.all (inC s n)) :
    ∀ (d i : Nat), i + d = l.length → Ev (fun k => L2_CongrOf.l0 k v none l ((l.take i).all (inC s n)) (i : Int) s n) true := by
  intro d
  induction d with
  | zero =>
    intro i hi
    have et : (l.take i).all (inC s n) = v := by rw [List.take_of_length_le (by omega), hv]
    rw [et]
    refine Ev.step (h := fun k => some (v == v)) (fun k => ?_) (.of fun _ => by simp)
    simp only [L2_CongrOf.l0]
    rw [if_neg (by omega)]
    rfl
  | succ d ih =>
    intro i hi
    have hlt : i < l.length := by omega
    have e1 : wrap64 ((i : Int) + 1) = ((i + 1 : Nat) : Int) := by unfold wrap64; omega
    have e2 : (l.take (i + 1)).all (inC s n) = ((l.take i).all (inC s n) && inC s n (l.getD i 0)) := by rw [take_snoc hlt, List.all_append]; simp
    have er : rd l (i : Int) = l.getD i 0 := by simp [rd]
    refine Ev.step (h := fun k => L2_CongrOf.l0 k v none l ((l.take (i + 1)).all (inC s n)) ((i + 1 : Nat) : Int) s n) (fun k => ?_) (ih (i + 1) (by omega))
    simp only [L2_CongrOf.l0]
    rw [if_pos (by omega), e1, e2, er, leaves_c _ h (hb i hlt).1 (hb i hlt).2]
    cases (l.take i).all (inC s n)
    · simp
    · rw [if_pos rfl, if_pos (by omega)]
      simp
theorem within_all {r m s n : Int} (h : CV r m) (h' : CV s n) : within r m s n = [r - 2 * m, r - m, r, r + m, r + 2 * m].all (inC s n) := by
  rw [Bool.eq_iff_iff]
  simp only [List.all_cons, List.all_nil, Bool.and_true, Bool.and_eq_true]
  by_cases h0 : n = 0
  · subst h0
    simp only [within_zero, inC_zero]
    constructor
    · rintro ⟨rfl, rfl⟩
      omega
    · omega
  · rw [within_pos h0]
    simp only [inC_pos h0]
    constructor
    · rintro ⟨⟨q, rfl⟩, rfl⟩
      refine ⟨?_, ?_, rfl, ?_, ?_⟩
      · rw [show r - 2 * (n * q) = r + n * (-(2 * q)) by rw [Int.mul_neg, Int.mul_left_comm]; omega, Int.add_mul_emod_self_left]
      · rw [show r - n * q = r + n * (-q) by rw [Int.mul_neg]; omega, Int.add_mul_emod_self_left]
      · rw [Int.add_mul_emod_self_left]
      · rw [show r + 2 * (n * q) = r + n * (2 * q) by rw [Int.mul_left_comm], Int.add_mul_emod_self_left]
    · rintro ⟨_, _, h3, h4, _⟩
      refine ⟨?_, h3⟩
      have := Int.emod_eq_emod_iff_emod_sub_eq_zero.1 (h4.trans h3.symm)
      rw [show r + m - r = m by omega] at this
      exact Int.dvd_of_emod_eq_zero this
theorem of_j1 (r m s n : Int) : Ev (fun k => L2_CongrOf.j1 k false r m s n) true := by
  by_cases h : cTwo r m s n = none
  · have h0 := h
    obtain ⟨h, h'⟩ := cTwo_none.1 h
    have a := h.bd
    refine Ev.step (h := fun k => (R2_TwoCongrs.f k r m s n).bind fun t => (congr_Within.f k r m s n).bind fun b => if t > 0 then ((L2_coded.f b.2 t).bind fun t2 => if t2 = true then some (!b.1) else none) else ((R2_FirstOf.f k r m 5).bind fun l => L2_CongrOf.l0 k b.1 b.2 l true 0 s n)) (fun k => by simp only [L2_CongrOf.j1, L2_own.f, Option.bind_some, Bool.false_eq_true, if_false]) ?_
    refine .bind (ev_TwoCongrs r m s n) ?_
    rw [h0]
    refine .bind (ev_Within h h') (.neg (by decide) (.bind (first5 h) ?_))
    have := of_l0 h' (l := [r - 2 * m, r - m, r, r + m, r + 2 * m]) (by simp) (fun k hk => by
      match k, hk with
      | 0, _ | 1, _ | 2, _ | 3, _ | 4, _ => simp; omega) _ (within_all h h') 5 0 (by simp)
    simpa using this
  · obtain ⟨h1, h2⟩ := coded_two h
    refine Ev.step (h := fun k => (R2_TwoCongrs.f k r m s n).bind fun t => (congr_Within.f k r m s n).bind fun b => if t > 0 then ((L2_coded.f b.2 t).bind fun t2 => if t2 = true then some (!b.1) else none) else ((R2_FirstOf.f k r m 5).bind fun l => L2_CongrOf.l0 k b.1 b.2 l true 0 s n)) (fun k => by simp only [L2_CongrOf.j1, L2_own.f, Option.bind_some, Bool.false_eq_true, if_false]) ?_
    refine .bind (ev_TwoCongrs r m s n) (.bind (ev_Within_bad h) (.pos h2 (.bind (.of fun _ => h1) (.pos rfl .some))))
theorem pure_CongrOf (r m s n x : Int) : Ev (fun k => L2_CongrOf.f k r m s n x) true := by
  have j : ∀ b : Bool, (b = false → -1152921504606846976 ≤ x ∧ x ≤ 1152921504606846976) → Ev (fun k => L2_CongrOf.j0 k x true b r m s n) true := by
    intro b hb
    cases b with
    | true => exact Ev.step (h := fun k => some true) (fun k => by simp only [L2_CongrOf.j0, if_true]) .some
    | false =>
      have hx := hb rfl
      refine Ev.step (h := fun k => (R2_CongrError.f k r m).bind fun e => (congr_Valid.f k r m).bind fun v => (L2_coded.f v e).bind fun t => if t = true then ((congr_Has.f k r m x).bind fun a => if e = 0 then ((R2_LeavesOf.f r m x).bind fun b => L2_CongrOf.j1 k (a != b) r m s n) else L2_CongrOf.j1 k (a != false) r m s n) else L2_CongrOf.j1 k true r m s n) (fun k => by simp only [L2_CongrOf.j0, L2_own.f, Option.bind_some, Bool.false_eq_true, if_false]) ?_
      refine .bind (ev_CongrError r m) (.bind (ev_Valid r m) (.bind (.of fun _ => coded_one r m) (.pos rfl ?_)))
      by_cases h : cValid r m = none
      · rw [h]
        have h := cValid_none.1 h
        refine .bind (ev_Has x h) (.pos rfl (.bind (.of fun _ => leaves_c x h (by omega) (by omega)) ?_))
        simp only [bne_self_eq_false]
        exact of_j1 r m s n
      · refine .bind (ev_Has_bad h) (.neg ?_ ?_)
        · rcases cValid_cases r m with e | e | e
          · exact absurd e h
          · rw [e]; decide
          · rw [e]; decide
        · simp only [bne_self_eq_false]
          exact of_j1 r m s n
  unfold L2_CongrOf.f
  refine .bind ev_sixth (.pos rfl ?_)
  have e : wrap64 (-1152921504606846976) = -1152921504606846976 := by unfold wrap64; omega
  unfold R2_Far.f
  rw [e]
  by_cases h1 : x > 1152921504606846976
  · simp only [if_pos h1, Option.bind_some]
    exact j true (fun h => by cases h)
  · simp only [if_neg h1, Option.bind_some]
    refine j _ (fun h => ?_)
    have := of_decide_eq_false h
    omega
end Go.Proofs.Rcp
