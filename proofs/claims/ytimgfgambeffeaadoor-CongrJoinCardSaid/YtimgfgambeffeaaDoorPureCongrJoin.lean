/- Plain law: the law 'CongrJoin' as it is printed is true, whatever it is given. -/
import Derived.Test.YtimgfgambeffeaaDoorCgRef
import Derived.Test.YtimgfgambeffeaaDoorCgLat
import Derived.Test.YtimgfgambeffeaaDoorC8
set_option linter.unusedVariables false
namespace Go.Proofs.Rcp
open Go.RowKit Go.Proofs.YtimgfgambeffeaaDoor.C Go.Proofs.YtimgfgambeffeaaDoorW.PrintWords Go.Proofs.YtimgfgambeffeaaDoorW.PrintMore

theorem ev_Join_bad {r m s n : Int} (h : cTwo r m s n ≠ none) : Ev (fun k => congr_Join.f k r m s n) (0, 0, cTwo r m s n) := by
  unfold congr_Join.f
  refine .bind ev_two_bad ?_
  obtain ⟨c, hc⟩ := Option.ne_none_iff_exists'.1 h
  rw [hc]
  exact .neg (by simp) .some
theorem pure_CongrJoin (r m s n : Int) : Ev (fun k => L2_CongrJoin.f k r m s n) true := by
  unfold L2_CongrJoin.f
  refine .bind ev_sixth (.pos rfl (.bind (ev_TwoCongrs r m s n) ?_))
  simp only [L2_own.f, Option.bind_some]
  by_cases h : cTwo r m s n = none
  · rw [h]
    obtain ⟨h, h'⟩ := cTwo_none.1 h
    have a := h.bd
    have b := h'.bd
    refine .bind (ev_Join h h') (.neg (by decide) (.bind (first3 h) (.bind (first3 h') (.pos (by simp) ?_))))
    have hb : ∀ k, k < ([r - m, r, r + m] ++ [s - n, s, s + n]).length → -2305843009213693952 ≤ ([r - m, r, r + m] ++ [s - n, s, s + n]).getD k 0 ∧ ([r - m, r, r + m] ++ [s - n, s, s + n]).getD k 0 ≤ 2305843009213693952 := by
      intro k hk
      match k, hk with
      | 0, _ | 1, _ | 2, _ | 3, _ | 4, _ | 5, _ => simp; omega
    refine .bind (ev_LeastOf (by simp) (by simp) hb) ?_
    have e : told (([r - m, r, r + m] ++ [s - n, s, s + n]).getD 0 0) ((diffG ([r - m, r, r + m] ++ [s - n, s, s + n]) : Nat) : Int) = told r ((Nat.gcd (Nat.gcd m.natAbs n.natAbs) (r - s).natAbs : Nat) : Int) := by
      refine told_same (fun d => ?_) ?_
      · rw [dvd_diffG, Nat.dvd_gcd_iff, Nat.dvd_gcd_iff, ← Int.ofNat_dvd_left, ← Int.ofNat_dvd_left, ← Int.ofNat_dvd_left]
        simp only [List.cons_append, List.nil_append, List.forall_mem_cons, List.getD_cons_zero, List.not_mem_nil, false_implies, implies_true, and_true]
        constructor
        · rintro ⟨_, h1, _, h3, h4, h5⟩
          have d1 : (d : Int) ∣ m := by have := h1; rwa [show r - (r - m) = m by omega] at this
          have d2 : (d : Int) ∣ n := by have := Int.dvd_sub h5 h4; rwa [show s + n - (r - m) - (s - (r - m)) = n by omega] at this
          have d3 : (d : Int) ∣ r - s := by have := Int.dvd_sub d1 h4; rwa [show m - (s - (r - m)) = r - s by omega] at this
          exact ⟨⟨d1, d2⟩, d3⟩
        · rintro ⟨⟨d1, d2⟩, d3⟩
          have d4 : (d : Int) ∣ s - (r - m) := by have := Int.dvd_sub d1 d3; rwa [show m - (r - s) = s - (r - m) by omega] at this
          refine ⟨by rw [Int.sub_self]; exact Int.dvd_zero _, by rwa [show r - (r - m) = m by omega], ?_, ?_, d4, ?_⟩
          · have := Int.dvd_add d1 d1; rwa [show m + m = r + m - (r - m) by omega] at this
          · have := Int.dvd_sub d4 d2; rwa [show s - (r - m) - n = s - n - (r - m) by omega] at this
          · have := Int.dvd_add d4 d2; rwa [show s - (r - m) + n = s + n - (r - m) by omega] at this
      · have d0 := Nat.gcd_dvd_left (Nat.gcd m.natAbs n.natAbs) (r - s).natAbs
        have d1 : ((Nat.gcd (Nat.gcd m.natAbs n.natAbs) (r - s).natAbs : Nat) : Int) ∣ m := Int.ofNat_dvd_left.2 (Nat.dvd_trans d0 (Nat.gcd_dvd_left _ _))
        have := Int.dvd_neg.2 d1
        simpa [show r - m - r = -m by omega] using this
    rw [e]
    refine .bind (.of fun _ => ?_) .some
    exact isCongr_ok _
  · obtain ⟨h1, h2⟩ := coded_two h
    refine .bind (ev_Join_bad h) (.pos h2 (.bind (.of fun _ => ?_) .some))
    exact isCongr_err h
end Go.Proofs.Rcp
