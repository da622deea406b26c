/- Plain law: the law 'CongrLattice' as it is printed is true, whatever it is given. -/
import Derived.Test.YtjpboodkmhikpaaDoorCgLat
import Derived.Test.YtjpboodkmhikpaaDoorC7
set_option linter.unusedVariables false
namespace Go.Proofs.Rcp
open Go.RowKit Go.Proofs.YtjpboodkmhikpaaDoor.C Go.Proofs.YtjpboodkmhikpaaDoorW.PrintWords Go.Proofs.YtjpboodkmhikpaaDoorW.PrintMore

theorem ok2 {f : Nat → Option (Int × Int × Option Int)} {a b : Int} (h : Ev f (a, b, none)) : Ev (fun k => (f k).bind fun t_ => match t_ with | (q0_, q1_, q2_) => if q2_.isNone = true then some (q0_, q1_) else none) (a, b) := .bind h .some
theorem ok3 {f : Nat → Option (Int × Int × Bool × Option Int)} {a b : Int} {c : Bool} (h : Ev f (a, b, c, none)) : Ev (fun k => (f k).bind fun t_ => match t_ with | (q0_, q1_, q2_, q3_) => if q3_.isNone = true then some (q0_, q1_, q2_) else none) (a, b, c) := .bind h .some
theorem ok1 {f : Nat → Option (Bool × Option Int)} {a : Bool} (h : Ev f (a, none)) : Ev (fun k => (f k).bind fun t_ => match t_ with | (q0_, q1_) => if q1_.isNone = true then some q0_ else none) a := .bind h .some
theorem ev_Join' {r m s n : Int} (h : CV r m) (h' : CV s n) : Ev (fun k => congr_Join_ok.f k r m s n) (told r (Nat.gcd (Nat.gcd m.natAbs n.natAbs) (r - s).natAbs : Nat)) := ok2 (ev_Join h h')
theorem ev_Within' {r m s n : Int} (h : CV r m) (h' : CV s n) : Ev (fun k => congr_Within_ok.f k r m s n) (within r m s n) := ok1 (ev_Within h h')
theorem ev_Add' {r m s n : Int} (h : CV r m) (h' : CV s n) : Ev (fun k => congr_Add_ok.f k r m s n) (told (r + s) (Nat.gcd m.natAbs n.natAbs : Nat)) := ok2 (ev_Add h h')
theorem ev_Sub' {r m s n : Int} (h : CV r m) (h' : CV s n) : Ev (fun k => congr_Sub_ok.f k r m s n) (told (r - s) (Nat.gcd m.natAbs n.natAbs : Nat)) := ok2 (ev_Sub h h')
theorem ev_Mul' {r m s n : Int} (h : CV r m) (h' : CV s n) : Ev (fun k => congr_Mul_ok.f k r m s n) (prod r m s n) := ok2 (ev_Mul h h')

theorem lat_j2 {r m s n : Int} (h : CV r m) (h' : CV s n) : Ev (fun k => L2_CongrLattice.j2 k r m s n) true := by
  refine Ev.step (h := fun k => _) (fun k => by simp only [L2_CongrLattice.j2, L2_own.f, Option.bind_some]; rfl) ?_
  refine .bind (ev_Add' h h') (.bind (ev_Add' h' h) (.bind (ev_Mul' h h') (.bind (ev_Mul' h' h) (.bind (ev_Sub' h h) ?_))))
  rw [prod_comm r m s n, Int.add_comm r s, Nat.gcd_comm m.natAbs n.natAbs]
  simp only [beq_self_eq_true, Bool.and_self, if_true]
  refine .bind (ev_Has 0 (told_valid _ (by omega))) ?_
  rw [less_self h]
  exact .some
theorem lat_j1 {r m s n : Int} (h : CV r m) (h' : CV s n) {x y : Int} {is : Bool} (hxy : is = true → CV x y ∧ within x y r m = true ∧ (within x y s n = true ∨ (x = r ∧ y = m))) : Ev (fun k => L2_CongrLattice.j1 k is false r m s n x y) true := by
  cases is with
  | false =>
    refine Ev.step (h := fun k => L2_CongrLattice.j2 k r m s n) (fun k => by simp only [L2_CongrLattice.j1, Bool.false_eq_true, if_false]) (lat_j2 h h')
  | true =>
    obtain ⟨v, w1, w2⟩ := hxy rfl
    refine Ev.step (h := fun k => _) (fun k => by simp only [L2_CongrLattice.j1, L2_own.f, Option.bind_some, Bool.false_eq_true, if_false, if_true]; rfl) ?_
    refine .bind (ev_Within' v h) ?_
    rw [w1]
    simp only [if_true]
    refine .bind (ev_Within' v h') ?_
    cases w : within x y s n with
    | true => simp only [if_true]; exact lat_j2 h h'
    | false =>
      simp only [Bool.false_eq_true, if_false]
      rcases w2 with w2 | ⟨rfl, rfl⟩
      · rw [w] at w2; cases w2
      · simp only [beq_self_eq_true, Bool.not_true, Bool.or_self, Bool.false_eq_true, if_false]
        exact lat_j2 h h'
theorem lat_meet {r m s n : Int} (h : CV r m) (h' : CV s n) : ∃ x y is, Ev (fun k => congr_Meet_ok.f k r m s n) (x, y, is) ∧ (is = true → CV x y ∧ within x y r m = true ∧ (within x y s n = true ∨ (x = r ∧ y = m))) := by
  by_cases hm : m = 0
  · subst hm
    have e := ev_Meet_a h h'
    cases hi : inC s n r with
    | true =>
      rw [hi] at e
      refine ⟨r, 0, true, ok3 e, fun _ => ⟨h, self_within h, .inr ⟨rfl, rfl⟩⟩⟩
    | false =>
      rw [hi] at e
      exact ⟨0, 0, false, ok3 e, fun q => by cases q⟩
  · by_cases hn : n = 0
    · subst hn
      have e := ev_Meet_b h hm h'
      cases hi : inC r m s with
      | true =>
        rw [hi] at e
        refine ⟨s, 0, true, ok3 e, fun _ => ⟨h', (within_pos hm).2 ⟨Int.dvd_zero _, (inC_pos hm).1 hi⟩, .inl (self_within h')⟩⟩
      | false =>
        rw [hi] at e
        exact ⟨0, 0, false, ok3 e, fun q => by cases q⟩
    · by_cases hd : ((Nat.gcd m.natAbs n.natAbs : Nat) : Int) ∣ r - s
      · rcases ev_Meet_both h hm h' hn hd with ⟨_, e⟩ | ⟨hM, x, h1, h2, e⟩
        · exact ⟨r, m, true, ok3 e, fun _ => ⟨h, self_within h, .inr ⟨rfl, rfl⟩⟩⟩
        · have a := h.bd
          have b := h'.bd
          have L := lcm_dvd (m := m) (n := n) (by omega) (by omega)
          refine ⟨_, _, true, ok3 e, fun _ => ⟨?_, ?_, .inl ?_⟩⟩
          · have := told_valid x (m := m / (Nat.gcd m.natAbs n.natAbs : Nat) * n) (by omega)
            rwa [told_pos (by omega) (by omega)] at this
          · exact (within_pos hm).2 ⟨L.1, by rw [Int.emod_emod_of_dvd _ L.1, h1]⟩
          · exact (within_pos hn).2 ⟨L.2.1, by rw [Int.emod_emod_of_dvd _ L.2.1, h2]⟩
      · exact ⟨0, 0, false, ok3 (ev_Meet_none h hm h' hn hd), fun q => by cases q⟩
theorem lattice (r m s n : Int) : Ev (fun k => L2_CongrLattice.f k r m s n) true := by
  unfold L2_CongrLattice.f
  refine .bind ev_sixth ?_
  simp only [if_true]
  refine .bind (ev_TwoCongrs r m s n) ?_
  rcases cTwo_cases r m s n with h | h | h
  · rw [h]
    obtain ⟨h, h'⟩ := cTwo_none.1 h
    refine Ev.step (h := fun k => _) (fun k => by simp only [L2_CongrLattice.j0, L2_own.f, Option.bind_some, errN, Option.getD_none, gt_iff_lt, Int.lt_irrefl, decide_false, Bool.false_eq_true, if_false]; rfl) ?_
    obtain ⟨x, y, is, e, hx⟩ := lat_meet h h'
    have J := join_within h h' _ rfl
    have V := told_valid r (m := (Nat.gcd (Nat.gcd m.natAbs n.natAbs) (r - s).natAbs : Nat)) (by omega)
    refine .bind (ev_Join' h h') (.bind e (.bind (ev_Within' h V) (.bind (ev_Within' h' V) ?_)))
    rw [J.1, J.2]
    simp only [if_true, Bool.not_true]
    exact lat_j1 h h' hx
  all_goals
    rw [h]
    exact Ev.step (h := fun k => some true) (fun k => by simp only [L2_CongrLattice.j0, errN, Option.getD_some]; rfl) .some
end Go.Proofs.Rcp
