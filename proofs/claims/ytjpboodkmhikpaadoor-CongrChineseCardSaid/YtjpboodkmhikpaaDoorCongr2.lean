import Derived.Test.YtjpboodkmhikpaaDoorCongr1
set_option linter.unusedVariables false
namespace Go.Proofs.Rcn
open Go Go.RowKit

theorem tmod_bd (n m : Int) (h : 1 ≤ m) : -m < n.tmod m ∧ n.tmod m < m := by
  rw [Int.tmod_eq_emod]
  have h1 := Int.emod_nonneg n (show m ≠ 0 by omega)
  have h2 := Int.emod_lt_of_pos n (show 0 < m by omega)
  have h3 : (m.natAbs : Int) = m := by omega
  split <;> omega
theorem tmod_up (n m : Int) (h : 1 ≤ m) : (n.tmod m + m) % m = n % m := by
  rw [Int.add_emod_right, Int.tmod_eq_emod]
  have h3 : (m.natAbs : Int) = m := by omega
  split
  · simp
  · rw [h3, Int.sub_emod_right, Int.emod_emod]

theorem tmod_mod (n m : Int) (h : 1 ≤ m) : n.tmod m % m = n % m := by
  have := tmod_up n m h
  rwa [Int.add_emod_right] at this

/-- Is n one of them? -/
def inC (r m n : Int) : Bool := if m = 0 then n == r else n % m == r

set_option maxRecDepth 100000 in
set_option maxHeartbeats 1000000 in
theorem chas_any (r m n : Int) (w : World) (h : CV r m) (h1 : -4611686018427387904 ≤ n) (h2 : n ≤ 4611686018427387904) :
    Calls Tryd.prog 19 #[.agg #[.int .i64 r, .int .i64 m], .int .i64 n] w fun e w' => e = .returned (.bool (inC r m n)) ∧ Below w.heap.size w w' := by
  rcases h with ⟨rfl, a1, a2⟩ | ⟨a1, a2, a3, a4⟩
  · go_enter Tryd.func19, Tryd.ntmps19
    go_wp2
    go_ret
    exact ⟨ret_bool (by simp [inC]), by repeat (first | exact Below.refl _ _ | refine below_alloc ?_ _ | refine below_drew ?_ | refine below_drewN ?_ _)⟩
  · obtain ⟨b1, b2⟩ := tmod_bd n m a1
    go_enter Tryd.func19, Tryd.ntmps19
    have e1 : IntKind.i64.wrap (n.tmod m + m) = n.tmod m + m := IntWalk.i64_in _ (by omega)
    have e2 : (n.tmod m + m).tmod m = (n.tmod m + m) % m := Int.tmod_eq_emod_of_nonneg (by omega)
    go_wp2
    go_quiet (fail)
    go_wp2
    go_ret
    exact ⟨ret_bool (by rw [inC, if_neg (by omega), tmod_mod n m a1]), by repeat (first | exact Below.refl _ _ | refine below_alloc ?_ _ | refine below_drew ?_ | refine below_drewN ?_ _)⟩
/-- A congruence in form. -/
def toldR (r m : Int) : Int := if 1048576 < m ∨ (m = 0 ∧ (1099511627776 < r ∨ r < -1099511627776)) then 0 else if 0 < m then r % m else r
def toldM (r m : Int) : Int := if 1048576 < m ∨ (m = 0 ∧ (1099511627776 < r ∨ r < -1099511627776)) then 1 else if 0 < m then m else 0

theorem told_pos (r m : Int) (h1 : 1 ≤ m) (h2 : m ≤ 1048576) : toldR r m = r % m ∧ toldM r m = m := by
  constructor
  · rw [toldR, if_neg (by omega), if_pos (by omega)]
  · rw [toldM, if_neg (by omega), if_pos (by omega)]
theorem told_one (r : Int) (h1 : -1099511627776 ≤ r) (h2 : r ≤ 1099511627776) : toldR r 0 = r ∧ toldM r 0 = 0 := by
  constructor
  · rw [toldR, if_neg (by omega), if_neg (by omega)]
  · rw [toldM, if_neg (by omega), if_neg (by omega)]

set_option maxRecDepth 100000 in
set_option maxHeartbeats 1000000 in
theorem told_any (r m : Int) (w : World) (hm : 0 ≤ m) (h1 : -4611686018427387904 ≤ r) (h2 : r ≤ 4611686018427387904) :
    Calls Tryd.prog 67 #[.int .i64 r, .int .i64 m] w fun e w' => e = .returned (.agg #[.int .i64 (toldR r m), .int .i64 (toldM r m)]) ∧ Below w.heap.size w w' := by
  by_cases c1 : 1048576 < m
  · go_enter Tryd.func67, Tryd.ntmps67
    go_wp2
    refine bodyPost_ret (v := .agg #[.int .i64 0, .int .i64 1]) (by simp [results, Tryd.results67, go_sem]) rfl ⟨by simp [toldR, toldM, c1], ?_⟩
    repeat (first | exact Below.refl _ _ | refine below_alloc ?_ _ | refine below_drew ?_ | refine below_drewN ?_ _)
  by_cases c0 : m = 0
  · subst c0
    by_cases c2 : 1099511627776 < r ∨ r < -1099511627776
    · have q : (decide (1099511627776 < r) || decide (r < -1099511627776)) = true := by simpa using c2
      go_enter Tryd.func67, Tryd.ntmps67
      go_wp2
      all_goals
        refine bodyPost_ret (v := .agg #[.int .i64 0, .int .i64 1]) (by simp [results, Tryd.results67, go_sem]) rfl ⟨by rw [toldR, toldM, if_pos (.inr ⟨rfl, c2⟩), if_pos (.inr ⟨rfl, c2⟩)], ?_⟩
        repeat (first | exact Below.refl _ _ | refine below_alloc ?_ _ | refine below_drew ?_ | refine below_drewN ?_ _)
    · have q1 : r ≤ 1099511627776 := by omega
      have q2 : -1099511627776 ≤ r := by omega
      go_enter Tryd.func67, Tryd.ntmps67
      go_wp2
      refine bodyPost_ret (v := .agg #[.int .i64 r, .int .i64 0]) (by simp [results, Tryd.results67, go_sem]) rfl ⟨by rw [(told_one r q2 q1).1, (told_one r q2 q1).2], ?_⟩
      repeat (first | exact Below.refl _ _ | refine below_alloc ?_ _ | refine below_drew ?_ | refine below_drewN ?_ _)
  · obtain ⟨b1, b2⟩ := tmod_bd r m (by omega)
    have b3 : 1 ≤ m := by omega
    have b4 : m ≤ 1048576 := by omega
    have e1 : IntKind.i64.wrap (r.tmod m + m) = r.tmod m + m := IntWalk.i64_in _ (by omega)
    have e2 : (r.tmod m + m).tmod m = (r.tmod m + m) % m := Int.tmod_eq_emod_of_nonneg (by omega)
    go_enter Tryd.func67, Tryd.ntmps67
    go_wp2
    refine bodyPost_ret (v := .agg #[.int .i64 (r % m), .int .i64 m]) (by simp [results, Tryd.results67, go_sem, tmod_mod r m b3]) rfl ⟨by rw [(told_pos r m b3 b4).1, (told_pos r m b3 b4).2], ?_⟩
    repeat (first | exact Below.refl _ _ | refine below_alloc ?_ _ | refine below_drew ?_ | refine below_drewN ?_ _)

theorem told_pos_any (r m : Int) (w : World) (hm : 1 ≤ m) (hm2 : m ≤ 1048576) (h1 : -4611686018427387904 ≤ r) (h2 : r ≤ 4611686018427387904) :
    Calls Tryd.prog 67 #[.int .i64 r, .int .i64 m] w fun e w' => e = .returned (.agg #[.int .i64 (r % m), .int .i64 m]) ∧ Below w.heap.size w w' := by
  have h := told_any r m w (by omega) h1 h2
  rwa [(told_pos r m hm hm2).1, (told_pos r m hm hm2).2] at h

end Go.Proofs.Rcn
