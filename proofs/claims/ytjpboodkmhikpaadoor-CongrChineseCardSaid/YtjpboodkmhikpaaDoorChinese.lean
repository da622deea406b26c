import Derived.Test.YtjpboodkmhikpaaDoorSixth
set_option linter.unusedVariables false
namespace Go.Proofs.Rcn
open Go Go.RowKit

/-! ### The plain law -/
theorem chin_same {m n x y : Nat} (hm : 1 ≤ m) (hn : 1 ≤ n) (hy : y ≤ x) (h1 : y % m = x % m) (h2 : y % n = x % n) : y % (m / Nat.gcd m n * n) = x % (m / Nat.gcd m n * n) := by
  have d1 : m ∣ x - y := (Nat.dvd_iff_mod_eq_zero).2 (Nat.sub_mod_eq_zero_of_mod_eq h1.symm)
  have d2 : n ∣ x - y := (Nat.dvd_iff_mod_eq_zero).2 (Nat.sub_mod_eq_zero_of_mod_eq h2.symm)
  have e : m / Nat.gcd m n * n = Nat.lcm m n := by
    rw [Nat.lcm, Nat.div_mul_right_comm (Nat.gcd_dvd_left m n)]
  rw [e]
  obtain ⟨q, hq⟩ := Nat.lcm_dvd d1 d2
  have : x = y + Nat.lcm m n * q := by omega
  rw [this, Nat.add_mul_mod_self_left]
theorem chin_meets (m n x : Nat) : (((x % m : Nat) : Int) - (x % n : Nat)).tmod (Nat.gcd m n : Nat) = 0 := by
  rw [Int.tmod_eq_zero_of_dvd]
  have h1 : ((Nat.gcd m n : Nat) : Int) ∣ (x : Int) - (x % m : Nat) := by
    have := Nat.dvd_trans (Nat.gcd_dvd_left m n) (Nat.dvd_sub_mod (n := m) x)
    have h := Int.natCast_dvd_natCast.2 this
    rwa [Int.natCast_sub (Nat.mod_le _ _)] at h
  have h2 : ((Nat.gcd m n : Nat) : Int) ∣ (x : Int) - (x % n : Nat) := by
    have := Nat.dvd_trans (Nat.gcd_dvd_right m n) (Nat.dvd_sub_mod (n := n) x)
    have h := Int.natCast_dvd_natCast.2 this
    rwa [Int.natCast_sub (Nat.mod_le _ _)] at h
  have h3 := Int.dvd_sub h2 h1
  have e : (x : Int) - (x % n : Nat) - ((x : Int) - (x % m : Nat)) = ((x % m : Nat) : Int) - (x % n : Nat) := by omega
  rwa [e] at h3
/-- What the call of Meet answers. -/
theorem chin_meet (m n x M : Nat) (hMd : m / Nat.gcd m n * n = M) (w : World) (hm : 1 ≤ m) (hn : 1 ≤ n) (hm2 : m ≤ 1000) (hn2 : n ≤ 1000) (hx : x < m * n) :
    Calls Tryd.prog 18 #[.agg #[.int .i64 ((x : Int) % m), .int .i64 m], .agg #[.int .i64 ((x : Int) % n), .int .i64 n]] w fun e w' =>
      e = .returned (.tuple #[.agg #[.int .i64 ((x : Int) % M), .int .i64 M], .bool true, .nilIface]) ∧ Below w.heap.size w w' := by
  subst hMd
  have hdiv : x / m < n := (Nat.div_lt_iff_lt_mul (by omega)).2 (by rw [Nat.mul_comm]; exact hx)
  have hx0 : x % m + x / m * m = x := by rw [Nat.mul_comm]; exact Nat.mod_add_div x m
  have hM : m / Nat.gcd m n * n ≤ 1048576 := by
    have := Nat.mul_le_mul (Nat.div_le_self m (Nat.gcd m n)) (Nat.le_refl n)
    have := Nat.mul_le_mul hm2 hn2
    omega
  refine (cmeet_both (x % m) m (x % n) n (x / m) w hm hn (by omega) (by omega) (Nat.mod_lt _ (by omega)) (Nat.mod_lt _ (by omega)) (chin_meets m n x) hM hdiv (by rw [hx0])).mono ?_
  rintro e w' ⟨k, hk, hh, rfl, hb⟩
  have hkm : k * m ≤ x / m * m := Nat.mul_le_mul_right _ hk
  rw [chin_same hm hn (x := x) (by omega) (by rw [Nat.add_mul_mod_self_right, Nat.mod_mod]) hh]
  exact ⟨rfl, hb⟩

set_option maxRecDepth 100000 in
set_option maxHeartbeats 1000000 in
theorem chin_out (m n x : Int) (w : World) (h : m < 1 ∨ (1 ≤ m ∧ n < 1) ∨ (1 ≤ m ∧ 1 ≤ n ∧ 1000 < m) ∨ (1 ≤ m ∧ 1 ≤ n ∧ m ≤ 1000 ∧ 1000 < n) ∨ (1 ≤ m ∧ 1 ≤ n ∧ m ≤ 1000 ∧ n ≤ 1000 ∧ x < 0) ∨ (1 ≤ m ∧ 1 ≤ n ∧ m ≤ 1000 ∧ n ≤ 1000 ∧ 0 ≤ x ∧ m * n ≤ x ∧ 0 ≤ m * n ∧ m * n ≤ 1000000)) :
    Calls Tryd.prog 3 #[.int .i64 m, .int .i64 n, .int .i64 x] w fun e w' => e = .returned (.bool true) ∧ Below w.heap.size w w' := by
  rcases h with h | ⟨a1, h⟩ | ⟨a1, a2, h⟩ | ⟨a1, a2, a3, h⟩ | ⟨a1, a2, a3, a4, h⟩ | ⟨a1, a2, a3, a4, a5, h, a6, a7⟩
  all_goals
    go_enter Tryd.func3, Tryd.ntmps3
    go_wp2_with (go_at_call 17; refine (sixth_any _).mono ?_; rintro e w1 ⟨rfl, hb1⟩)
    go_ret
    exact ⟨rfl, hb1⟩

set_option maxRecDepth 100000 in
set_option maxHeartbeats 1000000 in
theorem chin_in (m n x : Nat) (w : World) (hm : 1 ≤ m) (hn : 1 ≤ n) (hm2 : m ≤ 1000) (hn2 : n ≤ 1000) (hx : x < m * n) :
    Calls Tryd.prog 3 #[.int .i64 m, .int .i64 n, .int .i64 x] w fun e w' => e = .returned (.bool true) ∧ Below w.heap.size w w' := by
  have hmn := Nat.mul_le_mul hm2 hn2
  have p1 : (x : Int) < (m : Int) * (n : Int) := by exact_mod_cast hx
  have p2 : (m : Int) * (n : Int) ≤ 1000000 := by rw [← Int.natCast_mul]; omega
  have p3 : (0 : Int) ≤ (m : Int) * (n : Int) := by omega
  obtain ⟨M, hMd⟩ : ∃ M, m / Nat.gcd m n * n = M := ⟨_, rfl⟩
  have hM1 : 1 ≤ M := by rw [← hMd]; exact Nat.mul_pos (Nat.div_pos (Nat.le_of_dvd (by omega) (Nat.gcd_dvd_left m n)) (Nat.gcd_pos_of_pos_left _ (by omega))) (by omega)
  have hM2 : M ≤ 1000000 := by
    have := Nat.mul_le_mul (Nat.div_le_self m (Nat.gcd m n)) (Nat.le_refl n)
    omega
  have hr := Nat.mod_lt x (show 0 < M by omega)
  have hin : inC ((x : Int) % M) (M : Int) (x : Int) = true := by
    rw [inC, if_neg (by omega)]; simp
  have HI := Lib.hid hin
  have HX := Lib.hid hx
  have HM := Lib.hid hMd
  clear hx hmn hin hMd
  go_enter Tryd.func3, Tryd.ntmps3
  go_upto_region 4 with (go_at_call 17; refine (sixth_any _).mono ?_; rintro e w1 ⟨rfl, hb1⟩)
  go_cut [8, 9, 10] (fun a b c wc => ∃ p, a = .pointer (some ⟨p, 0, none⟩) ∧ b = .bool true ∧ c = .nilIface ∧ wc.cell? ⟨p, 0, none⟩ = some (.int .i64 ((x : Int) % M)) ∧ wc.cell? ⟨p, 1, none⟩ = some (.int .i64 M) ∧ Below w.heap.size w wc)
  case first =>
    have z3 : ¬ m = 0 := by omega
    have z4 : ¬ n = 0 := by omega
    go_region_held3 (fun w' => True) (trivial)
      ((go_at_call 18; refine (chin_meet m n x M HM.out _ hm hn hm2 hn2 HX.out).mono ?_; rintro e w2 ⟨rfl, hb2⟩; obtain ⟨hc2, hf2⟩ := bcell hb2; have hz2 := hb2.size; simp at hz2))
    all_goals (go_wp2_with fail; go_meet)
    · exact ⟨_, rfl, rfl, rfl, cell_new _ _ _ 0, cell_new _ _ _ 1, below_alloc (below_then (below_drew hb1) hb2) _⟩
    · exact ⟨_, rfl, rfl, rfl, by go_simp, by go_simp, below_set (below_set (below_then (below_drew (below_alloc hb1 _)) hb2) hb1.size _) hb1.size _⟩
  case rest =>
    obtain ⟨p, rfl, rfl, rfl, c0, c1, hbw⟩ := hcut
    have HBW := Lib.hid hbw
    clear hbw
    have hq0 : (0 : Int) ≤ (x : Int) % M := by omega
    have hq1 : (x : Int) % M < M := by omega
    go_wp2_with (go_at_call 19; refine (chas_val _ _ _ true _ (.inr ⟨by omega, by omega, by omega, by omega⟩) (by omega) (by omega) HI.out).mono ?_; rintro e w3 ⟨rfl, hb3⟩)
    have d0 := cell_below hb3 c0
    have d1 := cell_below hb3 c1
    have HBW3 := Lib.hid (below_then HBW.out hb3)
    clear c0 c1 hb3 HBW
    go_loopw [11, 12] (fun g a wr => ∃ p q m2 : Nat, wr = w3.drewN m2 ∧ g = .int .i64 p ∧ a = .int .i64 q ∧ Hid (Nat.gcd p q = Nat.gcd m n) ∧ p ≤ 1000 ∧ q ≤ 1000) (fun _ a _ => (intOf a).toNat)
    case atStart => exact ⟨m, n, 0, rfl, rfl, rfl, rfl, hm2, hn2⟩
    case round =>
      obtain ⟨y, z, m2, rfl, rfl, rfl, HQ, hy, hz⟩ := hrel
      by_cases h0 : z = 0
      · subst h0
        have hy2 : y = Nat.gcd m n := by rw [← HQ.out, Nat.gcd_zero_right]
        have hy3 : ¬ y = 0 := by
          have := Nat.gcd_pos_of_pos_left n (show 0 < m by omega)
          omega
        have hy4 : (1 : Int) ≤ (y : Int) := by omega
        have hJ : (m : Int) / (y : Int) * n = M := by
          rw [hy2, ← HM.out]; rfl
        have e1 : IntKind.i64.wrap ((m : Int) / (y : Int)) = (m : Int) / (y : Int) := by
          have h1 : (0 : Int) ≤ (m : Int) / y := Int.ediv_nonneg (by omega) (by omega)
          have h2 : (m : Int) / y ≤ m := Int.ediv_le_self _ (by omega)
          exact IntWalk.i64_in _ (by omega)
        have e2 : IntKind.i64.wrap (M : Int) = M := IntWalk.i64_in _ (by omega)
        have e3 : ¬ M = 0 := by omega
        clear hy2
        go_wp2
        go_quiet (fail)
        go_wp2
        go_ret
        exact ⟨rfl, by repeat (first | exact HBW3.out | refine below_drewN ?_ _)⟩
      · have h1 : (1 : Int) ≤ (z : Int) := by omega
        have h2 : ((z : Int) != 0) = true := by simpa using h0
        go_wp2
        go_quiet (fail)
        go_wp2
        have hlt2 := Nat.mod_lt y (show 0 < z by omega)
        refine ⟨⟨z, y % z, m2 + nq, World.drewN_drewN .., rfl, by simp, ?_, hz, by omega⟩, by simp [intOf]; omega⟩
        show Nat.gcd z (y % z) = Nat.gcd m n
        rw [← HQ.out, Nat.gcd_comm y z, Nat.gcd_rec z y, Nat.gcd_comm]

/-- Whatever three numbers. -/
theorem chin_any (m n x : Int) (w : World) : Calls Tryd.prog 3 #[.int .i64 m, .int .i64 n, .int .i64 x] w fun e w' => e = .returned (.bool true) ∧ Below w.heap.size w w' := by
  by_cases h : 1 ≤ m ∧ 1 ≤ n ∧ m ≤ 1000 ∧ n ≤ 1000
  · obtain ⟨h1, h2, h3, h4⟩ := h
    obtain ⟨m, rfl⟩ := Int.eq_ofNat_of_zero_le (show 0 ≤ m by omega)
    obtain ⟨n, rfl⟩ := Int.eq_ofNat_of_zero_le (show 0 ≤ n by omega)
    have hmn := Nat.mul_le_mul (show m ≤ 1000 by omega) (show n ≤ 1000 by omega)
    have e : ((m * n : Nat) : Int) = (m : Int) * n := by simp
    by_cases hx : 0 ≤ x ∧ x < (m : Int) * n
    · obtain ⟨x, rfl⟩ := Int.eq_ofNat_of_zero_le hx.1
      exact chin_in m n x w (by omega) (by omega) (by omega) (by omega) (by omega)
    · by_cases h0 : x < 0
      · exact chin_out _ _ _ w (.inr (.inr (.inr (.inr (.inl ⟨h1, h2, h3, h4, h0⟩)))))
      · exact chin_out _ _ _ w (.inr (.inr (.inr (.inr (.inr ⟨h1, h2, h3, h4, by omega, by omega, by omega, by omega⟩)))))
  · exact chin_out _ _ _ w (by omega)
end Go.Proofs.Rcn
