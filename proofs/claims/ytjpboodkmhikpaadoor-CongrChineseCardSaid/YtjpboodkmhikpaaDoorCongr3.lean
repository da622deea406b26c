import Derived.Test.YtjpboodkmhikpaaDoorCongr2
set_option linter.unusedVariables false
namespace Go.Proofs.Rcn
open Go Go.RowKit

theorem gcdL_two (m n : Nat) : gcdL [(m : Int), (n : Int)] = Nat.gcd m n := by simp [gcdL]

theorem gcd2_any (g0 c m n : Nat) (w : World) (hm : m ≤ 1048576) (hn : n ≤ 1048576) (c0 : w.cell? ⟨g0, 0, none⟩ = some (.int .i64 m)) (c1 : w.cell? ⟨g0, 1, none⟩ = some (.int .i64 n)) :
    Calls Tryd.prog 66 #[.slice (some ⟨g0, 0, none⟩) 2 c] w fun e w' => e = .returned (.int .i64 (Nat.gcd m n : Nat)) ∧ ∃ q, w' = w.drewN q := by
  have h := gcd_any g0 c [(m : Int), (n : Int)] w (by simp) (fun k hk => by
    match k, hk with
    | 0, _ => simp; omega
    | 1, _ => simp; omega) (fun k hk => by
    match k, hk with
    | 0, _ => simpa using c0
    | 1, _ => simpa using c1)
  rwa [gcdL_two] at h

theorem chas_val (r m n : Int) (v : Bool) (w : World) (h : CV r m) (h1 : -4611686018427387904 ≤ n) (h2 : n ≤ 4611686018427387904) (hv : inC r m n = v) :
    Calls Tryd.prog 19 #[.agg #[.int .i64 r, .int .i64 m], .int .i64 n] w fun e w' => e = .returned (.bool v) ∧ Below w.heap.size w w' := by
  subst hv
  exact chas_any r m n w h h1 h2
theorem inC_nat (s n x : Nat) (hn : 1 ≤ n) : inC s n x = decide (x % n = s) := by
  rw [inC, if_neg (by omega)]
  show decide ((x : Int) % n = s) = _
  congr 1
  rw [← Int.natCast_emod]
  exact propext ⟨fun h => by exact_mod_cast h, fun h => by rw [h]⟩

/-- What stands in the blocks of its own. -/
def MeetW (w : World) (m s n : Nat) (wr : World) : Prop :=
  Below w.heap.size w wr ∧ w.heap.size + 3 ≤ wr.heap.size ∧ wr.cell? ⟨w.heap.size, 1, none⟩ = some (.int .i64 m) ∧ wr.cell? ⟨w.heap.size + 1, 0, none⟩ = some (.int .i64 s) ∧ wr.cell? ⟨w.heap.size + 1, 1, none⟩ = some (.int .i64 n) ∧
    wr.cell? ⟨w.heap.size + 1 + 1, 0, none⟩ = some (.int .i64 0) ∧ wr.cell? ⟨w.heap.size + 1 + 1, 1, none⟩ = some (.int .i64 0) ∧ wr.frozen? ⟨w.heap.size + 1 + 1, 0, none⟩ = false ∧ wr.frozen? ⟨w.heap.size + 1 + 1, 1, none⟩ = false
theorem MeetW.step {w : World} {m s n : Nat} {wr w1 : World} (h : MeetW w m s n wr) (hb : Below wr.heap.size wr w1) : MeetW w m s n w1 := by
  obtain ⟨h0, h1, h2, h3, h4, h5, h6, h7, h8⟩ := h
  obtain ⟨hc, hf⟩ := bcell hb
  have hz := hb.size
  refine ⟨below_then h0 hb, by omega, ?_, ?_, ?_, ?_, ?_, ?_, ?_⟩
  · rw [hc _ _ (by omega)]; exact h2
  · rw [hc _ _ (by omega)]; exact h3
  · rw [hc _ _ (by omega)]; exact h4
  · rw [hc _ _ (by omega)]; exact h5
  · rw [hc _ _ (by omega)]; exact h6
  · rw [hf _ _ (by omega)]; exact h7
  · rw [hf _ _ (by omega)]; exact h8

set_option maxRecDepth 100000 in
set_option maxHeartbeats 2000000 in
/-- The CHINESE remainders, where they meet and their product is not too great. -/
theorem cmeet_both (r m s n k0 : Nat) (w : World) (hm : 1 ≤ m) (hn : 1 ≤ n) (hm2 : m ≤ 1048576) (hn2 : n ≤ 1048576) (hr : r < m) (hs : s < n)
    (hd : ((r : Int) - s).tmod (Nat.gcd m n : Nat) = 0) (hM : m / Nat.gcd m n * n ≤ 1048576) (hk0 : k0 < n) (hit : (r + k0 * m) % n = s) :
    Calls Tryd.prog 18 #[.agg #[.int .i64 r, .int .i64 m], .agg #[.int .i64 s, .int .i64 n]] w fun e w' => ∃ k : Nat, k ≤ k0 ∧ (r + k * m) % n = s ∧
      e = .returned (.tuple #[.agg #[.int .i64 ((r + k * m) % (m / Nat.gcd m n * n) : Nat), .int .i64 (m / Nat.gcd m n * n : Nat)], .bool true, .nilIface]) ∧ Below w.heap.size w w' := by
  have hg : 1 ≤ Nat.gcd m n := Nat.gcd_pos_of_pos_left _ (by omega)
  have hg2 : Nat.gcd m n ≤ 1048576 := gcd_le (by omega) (by omega)
  have hgn : (1 : Int) ≤ (Nat.gcd m n : Nat) := by omega
  have hq1 : m / Nat.gcd m n ≤ m := Nat.div_le_self _ _
  have hq2 : (m / Nat.gcd m n : Nat) * n ≤ 1048576 := hM
  have e1 : ((m : Int) == 0) = false := by simp; omega
  have e2 : ((n : Int) == 0) = false := by simp; omega
  have e3 : (((r : Int) - s).tmod (Nat.gcd m n : Nat) != 0) = false := by simp [hd]
  have i0 : ((m / Nat.gcd m n : Nat) : Int) = (m : Int) / (Nat.gcd m n : Nat) := rfl
  have i1 : (0 : Int) ≤ (m : Int) / (Nat.gcd m n : Nat) := Int.ediv_nonneg (by omega) (by omega)
  have i2 : (m : Int) / (Nat.gcd m n : Nat) * n ≤ 1048576 := by rw [← i0]; omega
  have i3 : (0 : Int) ≤ (m : Int) / (Nat.gcd m n : Nat) * n := Int.mul_nonneg i1 (by omega)
  have I0 := Lib.hid i0
  clear i0 hd
  go_enter Tryd.func18, Tryd.ntmps18
  go_wp2_with (first | (go_at_call 66; refine (gcd2_any _ _ m n _ hm2 hn2 ?_ ?_).mono ?_; go_simp; go_simp; rintro e w' ⟨rfl, q, rfl⟩) | go_in)
  have i4 : IntKind.i64.wrap ((m : Int) / (Nat.gcd m n : Nat)) = (m : Int) / (Nat.gcd m n : Nat) := IntWalk.i64_in _ (by omega)
  have i5 : IntKind.i64.wrap ((m : Int) / (Nat.gcd m n : Nat) * n) = (m : Int) / (Nat.gcd m n : Nat) * n := IntWalk.i64_in _ (by omega)
  go_quiet (fail)
  clear i4 i5
  go_wp2_with fail
  go_loopw [10] (fun x wr => ∃ k : Nat, k ≤ k0 ∧ x = .int .i64 (r + k * m : Nat) ∧ MeetW w m s n wr) (fun x _ => r + k0 * m - (intOf x).toNat)
  case atStart =>
    refine ⟨0, Nat.zero_le _, by simp, ?_, ?_, ?_, ?_, ?_, ?_, ?_, ?_, ?_⟩
    · repeat (first | exact Below.refl _ _ | refine below_alloc ?_ _ | refine below_drew ?_ | refine below_drewN ?_ _)
    · simp
    all_goals go_simp
  case round =>
    obtain ⟨k, hk, rfl, hW⟩ := hrel
    have HW := Lib.hid hW
    obtain ⟨h0, h1, h2, h3, h4, h5, h6, h7, h8⟩ := hW
    clear h0
    have hkm : k * m ≤ k0 * m := Nat.mul_le_mul_right _ hk
    have hk0m : k0 * m ≤ 1048576 * 1048576 := Nat.mul_le_mul (by omega) hm2
    have hx : ((r + k * m : Nat) : Int) = (r : Int) + (k : Int) * (m : Int) := by simp
    have hx1 : (0 : Int) ≤ (k : Int) * (m : Int) := Int.mul_nonneg (by omega) (by omega)
    have hx2 : (k : Int) * (m : Int) ≤ 1048576 * 1048576 := by omega
    by_cases hh : (r + k * m) % n = s
    · have hv : inC s n ((r : Int) + (k : Int) * (m : Int)) = true := by rw [← hx, inC_nat _ _ _ hn]; simpa using hh
      have HV := Lib.hid hv
      have HX := Lib.hid hx
      have HH := Lib.hid hh
      clear hx hv hh hit
      go_wp2_with (go_at_call 19; refine (chas_val _ _ _ true _ (.inr ⟨by omega, by omega, by omega, by omega⟩) (by omega) (by omega) HV.out).mono ?_; rintro e w1 ⟨rfl, hb1⟩)
      have hW1 := HW.out.step hb1
      have i6 : (1 : Int) ≤ (m : Int) / (Nat.gcd m n : Nat) * n := by
        rw [← I0.out]
        have hp : 1 ≤ m / Nat.gcd m n := Nat.div_pos (Nat.le_of_dvd (by omega) (Nat.gcd_dvd_left m n)) (by omega)
        have := Nat.mul_le_mul hp hn
        omega
      refine (told_pos_any _ _ _ i6 i2 (by omega) (by omega)).mono ?_
      rintro e w2 ⟨rfl, hb2⟩
      have hW2 := hW1.step hb2
      have HW2 := Lib.hid hW2
      obtain ⟨g0, g1, g2, g3, g4, g5, g6, g7, g8⟩ := hW2
      clear hW1 h1 h2 h3 h4 h5 h6 h7 h8 hb1 hb2 g0
      go_wp2
      refine bodyPost_ret (v := .tuple #[.agg #[.int .i64 (((r : Int) + k * m) % ((m : Int) / (Nat.gcd m n : Nat) * n)), .int .i64 ((m : Int) / (Nat.gcd m n : Nat) * n)], .bool true, .nilIface]) (by simp [results, Tryd.results18, go_sem, g5, g6]) rfl ⟨k, hk, HH.out, by simp, ?_⟩
      exact below_set (below_set HW2.out.1 (by simp; omega) _) (by simp; omega) _
    · have hv : inC s n ((r : Int) + (k : Int) * (m : Int)) = false := by rw [← hx, inC_nat _ _ _ hn]; simpa using hh
      have hlt : k < k0 := by
        rcases Nat.lt_or_ge k k0 with h | h
        · exact h
        · exact absurd (by rw [show k = k0 by omega]; exact hit) hh
      have HV := Lib.hid hv
      have HX := Lib.hid hx
      clear hx hv hh
      go_wp2_with (go_at_call 19; refine (chas_val _ _ _ false _ (.inr ⟨by omega, by omega, by omega, by omega⟩) (by omega) (by omega) HV.out).mono ?_; rintro e w1 ⟨rfl, hb1⟩; have hW1 := HW.out.step hb1; have HW1 := Lib.hid hW1; obtain ⟨g0, g1, g2, g3, g4, g5, g6, g7, g8⟩ := hW1; clear h1 h2 h3 h4 h5 h6 h7 h8 hb1 g0)
      have hk1 : (k + 1) * m ≤ k0 * m := Nat.mul_le_mul_right _ hlt
      rw [Nat.add_mul, Nat.one_mul] at hk1
      refine ⟨⟨k + 1, by omega, congrArg (Value.int .i64) (by rw [Nat.add_mul, Nat.one_mul]; simp; omega), HW1.out⟩, ?_⟩
      simp only [intOf]
      omega
end Go.Proofs.Rcn
