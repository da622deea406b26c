import Derived.Test.YtjpboodkmhikpaaDoorIv4
set_option linter.unusedVariables false
set_option linter.unusedSimpArgs false
namespace Go.Proofs.Rcn
open Go Go.RowKit

set_option maxRecDepth 100000 in
set_option maxHeartbeats 1000000 in
theorem ifar_yes (x : Int) (w : World) (h : farB x = true) : Calls Tryd.prog 80 #[.int .i64 x] w fun e w' => e = .returned (.bool true) ∧ w = w' := by
  have h' : 1099511627776 < x ∨ x < -1099511627776 := by simpa [farB] using h
  rcases h' with h1 | h1
  · go_enter Tryd.func80, Tryd.ntmps80
    go_wp2
    go_ret
    exact ⟨rfl, rfl⟩
  · have h3 : decide (1099511627776 < x) = false := by simp; omega
    go_enter Tryd.func80, Tryd.ntmps80
    go_wp2
    go_ret
    exact ⟨rfl, rfl⟩

theorem first_far {xs : List Int} {n : Nat} (h : ¬ ∀ j, j < n → farB (xs.getD j 0) = false) : ∃ m, m < n ∧ farB (xs.getD m 0) = true ∧ ∀ j, j < m → farB (xs.getD j 0) = false := by
  induction n with
  | zero => exact absurd (fun j hj => absurd hj (by omega)) h
  | succ n ih =>
    by_cases hn : ∀ j, j < n → farB (xs.getD j 0) = false
    · refine ⟨n, by omega, ?_, hn⟩
      cases hx : farB (xs.getD n 0) with
      | true => rfl
      | false =>
        refine absurd (fun j hj => ?_) h
        by_cases e : j = n
        · subst e; exact hx
        · exact hn j (by omega)
    · obtain ⟨m, h1, h2⟩ := ih hn
      exact ⟨m, by omega, h2⟩

set_option maxRecDepth 100000 in
set_option maxHeartbeats 4000000 in
theorem iWiden_bad (d u : Bool) (l k : Int) (d' u' : Bool) (l' k' : Int) (A : Option Addr) (n c : Nat) (xs : List Int) (bB sB : Addr) (w : World) (he : Errs w bB sB) (hv : ivValid ⟨d, u, l, k⟩ = 0) (hv' : ivValid ⟨d', u', l', k'⟩ = 0)
    (hx : RInts w A n xs) (hn : n ≤ 20) (hf : ¬ ∀ j, j < n → farB (xs.getD j 0) = false) :
    Calls Tryd.prog 27 #[.agg #[.bool d, .bool u, .int .i64 l, .int .i64 k], .agg #[.bool d', .bool u', .int .i64 l', .int .i64 k'], .slice A n c] w fun e w' =>
      (∃ p, e = .returned (.tuple #[ivV zeroIv, .iface 167 (.pointer (some p))])) ∧ Below w.heap.size w w' := by
  obtain ⟨m, hm, hfm, hfj⟩ := first_far hf
  have HV := Lib.hid hv
  have HV' := Lib.hid hv'
  have HX := Lib.hid hx
  have HF := Lib.hid hfj
  have HM := Lib.hid hfm
  have HE := Lib.hid he
  clear hv hv' hx hf hfj hfm he
  go_enter Tryd.func27, Tryd.ntmps27
  go_wp2_with fail
  refine (itwo_ok d u l k d' u' l' k' _ HV.out HV'.out).mono ?_
  rintro e w1 ⟨rfl, hb1⟩
  obtain ⟨hc1, hf1⟩ := bcell hb1
  have hz1 : w.heap.size + 1 + 1 < w1.heap.size := by have := hb1.size; simp at this; omega
  have hz0 : w.heap.size + 1 < w1.heap.size := by omega
  have hz00 : w.heap.size < w1.heap.size := by omega
  have hB1 := below_then (below_alloc (below_alloc (below_alloc (Below.refl _ _) _) _) _) hb1
  have HX1 := Lib.hid (HX.out.below hB1)
  have HE1 := Lib.hid (HE.out.below hB1)
  have HB1 := Lib.hid hB1
  clear hb1 hB1
  go_wp2_with fail
  go_loop [30] (fun i => ∃ j : Nat, j ≤ m ∧ i = .int .i64 j) (fun i => n - (intOf i).toNat)
  case atStart => exact ⟨0, Nat.zero_le _, rfl⟩
  case round =>
    obtain ⟨j, hj, rfl⟩ := hrel
    obtain ⟨g, o, rfl, hx⟩ := HX1.out.2 (by omega)
    have hxj := hx j (by omega)
    clear hx
    by_cases hlt : j < m
    · have hfj := HF.out j hlt
      go_wp2_with (go_at_call 80; refine (ifar_no _ _ hfj).mono ?_; rintro e w' ⟨rfl, rfl⟩)
      exact ⟨⟨j + 1, by omega, by go_num⟩, by simp [intOf]; omega⟩
    · obtain rfl : j = m := by omega
      have he1 := HE1.out.bound
      go_wp2_with (go_at_call 80; refine (ifar_yes _ _ HM.out).mono ?_; rintro e w' ⟨rfl, rfl⟩)
      have r1 : w1.cell? ⟨w.heap.size + 1 + 1, 0, none⟩ = some (.bool false) := by simp [hc1, go_sem]
      have r2 : w1.cell? ⟨w.heap.size + 1 + 1, 1, none⟩ = some (.bool false) := by simp [hc1, go_sem]
      have r3 : w1.cell? ⟨w.heap.size + 1 + 1, 2, none⟩ = some (.int .i64 0) := by simp [hc1, go_sem]
      have r4 : w1.cell? ⟨w.heap.size + 1 + 1, 3, none⟩ = some (.int .i64 0) := by simp [hc1, go_sem]
      have f1 : w1.frozen? ⟨w.heap.size + 1 + 1, 0, none⟩ = false := by simp [hf1, go_sem]
      have f2 : w1.frozen? ⟨w.heap.size + 1 + 1, 1, none⟩ = false := by simp [hf1, go_sem]
      have f3 : w1.frozen? ⟨w.heap.size + 1 + 1, 2, none⟩ = false := by simp [hf1, go_sem]
      have f4 : w1.frozen? ⟨w.heap.size + 1 + 1, 3, none⟩ = false := by simp [hf1, go_sem]
      have hgl := World.block_lt_of_cell? w _ HE.out.bound
      simp only at hgl
      clear hc1 hf1
      go_region
      go_wp2
      refine bodyPost_ret (v := .tuple #[ivV zeroIv, .iface 167 (.pointer (some bB))]) (by simp [results, Tryd.results27, go_sem, zeroIv, r1, r2, r3, r4]) rfl ⟨⟨bB, rfl⟩, ?_⟩
      have hB := HB1.out
      repeat (first | exact hB | refine below_set ?_ (by simp; try omega) _ | refine below_drew ?_ | refine below_drewN ?_ _)
end Go.Proofs.Rcn
