import Derived.Test.YtjpboodkmhikpaaDoorIv7
set_option linter.unusedVariables false
set_option linter.unusedSimpArgs false
namespace Go.Proofs.Rcn
open Go Go.RowKit

theorem near_of_valid {d u : Bool} {l k : Int} (h : ivValid ⟨d, u, l, k⟩ = 0) : NearI l ∧ NearI k := by
  rw [ivValid_iff] at h
  simp only [farB_iff] at h
  exact ⟨⟨by omega, by omega⟩, ⟨by omega, by omega⟩⟩

set_option maxRecDepth 100000 in
set_option maxHeartbeats 1000000 in
theorem iAdd_ok (d u : Bool) (l k : Int) (d' u' : Bool) (l' k' : Int) (w : World) (hv : ivValid ⟨d, u, l, k⟩ = 0) (hv' : ivValid ⟨d', u', l', k'⟩ = 0) :
    Calls Tryd.prog 77 #[.agg #[.bool d, .bool u, .int .i64 l, .int .i64 k], .agg #[.bool d', .bool u', .int .i64 l', .int .i64 k']] w fun e w' =>
      e = .returned (.tuple #[ivV (ivAdd ⟨d, u, l, k⟩ ⟨d', u', l', k'⟩), .nilIface]) ∧ Below w.heap.size w w' := by
  have HV := Lib.hid hv
  have HV' := Lib.hid hv'
  clear hv hv'
  go_enter Tryd.func77, Tryd.ntmps77
  go_wp2_with fail
  refine (itwo_ok d u l k d' u' l' k' _ HV.out HV'.out).mono ?_
  rintro e w1 ⟨rfl, hb1⟩
  obtain ⟨hc1, hf1⟩ := bcell hb1
  have hz1 : w.heap.size + 1 + 1 < w1.heap.size := by have := hb1.size; simp at this; omega
  have hz0 : w.heap.size + 1 < w1.heap.size := by omega
  have hz00 : w.heap.size < w1.heap.size := by omega
  go_wp2_with fail
  refine (iadd_any d u l k d' u' l' k' _ (near_of_valid HV.out).1 (near_of_valid HV.out).2 (near_of_valid HV'.out).1 (near_of_valid HV'.out).2).mono ?_
  rintro e w2 ⟨rfl, hb2⟩
  obtain ⟨hc2, hf2⟩ := bcell hb2
  have hz2 := hb2.size
  have hB := Lib.hid (below_then (below_then (below_alloc (below_alloc (below_alloc (Below.refl _ _) _) _) _) hb1) hb2)
  clear hb1 hb2
  generalize hJ : ivAdd ⟨d, u, l, k⟩ ⟨d', u', l', k'⟩ = J
  have HJ := Lib.hid hJ
  clear hJ
  go_wp2
  refine bodyPost_ret (v := .tuple #[ivV J, .nilIface]) (by simp [results, Tryd.results77, go_sem, hc2, hc1, hz1]) rfl ⟨by rw [HJ.out], ?_⟩
  repeat (first | exact hB.out | refine below_set ?_ (by simp; try omega) _)

set_option maxRecDepth 100000 in
set_option maxHeartbeats 1000000 in
theorem three_any (w : World) : Calls Tryd.prog 25 #[] w fun e w' => e = .returned (.bool true) ∧ Below w.heap.size w w' := by
  have key : ivAdd ⟨false, false, 1, 2⟩ ⟨false, false, 3, 4⟩ = ⟨false, false, 4, 6⟩ := by decide
  go_enter Tryd.func25, Tryd.ntmps25
  go_wp2_with fail
  refine (iAdd_ok false false 1 2 false false 3 4 _ (by decide) (by decide)).mono ?_
  rw [key]
  rintro e w1 ⟨rfl, hb1⟩
  obtain ⟨hc1, hf1⟩ := bcell hb1
  go_wp2
  go_ret
  exact ⟨rfl, by repeat (first | refine below_then ?_ hb1 | exact hb1 | exact Below.refl _ _ | refine below_alloc ?_ _ | refine below_drew ?_ | refine below_drewN ?_ _)⟩
end Go.Proofs.Rcn
