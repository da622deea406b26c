import Derived.Test.YtcalcnfppnbooaaDoorIrEb
import Derived.Test.YtcalcnfppnbooaaDoorIrR0
-- Written by wip/xprint.py (the session's program over the kit's print).
namespace Go.Proofs.YtcalcnfppnbooaaDoor.R
open Go.RowKit Go.Proofs.YtcalcnfppnbooaaDoorW.PrintWords Go.Proofs.YtcalcnfppnbooaaDoorW.PrintLast Go.Proofs.YtcalcnfppnbooaaDoorW.PrintMore Go.Proofs.Rcg
attribute [local go_sem] max2_int min2_int max_two min_two max_three min_three max_four min_four   -- for this text's walks alone
set_option linter.unusedVariables false
set_option linter.unusedSimpArgs false

/-! ### interval_Refine_1: function 98 -/
def interval_Refine_1.f (a0_0 : Bool) (a0_1 : Bool) (a0_2 : Int) (a0_3 : Int) : Option (Bool) := if a0_0 = true then (some false) else (if a0_1 = true then (some false) else (some (a0_2 == a0_3)))
set_option maxHeartbeats 8000000 in
set_option maxRecDepth 100000 in
theorem interval_Refine_1.calls [EA] (a0_0 : Bool) (a0_1 : Bool) (a0_2 : Int) (a0_3 : Int) (r : Bool) (w : World) (h : interval_Refine_1.f a0_0 a0_1 a0_2 a0_3 = some r) :
  Calls Tryd.prog 98 #[.agg #[.bool a0_0, .bool a0_1, .int .i64 a0_2, .int .i64 a0_3]] w fun e w' => e = .returned (.bool r) ∧ Below w.heap.size w w' := by
 have hu49 := Tryd.underlying49
 have HB := am (Below.refl w.heap.size w)
 have H : (if a0_0 = true then (some false) else (if a0_1 = true then (some false) else (some (a0_2 == a0_3)))) = some r := h
 clear h
 by_cases c2 : a0_0 = true
 ·subst c2
  have H1 : (some false) = some r := by rw [if_pos rfl] at H; exact H
  clear H
  have H := H1
  clear H1
  obtain rfl := Option.some.inj H
  go_enter Tryd.func98, Tryd.ntmps98
  go_wp2_with (first | ((with_reducible refine gate_dst (N := 1) rfl ?_); refine box_event ?hg (N := 1) ?hd (cs := #[.bool true, .bool a0_1, .int .i64 a0_2, .int .i64 a0_3]) (t := 49) ?hr ?_; (case hd => rfl); (case hg => rfl); (case hr => first | (go_simp; done) | (go_simp; rfl)); intro gb136 hg w3 hbox hb; have n0_ := am (below_step pw hb); have n1_ := am (hbox); have n2_ := am ((by rw [hg]; exact (below_size pw) : w.heap.size ≤ gb136)); have n3_ := am ((by rw [hg]; exact (below_size pw) : w.heap.size ≤ gb136)); clear HB; have HB := n0_; have BK136 := n1_; have GW136 := n2_; have GE136 := n3_; clear n0_ n1_ n2_ n3_; clear hb hbox hg; have hcz4_0 : w3.cell? ⟨gb136, 0, none⟩ = some (.bool true) := bc BK136 0; have hcz4_1 : w3.cell? ⟨gb136, 1, none⟩ = some (.bool a0_1) := bc BK136 1; have hcz4_2 : w3.cell? ⟨gb136, 2, none⟩ = some (.int .i64 a0_2) := bc BK136 2; have hcz4_3 : w3.cell? ⟨gb136, 3, none⟩ = some (.int .i64 a0_3) := bc BK136 3; have hfz4_0 := blk_frozen BK136.out 0; have hfz4_1 := blk_frozen BK136.out 1; have hfz4_2 := blk_frozen BK136.out 2; have hfz4_3 := blk_frozen BK136.out 3))
  go_ret
  exact ⟨pe, pw⟩
 replace c2 := Bool.eq_false_iff.mpr c2
 subst c2
 have H1 : (if a0_1 = true then (some false) else (some (a0_2 == a0_3))) = some r := by rw [if_neg (show ¬ (false = true) by decide)] at H; exact H
 clear H
 have H := H1
 clear H1
 by_cases c5 : a0_1 = true
 ·subst c5
  have H1 : (some false) = some r := by rw [if_pos rfl] at H; exact H
  clear H
  have H := H1
  clear H1
  obtain rfl := Option.some.inj H
  go_enter Tryd.func98, Tryd.ntmps98
  go_wp2_with (first | ((with_reducible refine gate_dst (N := 1) rfl ?_); refine box_event ?hg (N := 1) ?hd (cs := #[.bool false, .bool true, .int .i64 a0_2, .int .i64 a0_3]) (t := 49) ?hr ?_; (case hd => rfl); (case hg => rfl); (case hr => first | (go_simp; done) | (go_simp; rfl)); intro gb136 hg w6 hbox hb; have n0_ := am (below_step pw hb); have n1_ := am (hbox); have n2_ := am ((by rw [hg]; exact (below_size pw) : w.heap.size ≤ gb136)); have n3_ := am ((by rw [hg]; exact (below_size pw) : w.heap.size ≤ gb136)); clear HB; have HB := n0_; have BK136 := n1_; have GW136 := n2_; have GE136 := n3_; clear n0_ n1_ n2_ n3_; clear hb hbox hg; have hcz7_0 : w6.cell? ⟨gb136, 0, none⟩ = some (.bool false) := bc BK136 0; have hcz7_1 : w6.cell? ⟨gb136, 1, none⟩ = some (.bool true) := bc BK136 1; have hcz7_2 : w6.cell? ⟨gb136, 2, none⟩ = some (.int .i64 a0_2) := bc BK136 2; have hcz7_3 : w6.cell? ⟨gb136, 3, none⟩ = some (.int .i64 a0_3) := bc BK136 3; have hfz7_0 := blk_frozen BK136.out 0; have hfz7_1 := blk_frozen BK136.out 1; have hfz7_2 := blk_frozen BK136.out 2; have hfz7_3 := blk_frozen BK136.out 3))
  go_ret
  exact ⟨pe, pw⟩
 replace c5 := Bool.eq_false_iff.mpr c5
 subst c5
 have H1 : (some (a0_2 == a0_3)) = some r := by rw [if_neg (show ¬ (false = true) by decide)] at H; exact H
 clear H
 have H := H1
 clear H1
 obtain rfl := Option.some.inj H
 go_enter Tryd.func98, Tryd.ntmps98
 go_wp2_with (first | ((with_reducible refine gate_dst (N := 1) rfl ?_); refine box_event ?hg (N := 1) ?hd (cs := #[.bool false, .bool false, .int .i64 a0_2, .int .i64 a0_3]) (t := 49) ?hr ?_; (case hd => rfl); (case hg => rfl); (case hr => first | (go_simp; done) | (go_simp; rfl)); intro gb136 hg w8 hbox hb; have n0_ := am (below_step pw hb); have n1_ := am (hbox); have n2_ := am ((by rw [hg]; exact (below_size pw) : w.heap.size ≤ gb136)); have n3_ := am ((by rw [hg]; exact (below_size pw) : w.heap.size ≤ gb136)); clear HB; have HB := n0_; have BK136 := n1_; have GW136 := n2_; have GE136 := n3_; clear n0_ n1_ n2_ n3_; clear hb hbox hg; have hcz9_0 : w8.cell? ⟨gb136, 0, none⟩ = some (.bool false) := bc BK136 0; have hcz9_1 : w8.cell? ⟨gb136, 1, none⟩ = some (.bool false) := bc BK136 1; have hcz9_2 : w8.cell? ⟨gb136, 2, none⟩ = some (.int .i64 a0_2) := bc BK136 2; have hcz9_3 : w8.cell? ⟨gb136, 3, none⟩ = some (.int .i64 a0_3) := bc BK136 3; have hfz9_0 := blk_frozen BK136.out 0; have hfz9_1 := blk_frozen BK136.out 1; have hfz9_2 := blk_frozen BK136.out 2; have hfz9_3 := blk_frozen BK136.out 3))
 go_ret
 exact ⟨pe, pw⟩

/-! ### interval_without: function 99 -/
mutual
def interval_without.j0 : Nat → Int → Bool → Bool → Bool → Int → Int → Option (Bool × Bool × Int × Int × Bool)
 | 0, _, _, _, _, _, _ => none
 | k + 1, x1, x25, x138000, x138001, x138002, x138003 => if x25 = true then (some (false, false, 0, 0, false)) else (if x138000 = true then (interval_without.j1 k x1 false x138000 x138001 x138002 x138003) else (interval_without.j1 k x1 (x138002 == x1) x138000 x138001 x138002 x138003))
def interval_without.j1 : Nat → Int → Bool → Bool → Bool → Int → Int → Option (Bool × Bool × Int × Int × Bool)
 | 0, _, _, _, _, _, _ => none
 | k + 1, x1, x35, x138000, x138001, x138002, x138003 => if x35 = true then (some (x138000, x138001, wrap64 (x138002 + 1), x138003, true)) else (if x138001 = true then (some (x138000, x138001, x138002, x138003, true)) else (if x138003 = x1 then (some (x138000, x138001, x138002, wrap64 (x138003 - 1), true)) else (some (x138000, x138001, x138002, x138003, true))))
end
def interval_without.f (k : Nat) (a0_0 : Bool) (a0_1 : Bool) (a0_2 : Int) (a0_3 : Int) (a1 : Int) : Option (Bool × Bool × Int × Int × Bool) := if a0_0 = true then (interval_without.j0 k a1 false a0_0 a0_1 a0_2 a0_3) else (if a0_1 = true then (interval_without.j0 k a1 false a0_0 a0_1 a0_2 a0_3) else (if a0_2 = a1 then (interval_without.j0 k a1 (a0_3 == a1) a0_0 a0_1 a0_2 a0_3) else (interval_without.j0 k a1 false a0_0 a0_1 a0_2 a0_3)))
theorem interval_without.mono_l : ∀ k, (∀ y0 y1 y2 y3 y4 y5, LeO (interval_without.j0 k y0 y1 y2 y3 y4 y5) (interval_without.j0 (k + 1) y0 y1 y2 y3 y4 y5)) ∧ (∀ y0 y1 y2 y3 y4 y5, LeO (interval_without.j1 k y0 y1 y2 y3 y4 y5) (interval_without.j1 (k + 1) y0 y1 y2 y3 y4 y5))
 | 0 => ⟨fun _ _ _ _ _ _ r h => by simp [interval_without.j0] at h, fun _ _ _ _ _ _ r h => by simp [interval_without.j1] at h⟩
 | k + 1 => by
  obtain ⟨ih0, ih1⟩ := interval_without.mono_l k
  refine ⟨?_, ?_⟩
  ·intro y0 y1 y2 y3 y4 y5
   unfold interval_without.j0
   repeat' first
   | (with_reducible exact ih0 _ _ _ _ _ _)
   | (with_reducible exact ih1 _ _ _ _ _ _)
   | (with_reducible exact LeO.refl _)
   | (with_reducible exact LeO.none _)
   | (with_reducible refine LeO.ite ?_ ?_)
   | (with_reducible refine LeO.bind ?_ (fun _ => ?_))
   | exact ih0 _ _ _ _ _ _
   | exact ih1 _ _ _ _ _ _
   | exact LeO.none _
   | refine LeO.ite ?_ ?_
   | refine LeO.bind ?_ (fun _ => ?_)
  intro y0 y1 y2 y3 y4 y5
  unfold interval_without.j1
  repeat' first
  | (with_reducible exact ih0 _ _ _ _ _ _)
  | (with_reducible exact ih1 _ _ _ _ _ _)
  | (with_reducible exact LeO.refl _)
  | (with_reducible exact LeO.none _)
  | (with_reducible refine LeO.ite ?_ ?_)
  | (with_reducible refine LeO.bind ?_ (fun _ => ?_))
  | exact ih0 _ _ _ _ _ _
  | exact ih1 _ _ _ _ _ _
  | exact LeO.none _
  | refine LeO.ite ?_ ?_
  | refine LeO.bind ?_ (fun _ => ?_)
theorem interval_without.mono : ∀ a0 a1 a2 a3 a4 k, LeO (interval_without.f k a0 a1 a2 a3 a4) (interval_without.f (k + 1) a0 a1 a2 a3 a4) := by
 intro a0 a1 a2 a3 a4 k
 obtain ⟨ih0, ih1⟩ := interval_without.mono_l k
 unfold interval_without.f
 repeat' first
   | (with_reducible exact ih0 _ _ _ _ _ _)
   | (with_reducible exact ih1 _ _ _ _ _ _)
   | (with_reducible exact LeO.refl _)
   | (with_reducible exact LeO.none _)
   | (with_reducible refine LeO.ite ?_ ?_)
   | (with_reducible refine LeO.bind ?_ (fun _ => ?_))
   | exact ih0 _ _ _ _ _ _
   | exact ih1 _ _ _ _ _ _
   | exact LeO.none _
   | refine LeO.ite ?_ ?_
   | refine LeO.bind ?_ (fun _ => ?_)
set_option maxHeartbeats 8000000 in
set_option maxRecDepth 100000 in
theorem interval_without.calls [EA] (k : Nat) (a0_0 : Bool) (a0_1 : Bool) (a0_2 : Int) (a0_3 : Int) (a1 : Int) (r1 : Bool) (r2 : Bool) (r3 : Int) (r4 : Int) (r5 : Bool) (w : World) (h : interval_without.f k a0_0 a0_1 a0_2 a0_3 a1 = some (r1, r2, r3, r4, r5)) :
  Calls Tryd.prog 99 #[.agg #[.bool a0_0, .bool a0_1, .int .i64 a0_2, .int .i64 a0_3], .int .i64 a1] w fun e w' => e = .returned (.tuple #[.agg #[.bool r1, .bool r2, .int .i64 r3, .int .i64 r4], .bool r5]) ∧ Below w.heap.size w w' := by
 have hu49 := Tryd.underlying49
 have HB := am (Below.refl w.heap.size w)
 have H : (if a0_0 = true then (interval_without.j0 k a1 false a0_0 a0_1 a0_2 a0_3) else (if a0_1 = true then (interval_without.j0 k a1 false a0_0 a0_1 a0_2 a0_3) else (if a0_2 = a1 then (interval_without.j0 k a1 (a0_3 == a1) a0_0 a0_1 a0_2 a0_3) else (interval_without.j0 k a1 false a0_0 a0_1 a0_2 a0_3)))) = some (r1, r2, r3, r4, r5) := h
 clear h
 have HC3 := am H
 clear H
 go_enter Tryd.func99, Tryd.ntmps99
 go_upto_region 1 with (first | ((with_reducible refine gate_dst (N := 2) rfl ?_); refine box_event ?hg (N := 2) ?hd (cs := #[.bool a0_0, .bool a0_1, .int .i64 a0_2, .int .i64 a0_3]) (t := 49) ?hr ?_; (case hd => rfl); (case hg => rfl); (case hr => first | (go_simp; done) | (go_simp; rfl)); intro gb137 hg w4 hbox hb; have n0_ := am (below_step pw hb); have n1_ := am (hbox); have n2_ := am ((by rw [hg]; exact (below_size pw) : w.heap.size ≤ gb137)); have n3_ := am ((by rw [hg]; exact (below_size pw) : w.heap.size ≤ gb137)); clear HB; have HB := n0_; have BK137 := n1_; have GW137 := n2_; have GE137 := n3_; clear n0_ n1_ n2_ n3_; clear hb hbox hg) | ((with_reducible refine gate_dst (N := 4) rfl ?_); refine box_event ?hg (N := 4) ?hd (cs := #[.bool false, .bool false, .int .i64 0, .int .i64 0]) (t := 49) ?hr ?_; (case hd => rfl); (case hg => rfl); (case hr => first | (go_simp; done) | (go_simp; rfl)); intro gb138 hg w5 hbox hb; have n0_ := bb BK137 hb; have n1_ := am (below_step pw hb); have n2_ := am (hbox); have n3_ := am ((by rw [hg]; exact (below_size pw) : w.heap.size ≤ gb138)); have n4_ := am ((by rw [hg]; exact (below_size pw) : w.heap.size ≤ gb138)); have n5_ := am ((by rw [hg]; exact Nat.ne_of_lt (blk_lt pk) : gb137 ≠ gb138)); have n6_ := am ((by rw [hg]; exact Nat.ne_of_gt (blk_lt pk) : gb138 ≠ gb137)); clear BK137; clear HB; have BK137 := n0_; have HB := n1_; have BK138 := n2_; have GW138 := n3_; have GE138 := n4_; have NB137_138 := n5_; have NB138_137 := n6_; clear n0_ n1_ n2_ n3_ n4_ n5_ n6_; clear hb hbox hg))
 (try simp only [Act.put, List.setIfInBounds_toArray, List.set_cons_zero, List.set_cons_succ])
 go_cut [25] (fun v25 wc => ∃ (kq : Nat) (x25_2 : Bool), v25 = .bool x25_2 ∧ Aside0 (interval_without.j0 kq a1 x25_2 a0_0 a0_1 a0_2 a0_3 = some (r1, r2, r3, r4, r5)) ∧ Aside0 (kq ≤ k) ∧ Aside0 (wc.heap[gb137]? = some (.cells #[.bool a0_0, .bool a0_1, .int .i64 a0_2, .int .i64 a0_3] 49 (0, 0))) ∧ Aside0 (wc.heap[gb138]? = some (.cells #[.bool false, .bool false, .int .i64 0, .int .i64 0] 49 (0, 0))) ∧ Aside0 (Below w.heap.size w wc))
 case first =>
  have H := HC3.out
  clear HC3
  by_cases c6 : a0_0 = true
  ·subst c6
   have H1 : (interval_without.j0 k a1 false true a0_1 a0_2 a0_3) = some (r1, r2, r3, r4, r5) := by rw [if_pos rfl] at H; exact H
   clear H
   have H := H1
   clear H1
   have H' := am H
   clear H
   have hnb7 := NB137_138.out
   have hnc7 := NB138_137.out
   have hcz8_0 : w5.cell? ⟨gb137, 0, none⟩ = some (.bool true) := bc BK137 0
   have hcz8_1 : w5.cell? ⟨gb137, 1, none⟩ = some (.bool a0_1) := bc BK137 1
   have hcz8_2 : w5.cell? ⟨gb137, 2, none⟩ = some (.int .i64 a0_2) := bc BK137 2
   have hcz8_3 : w5.cell? ⟨gb137, 3, none⟩ = some (.int .i64 a0_3) := bc BK137 3
   have hfz8_0 := blk_frozen BK137.out 0
   have hfz8_1 := blk_frozen BK137.out 1
   have hfz8_2 := blk_frozen BK137.out 2
   have hfz8_3 := blk_frozen BK137.out 3
   go_wp2
   go_meet
   case rel => exact ⟨_, (false), pr, H', ⟨by first | omega | exact Nat.le_refl _⟩, ⟨pk⟩, ⟨pk⟩, ⟨pw⟩⟩
  replace c6 := Bool.eq_false_iff.mpr c6
  subst c6
  have H1 : (if a0_1 = true then (interval_without.j0 k a1 false false a0_1 a0_2 a0_3) else (if a0_2 = a1 then (interval_without.j0 k a1 (a0_3 == a1) false a0_1 a0_2 a0_3) else (interval_without.j0 k a1 false false a0_1 a0_2 a0_3))) = some (r1, r2, r3, r4, r5) := by rw [if_neg (show ¬ (false = true) by decide)] at H; exact H
  clear H
  have H := H1
  clear H1
  by_cases c9 : a0_1 = true
  ·subst c9
   have H1 : (interval_without.j0 k a1 false false true a0_2 a0_3) = some (r1, r2, r3, r4, r5) := by rw [if_pos rfl] at H; exact H
   clear H
   have H := H1
   clear H1
   have H' := am H
   clear H
   have hnb10 := NB137_138.out
   have hnc10 := NB138_137.out
   have hcz11_0 : w5.cell? ⟨gb137, 0, none⟩ = some (.bool false) := bc BK137 0
   have hcz11_1 : w5.cell? ⟨gb137, 1, none⟩ = some (.bool true) := bc BK137 1
   have hcz11_2 : w5.cell? ⟨gb137, 2, none⟩ = some (.int .i64 a0_2) := bc BK137 2
   have hcz11_3 : w5.cell? ⟨gb137, 3, none⟩ = some (.int .i64 a0_3) := bc BK137 3
   have hfz11_0 := blk_frozen BK137.out 0
   have hfz11_1 := blk_frozen BK137.out 1
   have hfz11_2 := blk_frozen BK137.out 2
   have hfz11_3 := blk_frozen BK137.out 3
   go_wp2
   go_meet
   case rel => exact ⟨_, (false), pr, H', ⟨by first | omega | exact Nat.le_refl _⟩, ⟨pk⟩, ⟨pk⟩, ⟨pw⟩⟩
  replace c9 := Bool.eq_false_iff.mpr c9
  subst c9
  have H1 : (if a0_2 = a1 then (interval_without.j0 k a1 (a0_3 == a1) false false a0_2 a0_3) else (interval_without.j0 k a1 false false false a0_2 a0_3)) = some (r1, r2, r3, r4, r5) := by rw [if_neg (show ¬ (false = true) by decide)] at H; exact H
  clear H
  have H := H1
  clear H1
  by_cases c12 : a0_2 = a1
  ·rw [if_pos c12] at H
   have c12b0 : (a0_2 == a1) = true := beq_iff_eq.mpr c12
   have c12b1 : (a0_2 != a1) = false := bne_eq_false_iff_eq.mpr c12
   clear c12
   (first | rw [c12b0] | (simp only [i64_w, i32_w]; rw [c12b0]) | skip)
   have H' := am H
   clear H
   have hnb13 := NB137_138.out
   have hnc13 := NB138_137.out
   have hcz14_0 : w5.cell? ⟨gb137, 0, none⟩ = some (.bool false) := bc BK137 0
   have hcz14_1 : w5.cell? ⟨gb137, 1, none⟩ = some (.bool false) := bc BK137 1
   have hcz14_2 : w5.cell? ⟨gb137, 2, none⟩ = some (.int .i64 a0_2) := bc BK137 2
   have hcz14_3 : w5.cell? ⟨gb137, 3, none⟩ = some (.int .i64 a0_3) := bc BK137 3
   have hfz14_0 := blk_frozen BK137.out 0
   have hfz14_1 := blk_frozen BK137.out 1
   have hfz14_2 := blk_frozen BK137.out 2
   have hfz14_3 := blk_frozen BK137.out 3
   go_wp2
   go_meet
   case rel => exact ⟨_, ((a0_3 == a1)), pr, H', ⟨by first | omega | exact Nat.le_refl _⟩, ⟨pk⟩, ⟨pk⟩, ⟨pw⟩⟩
  rw [if_neg c12] at H
  have c12b0 : (a0_2 == a1) = false := beq_eq_false_iff_ne.mpr c12
  have c12b1 : (a0_2 != a1) = true := bne_iff_ne.mpr c12
  (first | rw [c12b0] | (simp only [i64_w, i32_w]; rw [c12b0]) | skip)
  have H' := am H
  clear H
  have hnb15 := NB137_138.out
  have hnc15 := NB138_137.out
  have hcz16_0 : w5.cell? ⟨gb137, 0, none⟩ = some (.bool false) := bc BK137 0
  have hcz16_1 : w5.cell? ⟨gb137, 1, none⟩ = some (.bool false) := bc BK137 1
  have hcz16_2 : w5.cell? ⟨gb137, 2, none⟩ = some (.int .i64 a0_2) := bc BK137 2
  have hcz16_3 : w5.cell? ⟨gb137, 3, none⟩ = some (.int .i64 a0_3) := bc BK137 3
  have hfz16_0 := blk_frozen BK137.out 0
  have hfz16_1 := blk_frozen BK137.out 1
  have hfz16_2 := blk_frozen BK137.out 2
  have hfz16_3 := blk_frozen BK137.out 3
  go_wp2
  go_meet
  case rel => exact ⟨_, (false), pr, H', ⟨by first | omega | exact Nat.le_refl _⟩, ⟨pk⟩, ⟨pk⟩, ⟨pw⟩⟩
 clear HC3
 try clear c1
 try clear p2
 try clear c6
 try clear c7
 try clear c9
 try clear c10
 try clear c12
 try clear c12b0
 try clear c12b1
 try clear c13
 try clear c15
 try clear hcz11_0
 try clear hcz11_1
 try clear hcz11_2
 try clear hcz11_3
 try clear hcz14_0
 try clear hcz14_1
 try clear hcz14_2
 try clear hcz14_3
 try clear hcz16_0
 try clear hcz16_1
 try clear hcz16_2
 try clear hcz16_3
 try clear hcz8_0
 try clear hcz8_1
 try clear hcz8_2
 try clear hcz8_3
 try clear hfz11_0
 try clear hfz11_1
 try clear hfz11_2
 try clear hfz11_3
 try clear hfz14_0
 try clear hfz14_1
 try clear hfz14_2
 try clear hfz14_3
 try clear hfz16_0
 try clear hfz16_1
 try clear hfz16_2
 try clear hfz16_3
 try clear hfz8_0
 try clear hfz8_1
 try clear hfz8_2
 try clear hfz8_3
 obtain ⟨kq, x25_2, rfl, HA, HJ2, BK137, BK138, HB⟩ := hcut
 cases kq with
 | zero => exact absurd HA.out (by simp [interval_without.j0])
 | succ kj2 =>
  have H := HA.out
  clear HA
  simp only [interval_without.j0] at H
  by_cases c17 : x25_2 = true
  ·subst c17
   have H1 : (some (false, false, 0, 0, false)) = some (r1, r2, r3, r4, r5) := by rw [if_pos rfl] at H; exact H
   clear H
   have H := H1
   clear H1
   simp only [Option.some.injEq, Prod.mk.injEq] at H
   obtain ⟨rfl, rfl, rfl, rfl, rfl⟩ := H
   have hnb18 := NB138_137.out
   have hnc18 := NB137_138.out
   have hcz19_0 : wc.cell? ⟨gb138, 0, none⟩ = some (.bool false) := bc BK138 0
   have hcz19_1 : wc.cell? ⟨gb138, 1, none⟩ = some (.bool false) := bc BK138 1
   have hcz19_2 : wc.cell? ⟨gb138, 2, none⟩ = some (.int .i64 0) := bc BK138 2
   have hcz19_3 : wc.cell? ⟨gb138, 3, none⟩ = some (.int .i64 0) := bc BK138 3
   have hfz19_0 := blk_frozen BK138.out 0
   have hfz19_1 := blk_frozen BK138.out 1
   have hfz19_2 := blk_frozen BK138.out 2
   have hfz19_3 := blk_frozen BK138.out 3
   go_wp2
   refine bodyPost_ret (results_ct rfl _ _ gb138 49 #[.bool false, .bool false, .int .i64 0, .int .i64 0] (0, 0) _ rfl (by (with_reducible repeat (first | refine blk_drewN ?_ _ | refine blk_drew ?_ | refine blk_alloc ?_ _)); refine blk_put (cs := #[.bool false, .bool false, .int .i64 0, .int .i64 0]) ?_ 3 _ rfl; (with_reducible repeat (first | refine blk_drewN ?_ _ | refine blk_drew ?_ | refine blk_alloc ?_ _)); refine blk_put (cs := #[.bool false, .bool false, .int .i64 0, .int .i64 0]) ?_ 2 _ rfl; (with_reducible repeat (first | refine blk_drewN ?_ _ | refine blk_drew ?_ | refine blk_alloc ?_ _)); refine blk_put (cs := #[.bool false, .bool false, .int .i64 0, .int .i64 0]) ?_ 1 _ rfl; (with_reducible repeat (first | refine blk_drewN ?_ _ | refine blk_drew ?_ | refine blk_alloc ?_ _)); refine blk_put (cs := #[.bool false, .bool false, .int .i64 0, .int .i64 0]) ?_ 0 _ rfl; (with_reducible repeat (first | refine blk_drewN ?_ _ | refine blk_drew ?_ | refine blk_alloc ?_ _)); exact BK138.out) Tryd.underlying49 rfl kk) rfl ?_
   exact ⟨pe, pw⟩
  replace c17 := Bool.eq_false_iff.mpr c17
  subst c17
  have H1 : (if a0_0 = true then (interval_without.j1 kj2 a1 false a0_0 a0_1 a0_2 a0_3) else (interval_without.j1 kj2 a1 (a0_2 == a1) a0_0 a0_1 a0_2 a0_3)) = some (r1, r2, r3, r4, r5) := by rw [if_neg (show ¬ (false = true) by decide)] at H; exact H
  clear H
  have H := H1
  clear H1
  have HC20 := am H
  clear H
  go_upto_region 3 with (fail)
  go_cut [35] (fun v35 wc => ∃ (kq : Nat) (x35_19 : Bool), v35 = .bool x35_19 ∧ Aside0 (interval_without.j1 kq a1 x35_19 a0_0 a0_1 a0_2 a0_3 = some (r1, r2, r3, r4, r5)) ∧ Aside0 (kq ≤ kj2) ∧ Aside0 (wc.heap[gb137]? = some (.cells #[.bool a0_0, .bool a0_1, .int .i64 a0_2, .int .i64 a0_3] 49 (0, 0))) ∧ Aside0 (wc.heap[gb138]? = some (.cells #[.bool false, .bool false, .int .i64 0, .int .i64 0] 49 (0, 0))) ∧ Aside0 (Below w.heap.size w wc))
  case first =>
   have H := HC20.out
   clear HC20
   by_cases c21 : a0_0 = true
   ·subst c21
    have H1 : (interval_without.j1 kj2 a1 false true a0_1 a0_2 a0_3) = some (r1, r2, r3, r4, r5) := by rw [if_pos rfl] at H; exact H
    clear H
    have H := H1
    clear H1
    have H' := am H
    clear H
    have hnb22 := NB137_138.out
    have hnc22 := NB138_137.out
    have hcz23_0 : wc.cell? ⟨gb137, 0, none⟩ = some (.bool true) := bc BK137 0
    have hcz23_1 : wc.cell? ⟨gb137, 1, none⟩ = some (.bool a0_1) := bc BK137 1
    have hcz23_2 : wc.cell? ⟨gb137, 2, none⟩ = some (.int .i64 a0_2) := bc BK137 2
    have hcz23_3 : wc.cell? ⟨gb137, 3, none⟩ = some (.int .i64 a0_3) := bc BK137 3
    have hfz23_0 := blk_frozen BK137.out 0
    have hfz23_1 := blk_frozen BK137.out 1
    have hfz23_2 := blk_frozen BK137.out 2
    have hfz23_3 := blk_frozen BK137.out 3
    go_wp2
    go_meet
    case rel => exact ⟨_, (false), pr, H', ⟨by have := HJ2.out; first | omega | exact Nat.le_refl _⟩, ⟨pk⟩, ⟨pk⟩, ⟨pw⟩⟩
   replace c21 := Bool.eq_false_iff.mpr c21
   subst c21
   have H1 : (interval_without.j1 kj2 a1 (a0_2 == a1) false a0_1 a0_2 a0_3) = some (r1, r2, r3, r4, r5) := by rw [if_neg (show ¬ (false = true) by decide)] at H; exact H
   clear H
   have H := H1
   clear H1
   have H' := am H
   clear H
   have hnb24 := NB137_138.out
   have hnc24 := NB138_137.out
   have hcz25_0 : wc.cell? ⟨gb137, 0, none⟩ = some (.bool false) := bc BK137 0
   have hcz25_1 : wc.cell? ⟨gb137, 1, none⟩ = some (.bool a0_1) := bc BK137 1
   have hcz25_2 : wc.cell? ⟨gb137, 2, none⟩ = some (.int .i64 a0_2) := bc BK137 2
   have hcz25_3 : wc.cell? ⟨gb137, 3, none⟩ = some (.int .i64 a0_3) := bc BK137 3
   have hfz25_0 := blk_frozen BK137.out 0
   have hfz25_1 := blk_frozen BK137.out 1
   have hfz25_2 := blk_frozen BK137.out 2
   have hfz25_3 := blk_frozen BK137.out 3
   go_wp2
   go_meet
   case rel => exact ⟨_, ((a0_2 == a1)), pr, H', ⟨by have := HJ2.out; first | omega | exact Nat.le_refl _⟩, ⟨pk⟩, ⟨pk⟩, ⟨pw⟩⟩
  clear HC20
  try clear c1
  try clear c2
  try clear p2
  try clear c6
  try clear c7
  try clear c9
  try clear c10
  try clear c12
  try clear c12b0
  try clear c12b1
  try clear c13
  try clear c15
  try clear c17
  try clear c18
  try clear c21
  try clear c22
  try clear c24
  try clear hcz11_0
  try clear hcz11_1
  try clear hcz11_2
  try clear hcz11_3
  try clear hcz14_0
  try clear hcz14_1
  try clear hcz14_2
  try clear hcz14_3
  try clear hcz16_0
  try clear hcz16_1
  try clear hcz16_2
  try clear hcz16_3
  try clear hcz19_0
  try clear hcz19_1
  try clear hcz19_2
  try clear hcz19_3
  try clear hcz23_0
  try clear hcz23_1
  try clear hcz23_2
  try clear hcz23_3
  try clear hcz25_0
  try clear hcz25_1
  try clear hcz25_2
  try clear hcz25_3
  try clear hcz8_0
  try clear hcz8_1
  try clear hcz8_2
  try clear hcz8_3
  try clear hfz11_0
  try clear hfz11_1
  try clear hfz11_2
  try clear hfz11_3
  try clear hfz14_0
  try clear hfz14_1
  try clear hfz14_2
  try clear hfz14_3
  try clear hfz16_0
  try clear hfz16_1
  try clear hfz16_2
  try clear hfz16_3
  try clear hfz19_0
  try clear hfz19_1
  try clear hfz19_2
  try clear hfz19_3
  try clear hfz23_0
  try clear hfz23_1
  try clear hfz23_2
  try clear hfz23_3
  try clear hfz25_0
  try clear hfz25_1
  try clear hfz25_2
  try clear hfz25_3
  try clear hfz8_0
  try clear hfz8_1
  try clear hfz8_2
  try clear hfz8_3
  try clear p2
  obtain ⟨kq, x35_19, rfl, HA, HJ19, BK137, BK138, HB⟩ := hcut
  cases kq with
  | zero => exact absurd HA.out (by simp [interval_without.j1])
  | succ kj19 =>
   have H := HA.out
   clear HA
   simp only [interval_without.j1] at H
   by_cases c26 : x35_19 = true
   ·subst c26
    have H1 : (some (a0_0, a0_1, wrap64 (a0_2 + 1), a0_3, true)) = some (r1, r2, r3, r4, r5) := by rw [if_pos rfl] at H; exact H
    clear H
    have H := H1
    clear H1
    simp only [Option.some.injEq, Prod.mk.injEq] at H
    obtain ⟨rfl, rfl, rfl, rfl, rfl⟩ := H
    have hnb27 := NB137_138.out
    have hnc27 := NB138_137.out
    have hcz28_0 : wc.cell? ⟨gb137, 0, none⟩ = some (.bool a0_0) := bc BK137 0
    have hcz28_1 : wc.cell? ⟨gb137, 1, none⟩ = some (.bool a0_1) := bc BK137 1
    have hcz28_2 : wc.cell? ⟨gb137, 2, none⟩ = some (.int .i64 a0_2) := bc BK137 2
    have hcz28_3 : wc.cell? ⟨gb137, 3, none⟩ = some (.int .i64 a0_3) := bc BK137 3
    have hfz28_0 := blk_frozen BK137.out 0
    have hfz28_1 := blk_frozen BK137.out 1
    have hfz28_2 := blk_frozen BK137.out 2
    have hfz28_3 := blk_frozen BK137.out 3
    have hcz29_0 : wc.cell? ⟨gb138, 0, none⟩ = some (.bool false) := bc BK138 0
    have hcz29_1 : wc.cell? ⟨gb138, 1, none⟩ = some (.bool false) := bc BK138 1
    have hcz29_2 : wc.cell? ⟨gb138, 2, none⟩ = some (.int .i64 0) := bc BK138 2
    have hcz29_3 : wc.cell? ⟨gb138, 3, none⟩ = some (.int .i64 0) := bc BK138 3
    have hfz29_0 := blk_frozen BK138.out 0
    have hfz29_1 := blk_frozen BK138.out 1
    have hfz29_2 := blk_frozen BK138.out 2
    have hfz29_3 := blk_frozen BK138.out 3
    go_wp2
    refine bodyPost_ret (results_ct rfl _ _ gb138 49 #[.bool a0_0, .bool a0_1, .int .i64 (wrap64 (a0_2 + 1)), .int .i64 a0_3] (0, 0) _ rfl (by (with_reducible repeat (first | refine blk_drewN ?_ _ | refine blk_drew ?_ | refine blk_alloc ?_ _)); refine blk_put (cs := #[.bool a0_0, .bool a0_1, .int .i64 (wrap64 (a0_2 + 1)), .int .i64 0]) ?_ 3 _ rfl; (with_reducible repeat (first | refine blk_drewN ?_ _ | refine blk_drew ?_ | refine blk_alloc ?_ _)); refine blk_put (cs := #[.bool a0_0, .bool a0_1, .int .i64 0, .int .i64 0]) ?_ 2 _ rfl; (with_reducible repeat (first | refine blk_drewN ?_ _ | refine blk_drew ?_ | refine blk_alloc ?_ _)); refine blk_put (cs := #[.bool a0_0, .bool false, .int .i64 0, .int .i64 0]) ?_ 1 _ rfl; (with_reducible repeat (first | refine blk_drewN ?_ _ | refine blk_drew ?_ | refine blk_alloc ?_ _)); refine blk_put (cs := #[.bool false, .bool false, .int .i64 0, .int .i64 0]) ?_ 0 _ rfl; (with_reducible repeat (first | refine blk_drewN ?_ _ | refine blk_drew ?_ | refine blk_alloc ?_ _)); refine blk_far ?_ NB138_137.out _; (with_reducible repeat (first | refine blk_drewN ?_ _ | refine blk_drew ?_ | refine blk_alloc ?_ _)); exact BK138.out) Tryd.underlying49 rfl kk) rfl ?_
    exact ⟨pe, pw⟩
   replace c26 := Bool.eq_false_iff.mpr c26
   subst c26
   have H1 : (if a0_1 = true then (some (a0_0, a0_1, a0_2, a0_3, true)) else (if a0_3 = a1 then (some (a0_0, a0_1, a0_2, wrap64 (a0_3 - 1), true)) else (some (a0_0, a0_1, a0_2, a0_3, true)))) = some (r1, r2, r3, r4, r5) := by rw [if_neg (show ¬ (false = true) by decide)] at H; exact H
   clear H
   have H := H1
   clear H1
   by_cases c30 : a0_1 = true
   ·subst c30
    have H1 : (some (a0_0, true, a0_2, a0_3, true)) = some (r1, r2, r3, r4, r5) := by rw [if_pos rfl] at H; exact H
    clear H
    have H := H1
    clear H1
    simp only [Option.some.injEq, Prod.mk.injEq] at H
    obtain ⟨rfl, rfl, rfl, rfl, rfl⟩ := H
    have hnb31 := NB137_138.out
    have hnc31 := NB138_137.out
    have hcz32_0 : wc.cell? ⟨gb137, 0, none⟩ = some (.bool a0_0) := bc BK137 0
    have hcz32_1 : wc.cell? ⟨gb137, 1, none⟩ = some (.bool true) := bc BK137 1
    have hcz32_2 : wc.cell? ⟨gb137, 2, none⟩ = some (.int .i64 a0_2) := bc BK137 2
    have hcz32_3 : wc.cell? ⟨gb137, 3, none⟩ = some (.int .i64 a0_3) := bc BK137 3
    have hfz32_0 := blk_frozen BK137.out 0
    have hfz32_1 := blk_frozen BK137.out 1
    have hfz32_2 := blk_frozen BK137.out 2
    have hfz32_3 := blk_frozen BK137.out 3
    have hcz33_0 : wc.cell? ⟨gb138, 0, none⟩ = some (.bool false) := bc BK138 0
    have hcz33_1 : wc.cell? ⟨gb138, 1, none⟩ = some (.bool false) := bc BK138 1
    have hcz33_2 : wc.cell? ⟨gb138, 2, none⟩ = some (.int .i64 0) := bc BK138 2
    have hcz33_3 : wc.cell? ⟨gb138, 3, none⟩ = some (.int .i64 0) := bc BK138 3
    have hfz33_0 := blk_frozen BK138.out 0
    have hfz33_1 := blk_frozen BK138.out 1
    have hfz33_2 := blk_frozen BK138.out 2
    have hfz33_3 := blk_frozen BK138.out 3
    go_wp2
    refine bodyPost_ret (results_ct rfl _ _ gb138 49 #[.bool a0_0, .bool true, .int .i64 a0_2, .int .i64 a0_3] (0, 0) _ rfl (by (with_reducible repeat (first | refine blk_drewN ?_ _ | refine blk_drew ?_ | refine blk_alloc ?_ _)); refine blk_put (cs := #[.bool a0_0, .bool true, .int .i64 a0_2, .int .i64 0]) ?_ 3 _ rfl; (with_reducible repeat (first | refine blk_drewN ?_ _ | refine blk_drew ?_ | refine blk_alloc ?_ _)); refine blk_put (cs := #[.bool a0_0, .bool true, .int .i64 0, .int .i64 0]) ?_ 2 _ rfl; (with_reducible repeat (first | refine blk_drewN ?_ _ | refine blk_drew ?_ | refine blk_alloc ?_ _)); refine blk_put (cs := #[.bool a0_0, .bool false, .int .i64 0, .int .i64 0]) ?_ 1 _ rfl; (with_reducible repeat (first | refine blk_drewN ?_ _ | refine blk_drew ?_ | refine blk_alloc ?_ _)); refine blk_put (cs := #[.bool false, .bool false, .int .i64 0, .int .i64 0]) ?_ 0 _ rfl; (with_reducible repeat (first | refine blk_drewN ?_ _ | refine blk_drew ?_ | refine blk_alloc ?_ _)); exact BK138.out) Tryd.underlying49 rfl kk) rfl ?_
    exact ⟨pe, pw⟩
   replace c30 := Bool.eq_false_iff.mpr c30
   subst c30
   have H1 : (if a0_3 = a1 then (some (a0_0, false, a0_2, wrap64 (a0_3 - 1), true)) else (some (a0_0, false, a0_2, a0_3, true))) = some (r1, r2, r3, r4, r5) := by rw [if_neg (show ¬ (false = true) by decide)] at H; exact H
   clear H
   have H := H1
   clear H1
   by_cases c34 : a0_3 = a1
   ·rw [if_pos c34] at H
    have c34b0 : (a0_3 == a1) = true := beq_iff_eq.mpr c34
    have c34b1 : (a0_3 != a1) = false := bne_eq_false_iff_eq.mpr c34
    clear c34
    simp only [Option.some.injEq, Prod.mk.injEq] at H
    obtain ⟨rfl, rfl, rfl, rfl, rfl⟩ := H
    have hnb35 := NB137_138.out
    have hnc35 := NB138_137.out
    have hcz36_0 : wc.cell? ⟨gb137, 0, none⟩ = some (.bool a0_0) := bc BK137 0
    have hcz36_1 : wc.cell? ⟨gb137, 1, none⟩ = some (.bool false) := bc BK137 1
    have hcz36_2 : wc.cell? ⟨gb137, 2, none⟩ = some (.int .i64 a0_2) := bc BK137 2
    have hcz36_3 : wc.cell? ⟨gb137, 3, none⟩ = some (.int .i64 a0_3) := bc BK137 3
    have hfz36_0 := blk_frozen BK137.out 0
    have hfz36_1 := blk_frozen BK137.out 1
    have hfz36_2 := blk_frozen BK137.out 2
    have hfz36_3 := blk_frozen BK137.out 3
    have hcz37_0 : wc.cell? ⟨gb138, 0, none⟩ = some (.bool false) := bc BK138 0
    have hcz37_1 : wc.cell? ⟨gb138, 1, none⟩ = some (.bool false) := bc BK138 1
    have hcz37_2 : wc.cell? ⟨gb138, 2, none⟩ = some (.int .i64 0) := bc BK138 2
    have hcz37_3 : wc.cell? ⟨gb138, 3, none⟩ = some (.int .i64 0) := bc BK138 3
    have hfz37_0 := blk_frozen BK138.out 0
    have hfz37_1 := blk_frozen BK138.out 1
    have hfz37_2 := blk_frozen BK138.out 2
    have hfz37_3 := blk_frozen BK138.out 3
    go_wp2
    refine bodyPost_ret (results_ct rfl _ _ gb138 49 #[.bool a0_0, .bool false, .int .i64 a0_2, .int .i64 (wrap64 (a0_3 - 1))] (0, 0) _ rfl (by (with_reducible repeat (first | refine blk_drewN ?_ _ | refine blk_drew ?_ | refine blk_alloc ?_ _)); refine blk_put (cs := #[.bool a0_0, .bool false, .int .i64 a0_2, .int .i64 0]) ?_ 3 _ rfl; (with_reducible repeat (first | refine blk_drewN ?_ _ | refine blk_drew ?_ | refine blk_alloc ?_ _)); refine blk_put (cs := #[.bool a0_0, .bool false, .int .i64 0, .int .i64 0]) ?_ 2 _ rfl; (with_reducible repeat (first | refine blk_drewN ?_ _ | refine blk_drew ?_ | refine blk_alloc ?_ _)); refine blk_put (cs := #[.bool a0_0, .bool false, .int .i64 0, .int .i64 0]) ?_ 1 _ rfl; (with_reducible repeat (first | refine blk_drewN ?_ _ | refine blk_drew ?_ | refine blk_alloc ?_ _)); refine blk_put (cs := #[.bool false, .bool false, .int .i64 0, .int .i64 0]) ?_ 0 _ rfl; (with_reducible repeat (first | refine blk_drewN ?_ _ | refine blk_drew ?_ | refine blk_alloc ?_ _)); refine blk_far ?_ NB138_137.out _; (with_reducible repeat (first | refine blk_drewN ?_ _ | refine blk_drew ?_ | refine blk_alloc ?_ _)); exact BK138.out) Tryd.underlying49 rfl kk) rfl ?_
    exact ⟨pe, pw⟩
   rw [if_neg c34] at H
   have c34b0 : (a0_3 == a1) = false := beq_eq_false_iff_ne.mpr c34
   have c34b1 : (a0_3 != a1) = true := bne_iff_ne.mpr c34
   simp only [Option.some.injEq, Prod.mk.injEq] at H
   obtain ⟨rfl, rfl, rfl, rfl, rfl⟩ := H
   have hnb38 := NB137_138.out
   have hnc38 := NB138_137.out
   have hcz39_0 : wc.cell? ⟨gb137, 0, none⟩ = some (.bool a0_0) := bc BK137 0
   have hcz39_1 : wc.cell? ⟨gb137, 1, none⟩ = some (.bool false) := bc BK137 1
   have hcz39_2 : wc.cell? ⟨gb137, 2, none⟩ = some (.int .i64 a0_2) := bc BK137 2
   have hcz39_3 : wc.cell? ⟨gb137, 3, none⟩ = some (.int .i64 a0_3) := bc BK137 3
   have hfz39_0 := blk_frozen BK137.out 0
   have hfz39_1 := blk_frozen BK137.out 1
   have hfz39_2 := blk_frozen BK137.out 2
   have hfz39_3 := blk_frozen BK137.out 3
   have hcz40_0 : wc.cell? ⟨gb138, 0, none⟩ = some (.bool false) := bc BK138 0
   have hcz40_1 : wc.cell? ⟨gb138, 1, none⟩ = some (.bool false) := bc BK138 1
   have hcz40_2 : wc.cell? ⟨gb138, 2, none⟩ = some (.int .i64 0) := bc BK138 2
   have hcz40_3 : wc.cell? ⟨gb138, 3, none⟩ = some (.int .i64 0) := bc BK138 3
   have hfz40_0 := blk_frozen BK138.out 0
   have hfz40_1 := blk_frozen BK138.out 1
   have hfz40_2 := blk_frozen BK138.out 2
   have hfz40_3 := blk_frozen BK138.out 3
   go_wp2
   refine bodyPost_ret (results_ct rfl _ _ gb138 49 #[.bool a0_0, .bool false, .int .i64 a0_2, .int .i64 a0_3] (0, 0) _ rfl (by (with_reducible repeat (first | refine blk_drewN ?_ _ | refine blk_drew ?_ | refine blk_alloc ?_ _)); refine blk_put (cs := #[.bool a0_0, .bool false, .int .i64 a0_2, .int .i64 0]) ?_ 3 _ rfl; (with_reducible repeat (first | refine blk_drewN ?_ _ | refine blk_drew ?_ | refine blk_alloc ?_ _)); refine blk_put (cs := #[.bool a0_0, .bool false, .int .i64 0, .int .i64 0]) ?_ 2 _ rfl; (with_reducible repeat (first | refine blk_drewN ?_ _ | refine blk_drew ?_ | refine blk_alloc ?_ _)); refine blk_put (cs := #[.bool a0_0, .bool false, .int .i64 0, .int .i64 0]) ?_ 1 _ rfl; (with_reducible repeat (first | refine blk_drewN ?_ _ | refine blk_drew ?_ | refine blk_alloc ?_ _)); refine blk_put (cs := #[.bool false, .bool false, .int .i64 0, .int .i64 0]) ?_ 0 _ rfl; (with_reducible repeat (first | refine blk_drewN ?_ _ | refine blk_drew ?_ | refine blk_alloc ?_ _)); exact BK138.out) Tryd.underlying49 rfl kk) rfl ?_
   exact ⟨pe, pw⟩

end Go.Proofs.YtcalcnfppnbooaaDoor.R
