-- Written by wip/xprint.py (the session's program over the kit's print).
import Derived.Test.YtimgfgambeffeaaDoorEb
import Derived.Test.YtimgfgambeffeaaDoorJ0
import Derived.Test.YtimgfgambeffeaaDoorJ1
namespace Go.Proofs.YtimgfgambeffeaaDoor.J
open Go.RowKit Go.Proofs.YtimgfgambeffeaaDoorW.PrintWords Go.Proofs.YtimgfgambeffeaaDoorW.PrintLast Go.Proofs.YtimgfgambeffeaaDoorW.PrintMore Go.Proofs.Rcg
attribute [local go_sem] max2_int min2_int max_two min_two max_three min_three max_four min_four   -- for this text's walks alone
set_option linter.unusedVariables false
set_option linter.unusedSimpArgs false

attribute [local go_sem high] eqA23
/-! ### R2_JoinedOf: function 38 -/
def R2_JoinedOf.j0 : Nat → Bool → Bool → Bool → Int → Int → Bool → Bool → Int → Int → Bool → Bool → Int → Int → Option (Bool × Bool × Int × Int)
 | 0, _, _, _, _, _, _, _, _, _, _, _, _, _ => none
 | k + 1, x20, x137000, x137001, x137002, x137003, x138000, x138001, x138002, x138003, x140000, x140001, x140002, x140003 => if x20 = true then (if x138001 = true then (some (x138000, x138001, x138002, x138003)) else (if x137001 = true then (some (x138000, x140001, x138002, x140003)) else (if x138003 > x137003 then (some (x138000, x138001, x138002, x138003)) else (some (x138000, x140001, x138002, x140003))))) else (if x138001 = true then (some (x140000, x138001, x140002, x138003)) else (if x137001 = true then (some (x140000, x140001, x140002, x140003)) else (if x138003 > x137003 then (some (x140000, x138001, x140002, x138003)) else (some (x140000, x140001, x140002, x140003)))))
def R2_JoinedOf.f (k : Nat) (a0_0 : Bool) (a0_1 : Bool) (a0_2 : Int) (a0_3 : Int) (a1_0 : Bool) (a1_1 : Bool) (a1_2 : Int) (a1_3 : Int) : Option (Bool × Bool × Int × Int) := if a1_0 = true then (R2_JoinedOf.j0 k true a0_0 a0_1 a0_2 a0_3 a1_0 a1_1 a1_2 a1_3 a0_0 a0_1 a0_2 a0_3) else (if a0_0 = true then (R2_JoinedOf.j0 k false a0_0 a0_1 a0_2 a0_3 a1_0 a1_1 a1_2 a1_3 a0_0 a0_1 a0_2 a0_3) else (R2_JoinedOf.j0 k (decide (a1_2 < a0_2)) a0_0 a0_1 a0_2 a0_3 a1_0 a1_1 a1_2 a1_3 a0_0 a0_1 a0_2 a0_3))
theorem R2_JoinedOf.mono_l : ∀ k, (∀ y0 y1 y2 y3 y4 y5 y6 y7 y8 y9 y10 y11 y12, LeO (R2_JoinedOf.j0 k y0 y1 y2 y3 y4 y5 y6 y7 y8 y9 y10 y11 y12) (R2_JoinedOf.j0 (k + 1) y0 y1 y2 y3 y4 y5 y6 y7 y8 y9 y10 y11 y12))
 | 0 => fun _ _ _ _ _ _ _ _ _ _ _ _ _ r h => by simp [R2_JoinedOf.j0] at h
 | k + 1 => by
  have ih0 := R2_JoinedOf.mono_l k
  intro y0 y1 y2 y3 y4 y5 y6 y7 y8 y9 y10 y11 y12
  unfold R2_JoinedOf.j0
  repeat' first
  | (with_reducible exact ih0 _ _ _ _ _ _ _ _ _ _ _ _ _)
  | (with_reducible exact LeO.refl _)
  | (with_reducible exact LeO.none _)
  | (with_reducible refine LeO.ite ?_ ?_)
  | (with_reducible refine LeO.bind ?_ (fun _ => ?_))
  | exact ih0 _ _ _ _ _ _ _ _ _ _ _ _ _
  | exact LeO.none _
  | refine LeO.ite ?_ ?_
  | refine LeO.bind ?_ (fun _ => ?_)
theorem R2_JoinedOf.mono : ∀ a0 a1 a2 a3 a4 a5 a6 a7 k, LeO (R2_JoinedOf.f k a0 a1 a2 a3 a4 a5 a6 a7) (R2_JoinedOf.f (k + 1) a0 a1 a2 a3 a4 a5 a6 a7) := by
 intro a0 a1 a2 a3 a4 a5 a6 a7 k
 have ih0 := R2_JoinedOf.mono_l k
 unfold R2_JoinedOf.f
 repeat' first
   | (with_reducible exact ih0 _ _ _ _ _ _ _ _ _ _ _ _ _)
   | (with_reducible exact LeO.refl _)
   | (with_reducible exact LeO.none _)
   | (with_reducible refine LeO.ite ?_ ?_)
   | (with_reducible refine LeO.bind ?_ (fun _ => ?_))
   | exact ih0 _ _ _ _ _ _ _ _ _ _ _ _ _
   | exact LeO.none _
   | refine LeO.ite ?_ ?_
   | refine LeO.bind ?_ (fun _ => ?_)
set_option maxHeartbeats 8000000 in
set_option maxRecDepth 100000 in
theorem R2_JoinedOf.calls [EA] (k : Nat) (a0_0 : Bool) (a0_1 : Bool) (a0_2 : Int) (a0_3 : Int) (a1_0 : Bool) (a1_1 : Bool) (a1_2 : Int) (a1_3 : Int) (r1 : Bool) (r2 : Bool) (r3 : Int) (r4 : Int) (w : World) (h : R2_JoinedOf.f k a0_0 a0_1 a0_2 a0_3 a1_0 a1_1 a1_2 a1_3 = some (r1, r2, r3, r4)) :
  Calls Tryd.prog 38 #[.agg #[.bool a0_0, .bool a0_1, .int .i64 a0_2, .int .i64 a0_3], .agg #[.bool a1_0, .bool a1_1, .int .i64 a1_2, .int .i64 a1_3]] w fun e w' => e = .returned (.agg #[.bool r1, .bool r2, .int .i64 r3, .int .i64 r4]) ∧ Below w.heap.size w w' := by
 have hu23 := Tryd.underlying23
 have HB := am (Below.refl w.heap.size w)
 have H : (if a1_0 = true then (R2_JoinedOf.j0 k true a0_0 a0_1 a0_2 a0_3 a1_0 a1_1 a1_2 a1_3 a0_0 a0_1 a0_2 a0_3) else (if a0_0 = true then (R2_JoinedOf.j0 k false a0_0 a0_1 a0_2 a0_3 a1_0 a1_1 a1_2 a1_3 a0_0 a0_1 a0_2 a0_3) else (R2_JoinedOf.j0 k (decide (a1_2 < a0_2)) a0_0 a0_1 a0_2 a0_3 a1_0 a1_1 a1_2 a1_3 a0_0 a0_1 a0_2 a0_3))) = some (r1, r2, r3, r4) := h
 clear h
 have HC3 := am H
 clear H
 go_enter Tryd.func38, Tryd.ntmps38
 go_upto_region 2 with (first | ((with_reducible refine gate_dst (N := 2) rfl ?_); refine box_event ?hg (N := 2) ?hd (cs := #[.bool a0_0, .bool a0_1, .int .i64 a0_2, .int .i64 a0_3]) (t := 23) ?hr ?_; (case hd => rfl); (case hg => rfl); (case hr => first | (go_simp; done) | (go_simp; rfl)); intro gb136 hg w4 hbox hb; have n0_ := am (below_step pw hb); have n1_ := am (hbox); have n2_ := am ((by rw [hg]; exact (below_size pw) : w.heap.size ≤ gb136)); have n3_ := am ((by rw [hg]; exact (below_size pw) : w.heap.size ≤ gb136)); clear HB; have HB := n0_; have BK136 := n1_; have GW136 := n2_; have GE136 := n3_; clear n0_ n1_ n2_ n3_; clear hb hbox hg) | ((with_reducible refine gate_dst (N := 3) rfl ?_); refine box_event ?hg (N := 3) ?hd (cs := #[.bool a1_0, .bool a1_1, .int .i64 a1_2, .int .i64 a1_3]) (t := 23) ?hr ?_; (case hd => rfl); (case hg => rfl); (case hr => first | (go_simp; done) | (go_simp; rfl)); intro gb137 hg w5 hbox hb; have n0_ := bb BK136 hb; have n1_ := am (below_step pw hb); have n2_ := am (hbox); have n3_ := am ((by rw [hg]; exact (below_size pw) : w.heap.size ≤ gb137)); have n4_ := am ((by rw [hg]; exact (below_size pw) : w.heap.size ≤ gb137)); have n5_ := am ((by rw [hg]; exact Nat.ne_of_lt (blk_lt pk) : gb136 ≠ gb137)); have n6_ := am ((by rw [hg]; exact Nat.ne_of_gt (blk_lt pk) : gb137 ≠ gb136)); clear BK136; clear HB; have BK136 := n0_; have HB := n1_; have BK137 := n2_; have GW137 := n3_; have GE137 := n4_; have NB136_137 := n5_; have NB137_136 := n6_; clear n0_ n1_ n2_ n3_ n4_ n5_ n6_; clear hb hbox hg) | ((with_reducible refine gate_dst (N := 4) rfl ?_); refine box_event ?hg (N := 4) ?hd (cs := #[.bool false, .bool false, .int .i64 0, .int .i64 0]) (t := 23) ?hr ?_; (case hd => rfl); (case hg => rfl); (case hr => first | (go_simp; done) | (go_simp; rfl)); intro gb138 hg w6 hbox hb; have n0_ := bb BK136 hb; have n1_ := bb BK137 hb; have n2_ := am (below_step pw hb); have n3_ := am (hbox); have n4_ := am ((by rw [hg]; exact (below_size pw) : w.heap.size ≤ gb138)); have n5_ := am ((by rw [hg]; exact (below_size pw) : w.heap.size ≤ gb138)); have n6_ := am ((by rw [hg]; exact Nat.ne_of_lt (blk_lt pk) : gb136 ≠ gb138)); have n7_ := am ((by rw [hg]; exact Nat.ne_of_gt (blk_lt pk) : gb138 ≠ gb136)); have n8_ := am ((by rw [hg]; exact Nat.ne_of_lt (blk_lt pk) : gb137 ≠ gb138)); have n9_ := am ((by rw [hg]; exact Nat.ne_of_gt (blk_lt pk) : gb138 ≠ gb137)); clear BK136; clear BK137; clear HB; have BK136 := n0_; have BK137 := n1_; have HB := n2_; have BK138 := n3_; have GW138 := n4_; have GE138 := n5_; have NB136_138 := n6_; have NB138_136 := n7_; have NB137_138 := n8_; have NB138_137 := n9_; clear n0_ n1_ n2_ n3_ n4_ n5_ n6_ n7_ n8_ n9_; clear hb hbox hg; have hnb7 := NB136_137.out; have hnc7 := NB137_136.out; have hnb8 := NB136_138.out; have hnc8 := NB138_136.out; have hcz9_0 : w6.cell? ⟨gb136, 0, none⟩ = some (.bool a0_0) := bc BK136 0; have hcz9_1 : w6.cell? ⟨gb136, 1, none⟩ = some (.bool a0_1) := bc BK136 1; have hcz9_2 : w6.cell? ⟨gb136, 2, none⟩ = some (.int .i64 a0_2) := bc BK136 2; have hcz9_3 : w6.cell? ⟨gb136, 3, none⟩ = some (.int .i64 a0_3) := bc BK136 3; have hfz9_0 := blk_frozen BK136.out 0; have hfz9_1 := blk_frozen BK136.out 1; have hfz9_2 := blk_frozen BK136.out 2; have hfz9_3 := blk_frozen BK136.out 3) | ((with_reducible refine gate_dst (N := 5) rfl ?_); refine box_event ?hg (N := 5) ?hd (cs := #[.bool false, .bool false, .int .i64 0, .int .i64 0]) (t := 23) ?hr ?_; (case hd => rfl); (case hg => rfl); (case hr => first | (go_simp; done) | (go_simp; rfl)); intro gb139 hg w10 hbox hb; have n0_ := bb BK136 hb; have n1_ := bb BK137 hb; have n2_ := bb BK138 hb; have n3_ := am (below_step pw hb); have n4_ := am (hbox); have n5_ := am ((by rw [hg]; exact (below_size pw) : w.heap.size ≤ gb139)); have n6_ := am ((by rw [hg]; exact (below_size pw) : w.heap.size ≤ gb139)); have n7_ := am ((by rw [hg]; exact Nat.ne_of_lt (blk_lt pk) : gb136 ≠ gb139)); have n8_ := am ((by rw [hg]; exact Nat.ne_of_gt (blk_lt pk) : gb139 ≠ gb136)); have n9_ := am ((by rw [hg]; exact Nat.ne_of_lt (blk_lt pk) : gb137 ≠ gb139)); have n10_ := am ((by rw [hg]; exact Nat.ne_of_gt (blk_lt pk) : gb139 ≠ gb137)); have n11_ := am ((by rw [hg]; exact Nat.ne_of_lt (blk_lt pk) : gb138 ≠ gb139)); have n12_ := am ((by rw [hg]; exact Nat.ne_of_gt (blk_lt pk) : gb139 ≠ gb138)); clear BK136; clear BK137; clear BK138; clear HB; have BK136 := n0_; have BK137 := n1_; have BK138 := n2_; have HB := n3_; have BK139 := n4_; have GW139 := n5_; have GE139 := n6_; have NB136_139 := n7_; have NB139_136 := n8_; have NB137_139 := n9_; have NB139_137 := n10_; have NB138_139 := n11_; have NB139_138 := n12_; clear n0_ n1_ n2_ n3_ n4_ n5_ n6_ n7_ n8_ n9_ n10_ n11_ n12_; clear hb hbox hg; have hnb11 := NB139_136.out; have hnc11 := NB136_139.out; have hnb12 := NB139_137.out; have hnc12 := NB137_139.out; have hnb13 := NB139_138.out; have hnc13 := NB138_139.out; have hcz14_0 : w10.cell? ⟨gb139, 0, none⟩ = some (.bool false) := bc BK139 0; have hcz14_1 : w10.cell? ⟨gb139, 1, none⟩ = some (.bool false) := bc BK139 1; have hcz14_2 : w10.cell? ⟨gb139, 2, none⟩ = some (.int .i64 0) := bc BK139 2; have hcz14_3 : w10.cell? ⟨gb139, 3, none⟩ = some (.int .i64 0) := bc BK139 3; have hfz14_0 := blk_frozen BK139.out 0; have hfz14_1 := blk_frozen BK139.out 1; have hfz14_2 := blk_frozen BK139.out 2; have hfz14_3 := blk_frozen BK139.out 3))
 (try simp only [Act.put, List.setIfInBounds_toArray, List.set_cons_zero, List.set_cons_succ])
 go_cut [20] (fun v20 wc => ∃ (kq : Nat) (x20_2 : Bool), v20 = .bool x20_2 ∧ Aside0 (R2_JoinedOf.j0 kq x20_2 a0_0 a0_1 a0_2 a0_3 a1_0 a1_1 a1_2 a1_3 a0_0 a0_1 a0_2 a0_3 = some (r1, r2, r3, r4)) ∧ Aside0 (kq ≤ k) ∧ Aside0 (wc.heap[gb136]? = some (.cells #[.bool a0_0, .bool a0_1, .int .i64 a0_2, .int .i64 a0_3] 23 (0, 0))) ∧ Aside0 (wc.heap[gb137]? = some (.cells #[.bool a1_0, .bool a1_1, .int .i64 a1_2, .int .i64 a1_3] 23 (0, 0))) ∧ Aside0 (wc.heap[gb138]? = some (.cells #[.bool false, .bool false, .int .i64 0, .int .i64 0] 23 (0, 0))) ∧ Aside0 (wc.heap[gb139]? = some (.cells #[.bool a0_0, .bool a0_1, .int .i64 a0_2, .int .i64 a0_3] 23 (0, 0))) ∧ Aside0 (Below w.heap.size w wc))
 case first =>
  have H := HC3.out
  clear HC3
  by_cases c15 : a1_0 = true
  ·subst c15
   have H1 : (R2_JoinedOf.j0 k true a0_0 a0_1 a0_2 a0_3 true a1_1 a1_2 a1_3 a0_0 a0_1 a0_2 a0_3) = some (r1, r2, r3, r4) := by rw [if_pos rfl] at H; exact H
   clear H
   have H := H1
   clear H1
   have H' := am H
   clear H
   have hnb16 := NB137_136.out
   have hnc16 := NB136_137.out
   have hnb17 := NB137_138.out
   have hnc17 := NB138_137.out
   have hnb18 := NB137_139.out
   have hnc18 := NB139_137.out
   have hcz19_0 : w10.cell? ⟨gb137, 0, none⟩ = some (.bool true) := bc BK137 0
   have hcz19_1 : w10.cell? ⟨gb137, 1, none⟩ = some (.bool a1_1) := bc BK137 1
   have hcz19_2 : w10.cell? ⟨gb137, 2, none⟩ = some (.int .i64 a1_2) := bc BK137 2
   have hcz19_3 : w10.cell? ⟨gb137, 3, none⟩ = some (.int .i64 a1_3) := bc BK137 3
   have hfz19_0 := blk_frozen BK137.out 0
   have hfz19_1 := blk_frozen BK137.out 1
   have hfz19_2 := blk_frozen BK137.out 2
   have hfz19_3 := blk_frozen BK137.out 3
   go_wp2
   go_meet
   case rel => exact ⟨_, (true), pr, H', ⟨by first | omega | exact Nat.le_refl _⟩, ⟨by (with_reducible repeat (first | refine blk_drewN ?_ _ | refine blk_drew ?_ | refine blk_alloc ?_ _)); refine blk_far ?_ NB136_139.out _; (with_reducible repeat (first | refine blk_drewN ?_ _ | refine blk_drew ?_ | refine blk_alloc ?_ _)); refine blk_far ?_ NB136_139.out _; (with_reducible repeat (first | refine blk_drewN ?_ _ | refine blk_drew ?_ | refine blk_alloc ?_ _)); refine blk_far ?_ NB136_139.out _; (with_reducible repeat (first | refine blk_drewN ?_ _ | refine blk_drew ?_ | refine blk_alloc ?_ _)); refine blk_far ?_ NB136_139.out _; (with_reducible repeat (first | refine blk_drewN ?_ _ | refine blk_drew ?_ | refine blk_alloc ?_ _)); exact BK136.out⟩, ⟨by (with_reducible repeat (first | refine blk_drewN ?_ _ | refine blk_drew ?_ | refine blk_alloc ?_ _)); refine blk_far ?_ NB137_139.out _; (with_reducible repeat (first | refine blk_drewN ?_ _ | refine blk_drew ?_ | refine blk_alloc ?_ _)); refine blk_far ?_ NB137_139.out _; (with_reducible repeat (first | refine blk_drewN ?_ _ | refine blk_drew ?_ | refine blk_alloc ?_ _)); refine blk_far ?_ NB137_139.out _; (with_reducible repeat (first | refine blk_drewN ?_ _ | refine blk_drew ?_ | refine blk_alloc ?_ _)); refine blk_far ?_ NB137_139.out _; (with_reducible repeat (first | refine blk_drewN ?_ _ | refine blk_drew ?_ | refine blk_alloc ?_ _)); exact BK137.out⟩, ⟨by (with_reducible repeat (first | refine blk_drewN ?_ _ | refine blk_drew ?_ | refine blk_alloc ?_ _)); refine blk_far ?_ NB138_139.out _; (with_reducible repeat (first | refine blk_drewN ?_ _ | refine blk_drew ?_ | refine blk_alloc ?_ _)); refine blk_far ?_ NB138_139.out _; (with_reducible repeat (first | refine blk_drewN ?_ _ | refine blk_drew ?_ | refine blk_alloc ?_ _)); refine blk_far ?_ NB138_139.out _; (with_reducible repeat (first | refine blk_drewN ?_ _ | refine blk_drew ?_ | refine blk_alloc ?_ _)); refine blk_far ?_ NB138_139.out _; (with_reducible repeat (first | refine blk_drewN ?_ _ | refine blk_drew ?_ | refine blk_alloc ?_ _)); exact BK138.out⟩, ⟨by (with_reducible repeat (first | refine blk_drewN ?_ _ | refine blk_drew ?_ | refine blk_alloc ?_ _)); refine blk_put (cs := #[.bool a0_0, .bool a0_1, .int .i64 a0_2, .int .i64 0]) ?_ 3 _ rfl; (with_reducible repeat (first | refine blk_drewN ?_ _ | refine blk_drew ?_ | refine blk_alloc ?_ _)); refine blk_put (cs := #[.bool a0_0, .bool a0_1, .int .i64 0, .int .i64 0]) ?_ 2 _ rfl; (with_reducible repeat (first | refine blk_drewN ?_ _ | refine blk_drew ?_ | refine blk_alloc ?_ _)); refine blk_put (cs := #[.bool a0_0, .bool false, .int .i64 0, .int .i64 0]) ?_ 1 _ rfl; (with_reducible repeat (first | refine blk_drewN ?_ _ | refine blk_drew ?_ | refine blk_alloc ?_ _)); refine blk_put (cs := #[.bool false, .bool false, .int .i64 0, .int .i64 0]) ?_ 0 _ rfl; (with_reducible repeat (first | refine blk_drewN ?_ _ | refine blk_drew ?_ | refine blk_alloc ?_ _)); exact BK139.out⟩, ⟨pw⟩⟩
  replace c15 := Bool.eq_false_iff.mpr c15
  subst c15
  have H1 : (if a0_0 = true then (R2_JoinedOf.j0 k false a0_0 a0_1 a0_2 a0_3 false a1_1 a1_2 a1_3 a0_0 a0_1 a0_2 a0_3) else (R2_JoinedOf.j0 k (decide (a1_2 < a0_2)) a0_0 a0_1 a0_2 a0_3 false a1_1 a1_2 a1_3 a0_0 a0_1 a0_2 a0_3)) = some (r1, r2, r3, r4) := by rw [if_neg (show ¬ (false = true) by decide)] at H; exact H
  clear H
  have H := H1
  clear H1
  by_cases c20 : a0_0 = true
  ·subst c20
   have H1 : (R2_JoinedOf.j0 k false true a0_1 a0_2 a0_3 false a1_1 a1_2 a1_3 true a0_1 a0_2 a0_3) = some (r1, r2, r3, r4) := by rw [if_pos rfl] at H; exact H
   clear H
   have H := H1
   clear H1
   have H' := am H
   clear H
   have hnb21 := NB137_136.out
   have hnc21 := NB136_137.out
   have hnb22 := NB137_138.out
   have hnc22 := NB138_137.out
   have hnb23 := NB137_139.out
   have hnc23 := NB139_137.out
   have hcz24_0 : w10.cell? ⟨gb137, 0, none⟩ = some (.bool false) := bc BK137 0
   have hcz24_1 : w10.cell? ⟨gb137, 1, none⟩ = some (.bool a1_1) := bc BK137 1
   have hcz24_2 : w10.cell? ⟨gb137, 2, none⟩ = some (.int .i64 a1_2) := bc BK137 2
   have hcz24_3 : w10.cell? ⟨gb137, 3, none⟩ = some (.int .i64 a1_3) := bc BK137 3
   have hfz24_0 := blk_frozen BK137.out 0
   have hfz24_1 := blk_frozen BK137.out 1
   have hfz24_2 := blk_frozen BK137.out 2
   have hfz24_3 := blk_frozen BK137.out 3
   have hnb25 := NB136_138.out
   have hnc25 := NB138_136.out
   have hnb26 := NB136_139.out
   have hnc26 := NB139_136.out
   have hcz27_0 : w10.cell? ⟨gb136, 0, none⟩ = some (.bool true) := bc BK136 0
   have hcz27_1 : w10.cell? ⟨gb136, 1, none⟩ = some (.bool a0_1) := bc BK136 1
   have hcz27_2 : w10.cell? ⟨gb136, 2, none⟩ = some (.int .i64 a0_2) := bc BK136 2
   have hcz27_3 : w10.cell? ⟨gb136, 3, none⟩ = some (.int .i64 a0_3) := bc BK136 3
   have hfz27_0 := blk_frozen BK136.out 0
   have hfz27_1 := blk_frozen BK136.out 1
   have hfz27_2 := blk_frozen BK136.out 2
   have hfz27_3 := blk_frozen BK136.out 3
   go_wp2
   go_meet
   case rel => exact ⟨_, (false), pr, H', ⟨by first | omega | exact Nat.le_refl _⟩, ⟨by (with_reducible repeat (first | refine blk_drewN ?_ _ | refine blk_drew ?_ | refine blk_alloc ?_ _)); refine blk_far ?_ NB136_139.out _; (with_reducible repeat (first | refine blk_drewN ?_ _ | refine blk_drew ?_ | refine blk_alloc ?_ _)); refine blk_far ?_ NB136_139.out _; (with_reducible repeat (first | refine blk_drewN ?_ _ | refine blk_drew ?_ | refine blk_alloc ?_ _)); refine blk_far ?_ NB136_139.out _; (with_reducible repeat (first | refine blk_drewN ?_ _ | refine blk_drew ?_ | refine blk_alloc ?_ _)); refine blk_far ?_ NB136_139.out _; (with_reducible repeat (first | refine blk_drewN ?_ _ | refine blk_drew ?_ | refine blk_alloc ?_ _)); exact BK136.out⟩, ⟨by (with_reducible repeat (first | refine blk_drewN ?_ _ | refine blk_drew ?_ | refine blk_alloc ?_ _)); refine blk_far ?_ NB137_139.out _; (with_reducible repeat (first | refine blk_drewN ?_ _ | refine blk_drew ?_ | refine blk_alloc ?_ _)); refine blk_far ?_ NB137_139.out _; (with_reducible repeat (first | refine blk_drewN ?_ _ | refine blk_drew ?_ | refine blk_alloc ?_ _)); refine blk_far ?_ NB137_139.out _; (with_reducible repeat (first | refine blk_drewN ?_ _ | refine blk_drew ?_ | refine blk_alloc ?_ _)); refine blk_far ?_ NB137_139.out _; (with_reducible repeat (first | refine blk_drewN ?_ _ | refine blk_drew ?_ | refine blk_alloc ?_ _)); exact BK137.out⟩, ⟨by (with_reducible repeat (first | refine blk_drewN ?_ _ | refine blk_drew ?_ | refine blk_alloc ?_ _)); refine blk_far ?_ NB138_139.out _; (with_reducible repeat (first | refine blk_drewN ?_ _ | refine blk_drew ?_ | refine blk_alloc ?_ _)); refine blk_far ?_ NB138_139.out _; (with_reducible repeat (first | refine blk_drewN ?_ _ | refine blk_drew ?_ | refine blk_alloc ?_ _)); refine blk_far ?_ NB138_139.out _; (with_reducible repeat (first | refine blk_drewN ?_ _ | refine blk_drew ?_ | refine blk_alloc ?_ _)); refine blk_far ?_ NB138_139.out _; (with_reducible repeat (first | refine blk_drewN ?_ _ | refine blk_drew ?_ | refine blk_alloc ?_ _)); exact BK138.out⟩, ⟨by (with_reducible repeat (first | refine blk_drewN ?_ _ | refine blk_drew ?_ | refine blk_alloc ?_ _)); refine blk_put (cs := #[.bool true, .bool a0_1, .int .i64 a0_2, .int .i64 0]) ?_ 3 _ rfl; (with_reducible repeat (first | refine blk_drewN ?_ _ | refine blk_drew ?_ | refine blk_alloc ?_ _)); refine blk_put (cs := #[.bool true, .bool a0_1, .int .i64 0, .int .i64 0]) ?_ 2 _ rfl; (with_reducible repeat (first | refine blk_drewN ?_ _ | refine blk_drew ?_ | refine blk_alloc ?_ _)); refine blk_put (cs := #[.bool true, .bool false, .int .i64 0, .int .i64 0]) ?_ 1 _ rfl; (with_reducible repeat (first | refine blk_drewN ?_ _ | refine blk_drew ?_ | refine blk_alloc ?_ _)); refine blk_put (cs := #[.bool false, .bool false, .int .i64 0, .int .i64 0]) ?_ 0 _ rfl; (with_reducible repeat (first | refine blk_drewN ?_ _ | refine blk_drew ?_ | refine blk_alloc ?_ _)); exact BK139.out⟩, ⟨pw⟩⟩
  replace c20 := Bool.eq_false_iff.mpr c20
  subst c20
  have H1 : (R2_JoinedOf.j0 k (decide (a1_2 < a0_2)) false a0_1 a0_2 a0_3 false a1_1 a1_2 a1_3 false a0_1 a0_2 a0_3) = some (r1, r2, r3, r4) := by rw [if_neg (show ¬ (false = true) by decide)] at H; exact H
  clear H
  have H := H1
  clear H1
  have H' := am H
  clear H
  have hnb28 := NB137_136.out
  have hnc28 := NB136_137.out
  have hnb29 := NB137_138.out
  have hnc29 := NB138_137.out
  have hnb30 := NB137_139.out
  have hnc30 := NB139_137.out
  have hcz31_0 : w10.cell? ⟨gb137, 0, none⟩ = some (.bool false) := bc BK137 0
  have hcz31_1 : w10.cell? ⟨gb137, 1, none⟩ = some (.bool a1_1) := bc BK137 1
  have hcz31_2 : w10.cell? ⟨gb137, 2, none⟩ = some (.int .i64 a1_2) := bc BK137 2
  have hcz31_3 : w10.cell? ⟨gb137, 3, none⟩ = some (.int .i64 a1_3) := bc BK137 3
  have hfz31_0 := blk_frozen BK137.out 0
  have hfz31_1 := blk_frozen BK137.out 1
  have hfz31_2 := blk_frozen BK137.out 2
  have hfz31_3 := blk_frozen BK137.out 3
  have hnb32 := NB136_138.out
  have hnc32 := NB138_136.out
  have hnb33 := NB136_139.out
  have hnc33 := NB139_136.out
  have hcz34_0 : w10.cell? ⟨gb136, 0, none⟩ = some (.bool false) := bc BK136 0
  have hcz34_1 : w10.cell? ⟨gb136, 1, none⟩ = some (.bool a0_1) := bc BK136 1
  have hcz34_2 : w10.cell? ⟨gb136, 2, none⟩ = some (.int .i64 a0_2) := bc BK136 2
  have hcz34_3 : w10.cell? ⟨gb136, 3, none⟩ = some (.int .i64 a0_3) := bc BK136 3
  have hfz34_0 := blk_frozen BK136.out 0
  have hfz34_1 := blk_frozen BK136.out 1
  have hfz34_2 := blk_frozen BK136.out 2
  have hfz34_3 := blk_frozen BK136.out 3
  go_wp2
  go_meet
  case rel => exact ⟨_, (decide (a1_2 < a0_2)), pr, H', ⟨by first | omega | exact Nat.le_refl _⟩, ⟨by (with_reducible repeat (first | refine blk_drewN ?_ _ | refine blk_drew ?_ | refine blk_alloc ?_ _)); refine blk_far ?_ NB136_139.out _; (with_reducible repeat (first | refine blk_drewN ?_ _ | refine blk_drew ?_ | refine blk_alloc ?_ _)); refine blk_far ?_ NB136_139.out _; (with_reducible repeat (first | refine blk_drewN ?_ _ | refine blk_drew ?_ | refine blk_alloc ?_ _)); refine blk_far ?_ NB136_139.out _; (with_reducible repeat (first | refine blk_drewN ?_ _ | refine blk_drew ?_ | refine blk_alloc ?_ _)); refine blk_far ?_ NB136_139.out _; (with_reducible repeat (first | refine blk_drewN ?_ _ | refine blk_drew ?_ | refine blk_alloc ?_ _)); exact BK136.out⟩, ⟨by (with_reducible repeat (first | refine blk_drewN ?_ _ | refine blk_drew ?_ | refine blk_alloc ?_ _)); refine blk_far ?_ NB137_139.out _; (with_reducible repeat (first | refine blk_drewN ?_ _ | refine blk_drew ?_ | refine blk_alloc ?_ _)); refine blk_far ?_ NB137_139.out _; (with_reducible repeat (first | refine blk_drewN ?_ _ | refine blk_drew ?_ | refine blk_alloc ?_ _)); refine blk_far ?_ NB137_139.out _; (with_reducible repeat (first | refine blk_drewN ?_ _ | refine blk_drew ?_ | refine blk_alloc ?_ _)); refine blk_far ?_ NB137_139.out _; (with_reducible repeat (first | refine blk_drewN ?_ _ | refine blk_drew ?_ | refine blk_alloc ?_ _)); exact BK137.out⟩, ⟨by (with_reducible repeat (first | refine blk_drewN ?_ _ | refine blk_drew ?_ | refine blk_alloc ?_ _)); refine blk_far ?_ NB138_139.out _; (with_reducible repeat (first | refine blk_drewN ?_ _ | refine blk_drew ?_ | refine blk_alloc ?_ _)); refine blk_far ?_ NB138_139.out _; (with_reducible repeat (first | refine blk_drewN ?_ _ | refine blk_drew ?_ | refine blk_alloc ?_ _)); refine blk_far ?_ NB138_139.out _; (with_reducible repeat (first | refine blk_drewN ?_ _ | refine blk_drew ?_ | refine blk_alloc ?_ _)); refine blk_far ?_ NB138_139.out _; (with_reducible repeat (first | refine blk_drewN ?_ _ | refine blk_drew ?_ | refine blk_alloc ?_ _)); exact BK138.out⟩, ⟨by (with_reducible repeat (first | refine blk_drewN ?_ _ | refine blk_drew ?_ | refine blk_alloc ?_ _)); refine blk_put (cs := #[.bool false, .bool a0_1, .int .i64 a0_2, .int .i64 0]) ?_ 3 _ rfl; (with_reducible repeat (first | refine blk_drewN ?_ _ | refine blk_drew ?_ | refine blk_alloc ?_ _)); refine blk_put (cs := #[.bool false, .bool a0_1, .int .i64 0, .int .i64 0]) ?_ 2 _ rfl; (with_reducible repeat (first | refine blk_drewN ?_ _ | refine blk_drew ?_ | refine blk_alloc ?_ _)); refine blk_put (cs := #[.bool false, .bool false, .int .i64 0, .int .i64 0]) ?_ 1 _ rfl; (with_reducible repeat (first | refine blk_drewN ?_ _ | refine blk_drew ?_ | refine blk_alloc ?_ _)); refine blk_put (cs := #[.bool false, .bool false, .int .i64 0, .int .i64 0]) ?_ 0 _ rfl; (with_reducible repeat (first | refine blk_drewN ?_ _ | refine blk_drew ?_ | refine blk_alloc ?_ _)); exact BK139.out⟩, ⟨pw⟩⟩
 clear HC3
 try clear c1
 try clear c2
 try clear p2
 try clear c3
 try clear c7
 try clear c8
 try clear c11
 try clear c12
 try clear c13
 try clear c15
 try clear c16
 try clear c17
 try clear c18
 try clear c20
 try clear c21
 try clear c22
 try clear c23
 try clear c25
 try clear c26
 try clear c28
 try clear c29
 try clear c30
 try clear c32
 try clear c33
 try clear hcz14_0
 try clear hcz14_1
 try clear hcz14_2
 try clear hcz14_3
 try clear hcz19_0
 try clear hcz19_1
 try clear hcz19_2
 try clear hcz19_3
 try clear hcz24_0
 try clear hcz24_1
 try clear hcz24_2
 try clear hcz24_3
 try clear hcz27_0
 try clear hcz27_1
 try clear hcz27_2
 try clear hcz27_3
 try clear hcz31_0
 try clear hcz31_1
 try clear hcz31_2
 try clear hcz31_3
 try clear hcz34_0
 try clear hcz34_1
 try clear hcz34_2
 try clear hcz34_3
 try clear hcz9_0
 try clear hcz9_1
 try clear hcz9_2
 try clear hcz9_3
 try clear hfz14_0
 try clear hfz14_1
 try clear hfz14_2
 try clear hfz14_3
 try clear hfz19_0
 try clear hfz19_1
 try clear hfz19_2
 try clear hfz19_3
 try clear hfz24_0
 try clear hfz24_1
 try clear hfz24_2
 try clear hfz24_3
 try clear hfz27_0
 try clear hfz27_1
 try clear hfz27_2
 try clear hfz27_3
 try clear hfz31_0
 try clear hfz31_1
 try clear hfz31_2
 try clear hfz31_3
 try clear hfz34_0
 try clear hfz34_1
 try clear hfz34_2
 try clear hfz34_3
 try clear hfz9_0
 try clear hfz9_1
 try clear hfz9_2
 try clear hfz9_3
 obtain ⟨kq, x20_2, rfl, HA, HJ2, BK136, BK137, BK138, BK139, HB⟩ := hcut
 cases kq with
 | zero => exact absurd HA.out (by simp [R2_JoinedOf.j0])
 | succ kj2 =>
  have H := HA.out
  clear HA
  simp only [R2_JoinedOf.j0] at H
  by_cases c35 : x20_2 = true
  ·subst c35
   have H1 : (if a1_1 = true then (some (a1_0, a1_1, a1_2, a1_3)) else (if a0_1 = true then (some (a1_0, a0_1, a1_2, a0_3)) else (if a1_3 > a0_3 then (some (a1_0, a1_1, a1_2, a1_3)) else (some (a1_0, a0_1, a1_2, a0_3))))) = some (r1, r2, r3, r4) := by rw [if_pos rfl] at H; exact H
   clear H
   have H := H1
   clear H1
   by_cases c36 : a1_1 = true
   ·subst c36
    have H1 : (some (a1_0, true, a1_2, a1_3)) = some (r1, r2, r3, r4) := by rw [if_pos rfl] at H; exact H
    clear H
    have H := H1
    clear H1
    simp only [Option.some.injEq, Prod.mk.injEq] at H
    obtain ⟨rfl, rfl, rfl, rfl⟩ := H
    have hnb37 := NB137_136.out
    have hnc37 := NB136_137.out
    have hnb38 := NB137_138.out
    have hnc38 := NB138_137.out
    have hnb39 := NB137_139.out
    have hnc39 := NB139_137.out
    have hcz40_0 : wc.cell? ⟨gb137, 0, none⟩ = some (.bool a1_0) := bc BK137 0
    have hcz40_1 : wc.cell? ⟨gb137, 1, none⟩ = some (.bool true) := bc BK137 1
    have hcz40_2 : wc.cell? ⟨gb137, 2, none⟩ = some (.int .i64 a1_2) := bc BK137 2
    have hcz40_3 : wc.cell? ⟨gb137, 3, none⟩ = some (.int .i64 a1_3) := bc BK137 3
    have hfz40_0 := blk_frozen BK137.out 0
    have hfz40_1 := blk_frozen BK137.out 1
    have hfz40_2 := blk_frozen BK137.out 2
    have hfz40_3 := blk_frozen BK137.out 3
    have hnb41 := NB139_136.out
    have hnc41 := NB136_139.out
    have hnb42 := NB139_138.out
    have hnc42 := NB138_139.out
    have hcz43_0 : wc.cell? ⟨gb139, 0, none⟩ = some (.bool a0_0) := bc BK139 0
    have hcz43_1 : wc.cell? ⟨gb139, 1, none⟩ = some (.bool a0_1) := bc BK139 1
    have hcz43_2 : wc.cell? ⟨gb139, 2, none⟩ = some (.int .i64 a0_2) := bc BK139 2
    have hcz43_3 : wc.cell? ⟨gb139, 3, none⟩ = some (.int .i64 a0_3) := bc BK139 3
    have hfz43_0 := blk_frozen BK139.out 0
    have hfz43_1 := blk_frozen BK139.out 1
    have hfz43_2 := blk_frozen BK139.out 2
    have hfz43_3 := blk_frozen BK139.out 3
    have hnb44 := NB138_136.out
    have hnc44 := NB136_138.out
    have hcz45_0 : wc.cell? ⟨gb138, 0, none⟩ = some (.bool false) := bc BK138 0
    have hcz45_1 : wc.cell? ⟨gb138, 1, none⟩ = some (.bool false) := bc BK138 1
    have hcz45_2 : wc.cell? ⟨gb138, 2, none⟩ = some (.int .i64 0) := bc BK138 2
    have hcz45_3 : wc.cell? ⟨gb138, 3, none⟩ = some (.int .i64 0) := bc BK138 3
    have hfz45_0 := blk_frozen BK138.out 0
    have hfz45_1 := blk_frozen BK138.out 1
    have hfz45_2 := blk_frozen BK138.out 2
    have hfz45_3 := blk_frozen BK138.out 3
    go_wp2
    refine bodyPost_ret (results_cell_row rfl _ _ gb138 23 #[.bool a1_0, .bool true, .int .i64 a1_2, .int .i64 a1_3] (0, 0) _ rfl (by (with_reducible repeat (first | refine blk_drewN ?_ _ | refine blk_drew ?_ | refine blk_alloc ?_ _)); refine blk_put (cs := #[.bool a1_0, .bool true, .int .i64 a1_2, .int .i64 0]) ?_ 3 _ rfl; (with_reducible repeat (first | refine blk_drewN ?_ _ | refine blk_drew ?_ | refine blk_alloc ?_ _)); refine blk_put (cs := #[.bool a1_0, .bool true, .int .i64 0, .int .i64 0]) ?_ 2 _ rfl; (with_reducible repeat (first | refine blk_drewN ?_ _ | refine blk_drew ?_ | refine blk_alloc ?_ _)); refine blk_put (cs := #[.bool a1_0, .bool false, .int .i64 0, .int .i64 0]) ?_ 1 _ rfl; (with_reducible repeat (first | refine blk_drewN ?_ _ | refine blk_drew ?_ | refine blk_alloc ?_ _)); refine blk_put (cs := #[.bool false, .bool false, .int .i64 0, .int .i64 0]) ?_ 0 _ rfl; (with_reducible repeat (first | refine blk_drewN ?_ _ | refine blk_drew ?_ | refine blk_alloc ?_ _)); refine blk_far ?_ NB138_139.out _; (with_reducible repeat (first | refine blk_drewN ?_ _ | refine blk_drew ?_ | refine blk_alloc ?_ _)); refine blk_far ?_ NB138_139.out _; (with_reducible repeat (first | refine blk_drewN ?_ _ | refine blk_drew ?_ | refine blk_alloc ?_ _)); refine blk_far ?_ NB138_139.out _; (with_reducible repeat (first | refine blk_drewN ?_ _ | refine blk_drew ?_ | refine blk_alloc ?_ _)); refine blk_far ?_ NB138_139.out _; (with_reducible repeat (first | refine blk_drewN ?_ _ | refine blk_drew ?_ | refine blk_alloc ?_ _)); exact BK138.out) Tryd.underlying23 rfl kk) rfl ?_
    exact ⟨pe, pw⟩
   replace c36 := Bool.eq_false_iff.mpr c36
   subst c36
   have H1 : (if a0_1 = true then (some (a1_0, a0_1, a1_2, a0_3)) else (if a1_3 > a0_3 then (some (a1_0, false, a1_2, a1_3)) else (some (a1_0, a0_1, a1_2, a0_3)))) = some (r1, r2, r3, r4) := by rw [if_neg (show ¬ (false = true) by decide)] at H; exact H
   clear H
   have H := H1
   clear H1
   by_cases c46 : a0_1 = true
   ·subst c46
    have H1 : (some (a1_0, true, a1_2, a0_3)) = some (r1, r2, r3, r4) := by rw [if_pos rfl] at H; exact H
    clear H
    have H := H1
    clear H1
    simp only [Option.some.injEq, Prod.mk.injEq] at H
    obtain ⟨rfl, rfl, rfl, rfl⟩ := H
    have hnb47 := NB137_136.out
    have hnc47 := NB136_137.out
    have hnb48 := NB137_138.out
    have hnc48 := NB138_137.out
    have hnb49 := NB137_139.out
    have hnc49 := NB139_137.out
    have hcz50_0 : wc.cell? ⟨gb137, 0, none⟩ = some (.bool a1_0) := bc BK137 0
    have hcz50_1 : wc.cell? ⟨gb137, 1, none⟩ = some (.bool false) := bc BK137 1
    have hcz50_2 : wc.cell? ⟨gb137, 2, none⟩ = some (.int .i64 a1_2) := bc BK137 2
    have hcz50_3 : wc.cell? ⟨gb137, 3, none⟩ = some (.int .i64 a1_3) := bc BK137 3
    have hfz50_0 := blk_frozen BK137.out 0
    have hfz50_1 := blk_frozen BK137.out 1
    have hfz50_2 := blk_frozen BK137.out 2
    have hfz50_3 := blk_frozen BK137.out 3
    have hnb51 := NB139_136.out
    have hnc51 := NB136_139.out
    have hnb52 := NB139_138.out
    have hnc52 := NB138_139.out
    have hcz53_0 : wc.cell? ⟨gb139, 0, none⟩ = some (.bool a0_0) := bc BK139 0
    have hcz53_1 : wc.cell? ⟨gb139, 1, none⟩ = some (.bool true) := bc BK139 1
    have hcz53_2 : wc.cell? ⟨gb139, 2, none⟩ = some (.int .i64 a0_2) := bc BK139 2
    have hcz53_3 : wc.cell? ⟨gb139, 3, none⟩ = some (.int .i64 a0_3) := bc BK139 3
    have hfz53_0 := blk_frozen BK139.out 0
    have hfz53_1 := blk_frozen BK139.out 1
    have hfz53_2 := blk_frozen BK139.out 2
    have hfz53_3 := blk_frozen BK139.out 3
    have hnb54 := NB136_138.out
    have hnc54 := NB138_136.out
    have hcz55_0 : wc.cell? ⟨gb136, 0, none⟩ = some (.bool a0_0) := bc BK136 0
    have hcz55_1 : wc.cell? ⟨gb136, 1, none⟩ = some (.bool true) := bc BK136 1
    have hcz55_2 : wc.cell? ⟨gb136, 2, none⟩ = some (.int .i64 a0_2) := bc BK136 2
    have hcz55_3 : wc.cell? ⟨gb136, 3, none⟩ = some (.int .i64 a0_3) := bc BK136 3
    have hfz55_0 := blk_frozen BK136.out 0
    have hfz55_1 := blk_frozen BK136.out 1
    have hfz55_2 := blk_frozen BK136.out 2
    have hfz55_3 := blk_frozen BK136.out 3
    have hcz56_0 : wc.cell? ⟨gb138, 0, none⟩ = some (.bool false) := bc BK138 0
    have hcz56_1 : wc.cell? ⟨gb138, 1, none⟩ = some (.bool false) := bc BK138 1
    have hcz56_2 : wc.cell? ⟨gb138, 2, none⟩ = some (.int .i64 0) := bc BK138 2
    have hcz56_3 : wc.cell? ⟨gb138, 3, none⟩ = some (.int .i64 0) := bc BK138 3
    have hfz56_0 := blk_frozen BK138.out 0
    have hfz56_1 := blk_frozen BK138.out 1
    have hfz56_2 := blk_frozen BK138.out 2
    have hfz56_3 := blk_frozen BK138.out 3
    go_wp2
    refine bodyPost_ret (results_cell_row rfl _ _ gb138 23 #[.bool a1_0, .bool true, .int .i64 a1_2, .int .i64 a0_3] (0, 0) _ rfl (by (with_reducible repeat (first | refine blk_drewN ?_ _ | refine blk_drew ?_ | refine blk_alloc ?_ _)); refine blk_put (cs := #[.bool a1_0, .bool true, .int .i64 a1_2, .int .i64 0]) ?_ 3 _ rfl; (with_reducible repeat (first | refine blk_drewN ?_ _ | refine blk_drew ?_ | refine blk_alloc ?_ _)); refine blk_put (cs := #[.bool a1_0, .bool true, .int .i64 0, .int .i64 0]) ?_ 2 _ rfl; (with_reducible repeat (first | refine blk_drewN ?_ _ | refine blk_drew ?_ | refine blk_alloc ?_ _)); refine blk_put (cs := #[.bool a1_0, .bool false, .int .i64 0, .int .i64 0]) ?_ 1 _ rfl; (with_reducible repeat (first | refine blk_drewN ?_ _ | refine blk_drew ?_ | refine blk_alloc ?_ _)); refine blk_put (cs := #[.bool false, .bool false, .int .i64 0, .int .i64 0]) ?_ 0 _ rfl; (with_reducible repeat (first | refine blk_drewN ?_ _ | refine blk_drew ?_ | refine blk_alloc ?_ _)); refine blk_far ?_ NB138_139.out _; (with_reducible repeat (first | refine blk_drewN ?_ _ | refine blk_drew ?_ | refine blk_alloc ?_ _)); refine blk_far ?_ NB138_139.out _; (with_reducible repeat (first | refine blk_drewN ?_ _ | refine blk_drew ?_ | refine blk_alloc ?_ _)); exact BK138.out) Tryd.underlying23 rfl kk) rfl ?_
    exact ⟨pe, pw⟩
   replace c46 := Bool.eq_false_iff.mpr c46
   subst c46
   have H1 : (if a1_3 > a0_3 then (some (a1_0, false, a1_2, a1_3)) else (some (a1_0, false, a1_2, a0_3))) = some (r1, r2, r3, r4) := by rw [if_neg (show ¬ (false = true) by decide)] at H; exact H
   clear H
   have H := H1
   clear H1
   by_cases c57 : a1_3 > a0_3
   ·rw [if_pos c57] at H
    have c57b0 : decide (a0_3 < a1_3) = true := decide_eq_true c57
    clear c57
    simp only [Option.some.injEq, Prod.mk.injEq] at H
    obtain ⟨rfl, rfl, rfl, rfl⟩ := H
    have hnb58 := NB137_136.out
    have hnc58 := NB136_137.out
    have hnb59 := NB137_138.out
    have hnc59 := NB138_137.out
    have hnb60 := NB137_139.out
    have hnc60 := NB139_137.out
    have hcz61_0 : wc.cell? ⟨gb137, 0, none⟩ = some (.bool a1_0) := bc BK137 0
    have hcz61_1 : wc.cell? ⟨gb137, 1, none⟩ = some (.bool false) := bc BK137 1
    have hcz61_2 : wc.cell? ⟨gb137, 2, none⟩ = some (.int .i64 a1_2) := bc BK137 2
    have hcz61_3 : wc.cell? ⟨gb137, 3, none⟩ = some (.int .i64 a1_3) := bc BK137 3
    have hfz61_0 := blk_frozen BK137.out 0
    have hfz61_1 := blk_frozen BK137.out 1
    have hfz61_2 := blk_frozen BK137.out 2
    have hfz61_3 := blk_frozen BK137.out 3
    have hnb62 := NB139_136.out
    have hnc62 := NB136_139.out
    have hnb63 := NB139_138.out
    have hnc63 := NB138_139.out
    have hcz64_0 : wc.cell? ⟨gb139, 0, none⟩ = some (.bool a0_0) := bc BK139 0
    have hcz64_1 : wc.cell? ⟨gb139, 1, none⟩ = some (.bool false) := bc BK139 1
    have hcz64_2 : wc.cell? ⟨gb139, 2, none⟩ = some (.int .i64 a0_2) := bc BK139 2
    have hcz64_3 : wc.cell? ⟨gb139, 3, none⟩ = some (.int .i64 a0_3) := bc BK139 3
    have hfz64_0 := blk_frozen BK139.out 0
    have hfz64_1 := blk_frozen BK139.out 1
    have hfz64_2 := blk_frozen BK139.out 2
    have hfz64_3 := blk_frozen BK139.out 3
    have hnb65 := NB136_138.out
    have hnc65 := NB138_136.out
    have hcz66_0 : wc.cell? ⟨gb136, 0, none⟩ = some (.bool a0_0) := bc BK136 0
    have hcz66_1 : wc.cell? ⟨gb136, 1, none⟩ = some (.bool false) := bc BK136 1
    have hcz66_2 : wc.cell? ⟨gb136, 2, none⟩ = some (.int .i64 a0_2) := bc BK136 2
    have hcz66_3 : wc.cell? ⟨gb136, 3, none⟩ = some (.int .i64 a0_3) := bc BK136 3
    have hfz66_0 := blk_frozen BK136.out 0
    have hfz66_1 := blk_frozen BK136.out 1
    have hfz66_2 := blk_frozen BK136.out 2
    have hfz66_3 := blk_frozen BK136.out 3
    have hcz67_0 : wc.cell? ⟨gb138, 0, none⟩ = some (.bool false) := bc BK138 0
    have hcz67_1 : wc.cell? ⟨gb138, 1, none⟩ = some (.bool false) := bc BK138 1
    have hcz67_2 : wc.cell? ⟨gb138, 2, none⟩ = some (.int .i64 0) := bc BK138 2
    have hcz67_3 : wc.cell? ⟨gb138, 3, none⟩ = some (.int .i64 0) := bc BK138 3
    have hfz67_0 := blk_frozen BK138.out 0
    have hfz67_1 := blk_frozen BK138.out 1
    have hfz67_2 := blk_frozen BK138.out 2
    have hfz67_3 := blk_frozen BK138.out 3
    go_wp2
    refine bodyPost_ret (results_cell_row rfl _ _ gb138 23 #[.bool a1_0, .bool false, .int .i64 a1_2, .int .i64 a1_3] (0, 0) _ rfl (by (with_reducible repeat (first | refine blk_drewN ?_ _ | refine blk_drew ?_ | refine blk_alloc ?_ _)); refine blk_put (cs := #[.bool a1_0, .bool false, .int .i64 a1_2, .int .i64 0]) ?_ 3 _ rfl; (with_reducible repeat (first | refine blk_drewN ?_ _ | refine blk_drew ?_ | refine blk_alloc ?_ _)); refine blk_put (cs := #[.bool a1_0, .bool false, .int .i64 0, .int .i64 0]) ?_ 2 _ rfl; (with_reducible repeat (first | refine blk_drewN ?_ _ | refine blk_drew ?_ | refine blk_alloc ?_ _)); refine blk_put (cs := #[.bool a1_0, .bool false, .int .i64 0, .int .i64 0]) ?_ 1 _ rfl; (with_reducible repeat (first | refine blk_drewN ?_ _ | refine blk_drew ?_ | refine blk_alloc ?_ _)); refine blk_put (cs := #[.bool false, .bool false, .int .i64 0, .int .i64 0]) ?_ 0 _ rfl; (with_reducible repeat (first | refine blk_drewN ?_ _ | refine blk_drew ?_ | refine blk_alloc ?_ _)); refine blk_far ?_ NB138_139.out _; (with_reducible repeat (first | refine blk_drewN ?_ _ | refine blk_drew ?_ | refine blk_alloc ?_ _)); refine blk_far ?_ NB138_139.out _; (with_reducible repeat (first | refine blk_drewN ?_ _ | refine blk_drew ?_ | refine blk_alloc ?_ _)); refine blk_far ?_ NB138_139.out _; (with_reducible repeat (first | refine blk_drewN ?_ _ | refine blk_drew ?_ | refine blk_alloc ?_ _)); refine blk_far ?_ NB138_139.out _; (with_reducible repeat (first | refine blk_drewN ?_ _ | refine blk_drew ?_ | refine blk_alloc ?_ _)); exact BK138.out) Tryd.underlying23 rfl kk) rfl ?_
    exact ⟨pe, pw⟩
   rw [if_neg c57] at H
   have c57b0 : decide (a0_3 < a1_3) = false := decide_eq_false c57
   clear c57
   simp only [Option.some.injEq, Prod.mk.injEq] at H
   obtain ⟨rfl, rfl, rfl, rfl⟩ := H
   have hnb68 := NB137_136.out
   have hnc68 := NB136_137.out
   have hnb69 := NB137_138.out
   have hnc69 := NB138_137.out
   have hnb70 := NB137_139.out
   have hnc70 := NB139_137.out
   have hcz71_0 : wc.cell? ⟨gb137, 0, none⟩ = some (.bool a1_0) := bc BK137 0
   have hcz71_1 : wc.cell? ⟨gb137, 1, none⟩ = some (.bool false) := bc BK137 1
   have hcz71_2 : wc.cell? ⟨gb137, 2, none⟩ = some (.int .i64 a1_2) := bc BK137 2
   have hcz71_3 : wc.cell? ⟨gb137, 3, none⟩ = some (.int .i64 a1_3) := bc BK137 3
   have hfz71_0 := blk_frozen BK137.out 0
   have hfz71_1 := blk_frozen BK137.out 1
   have hfz71_2 := blk_frozen BK137.out 2
   have hfz71_3 := blk_frozen BK137.out 3
   have hnb72 := NB139_136.out
   have hnc72 := NB136_139.out
   have hnb73 := NB139_138.out
   have hnc73 := NB138_139.out
   have hcz74_0 : wc.cell? ⟨gb139, 0, none⟩ = some (.bool a0_0) := bc BK139 0
   have hcz74_1 : wc.cell? ⟨gb139, 1, none⟩ = some (.bool false) := bc BK139 1
   have hcz74_2 : wc.cell? ⟨gb139, 2, none⟩ = some (.int .i64 a0_2) := bc BK139 2
   have hcz74_3 : wc.cell? ⟨gb139, 3, none⟩ = some (.int .i64 a0_3) := bc BK139 3
   have hfz74_0 := blk_frozen BK139.out 0
   have hfz74_1 := blk_frozen BK139.out 1
   have hfz74_2 := blk_frozen BK139.out 2
   have hfz74_3 := blk_frozen BK139.out 3
   have hnb75 := NB136_138.out
   have hnc75 := NB138_136.out
   have hcz76_0 : wc.cell? ⟨gb136, 0, none⟩ = some (.bool a0_0) := bc BK136 0
   have hcz76_1 : wc.cell? ⟨gb136, 1, none⟩ = some (.bool false) := bc BK136 1
   have hcz76_2 : wc.cell? ⟨gb136, 2, none⟩ = some (.int .i64 a0_2) := bc BK136 2
   have hcz76_3 : wc.cell? ⟨gb136, 3, none⟩ = some (.int .i64 a0_3) := bc BK136 3
   have hfz76_0 := blk_frozen BK136.out 0
   have hfz76_1 := blk_frozen BK136.out 1
   have hfz76_2 := blk_frozen BK136.out 2
   have hfz76_3 := blk_frozen BK136.out 3
   have hcz77_0 : wc.cell? ⟨gb138, 0, none⟩ = some (.bool false) := bc BK138 0
   have hcz77_1 : wc.cell? ⟨gb138, 1, none⟩ = some (.bool false) := bc BK138 1
   have hcz77_2 : wc.cell? ⟨gb138, 2, none⟩ = some (.int .i64 0) := bc BK138 2
   have hcz77_3 : wc.cell? ⟨gb138, 3, none⟩ = some (.int .i64 0) := bc BK138 3
   have hfz77_0 := blk_frozen BK138.out 0
   have hfz77_1 := blk_frozen BK138.out 1
   have hfz77_2 := blk_frozen BK138.out 2
   have hfz77_3 := blk_frozen BK138.out 3
   go_wp2
   refine bodyPost_ret (results_cell_row rfl _ _ gb138 23 #[.bool a1_0, .bool false, .int .i64 a1_2, .int .i64 a0_3] (0, 0) _ rfl (by (with_reducible repeat (first | refine blk_drewN ?_ _ | refine blk_drew ?_ | refine blk_alloc ?_ _)); refine blk_put (cs := #[.bool a1_0, .bool false, .int .i64 a1_2, .int .i64 0]) ?_ 3 _ rfl; (with_reducible repeat (first | refine blk_drewN ?_ _ | refine blk_drew ?_ | refine blk_alloc ?_ _)); refine blk_put (cs := #[.bool a1_0, .bool false, .int .i64 0, .int .i64 0]) ?_ 2 _ rfl; (with_reducible repeat (first | refine blk_drewN ?_ _ | refine blk_drew ?_ | refine blk_alloc ?_ _)); refine blk_put (cs := #[.bool a1_0, .bool false, .int .i64 0, .int .i64 0]) ?_ 1 _ rfl; (with_reducible repeat (first | refine blk_drewN ?_ _ | refine blk_drew ?_ | refine blk_alloc ?_ _)); refine blk_put (cs := #[.bool false, .bool false, .int .i64 0, .int .i64 0]) ?_ 0 _ rfl; (with_reducible repeat (first | refine blk_drewN ?_ _ | refine blk_drew ?_ | refine blk_alloc ?_ _)); refine blk_far ?_ NB138_139.out _; (with_reducible repeat (first | refine blk_drewN ?_ _ | refine blk_drew ?_ | refine blk_alloc ?_ _)); refine blk_far ?_ NB138_139.out _; (with_reducible repeat (first | refine blk_drewN ?_ _ | refine blk_drew ?_ | refine blk_alloc ?_ _)); exact BK138.out) Tryd.underlying23 rfl kk) rfl ?_
   exact ⟨pe, pw⟩
  replace c35 := Bool.eq_false_iff.mpr c35
  subst c35
  have H1 : (if a1_1 = true then (some (a0_0, a1_1, a0_2, a1_3)) else (if a0_1 = true then (some (a0_0, a0_1, a0_2, a0_3)) else (if a1_3 > a0_3 then (some (a0_0, a1_1, a0_2, a1_3)) else (some (a0_0, a0_1, a0_2, a0_3))))) = some (r1, r2, r3, r4) := by rw [if_neg (show ¬ (false = true) by decide)] at H; exact H
  clear H
  have H := H1
  clear H1
  by_cases c78 : a1_1 = true
  ·subst c78
   have H1 : (some (a0_0, true, a0_2, a1_3)) = some (r1, r2, r3, r4) := by rw [if_pos rfl] at H; exact H
   clear H
   have H := H1
   clear H1
   simp only [Option.some.injEq, Prod.mk.injEq] at H
   obtain ⟨rfl, rfl, rfl, rfl⟩ := H
   have hnb79 := NB137_136.out
   have hnc79 := NB136_137.out
   have hnb80 := NB137_138.out
   have hnc80 := NB138_137.out
   have hnb81 := NB137_139.out
   have hnc81 := NB139_137.out
   have hcz82_0 : wc.cell? ⟨gb137, 0, none⟩ = some (.bool a1_0) := bc BK137 0
   have hcz82_1 : wc.cell? ⟨gb137, 1, none⟩ = some (.bool true) := bc BK137 1
   have hcz82_2 : wc.cell? ⟨gb137, 2, none⟩ = some (.int .i64 a1_2) := bc BK137 2
   have hcz82_3 : wc.cell? ⟨gb137, 3, none⟩ = some (.int .i64 a1_3) := bc BK137 3
   have hfz82_0 := blk_frozen BK137.out 0
   have hfz82_1 := blk_frozen BK137.out 1
   have hfz82_2 := blk_frozen BK137.out 2
   have hfz82_3 := blk_frozen BK137.out 3
   have hnb83 := NB139_136.out
   have hnc83 := NB136_139.out
   have hnb84 := NB139_138.out
   have hnc84 := NB138_139.out
   have hcz85_0 : wc.cell? ⟨gb139, 0, none⟩ = some (.bool a0_0) := bc BK139 0
   have hcz85_1 : wc.cell? ⟨gb139, 1, none⟩ = some (.bool a0_1) := bc BK139 1
   have hcz85_2 : wc.cell? ⟨gb139, 2, none⟩ = some (.int .i64 a0_2) := bc BK139 2
   have hcz85_3 : wc.cell? ⟨gb139, 3, none⟩ = some (.int .i64 a0_3) := bc BK139 3
   have hfz85_0 := blk_frozen BK139.out 0
   have hfz85_1 := blk_frozen BK139.out 1
   have hfz85_2 := blk_frozen BK139.out 2
   have hfz85_3 := blk_frozen BK139.out 3
   have hnb86 := NB138_136.out
   have hnc86 := NB136_138.out
   have hcz87_0 : wc.cell? ⟨gb138, 0, none⟩ = some (.bool false) := bc BK138 0
   have hcz87_1 : wc.cell? ⟨gb138, 1, none⟩ = some (.bool false) := bc BK138 1
   have hcz87_2 : wc.cell? ⟨gb138, 2, none⟩ = some (.int .i64 0) := bc BK138 2
   have hcz87_3 : wc.cell? ⟨gb138, 3, none⟩ = some (.int .i64 0) := bc BK138 3
   have hfz87_0 := blk_frozen BK138.out 0
   have hfz87_1 := blk_frozen BK138.out 1
   have hfz87_2 := blk_frozen BK138.out 2
   have hfz87_3 := blk_frozen BK138.out 3
   go_wp2
   refine bodyPost_ret (results_cell_row rfl _ _ gb138 23 #[.bool a0_0, .bool true, .int .i64 a0_2, .int .i64 a1_3] (0, 0) _ rfl (by (with_reducible repeat (first | refine blk_drewN ?_ _ | refine blk_drew ?_ | refine blk_alloc ?_ _)); refine blk_put (cs := #[.bool a0_0, .bool true, .int .i64 a0_2, .int .i64 0]) ?_ 3 _ rfl; (with_reducible repeat (first | refine blk_drewN ?_ _ | refine blk_drew ?_ | refine blk_alloc ?_ _)); refine blk_put (cs := #[.bool a0_0, .bool true, .int .i64 0, .int .i64 0]) ?_ 2 _ rfl; (with_reducible repeat (first | refine blk_drewN ?_ _ | refine blk_drew ?_ | refine blk_alloc ?_ _)); refine blk_put (cs := #[.bool a0_0, .bool false, .int .i64 0, .int .i64 0]) ?_ 1 _ rfl; (with_reducible repeat (first | refine blk_drewN ?_ _ | refine blk_drew ?_ | refine blk_alloc ?_ _)); refine blk_put (cs := #[.bool false, .bool false, .int .i64 0, .int .i64 0]) ?_ 0 _ rfl; (with_reducible repeat (first | refine blk_drewN ?_ _ | refine blk_drew ?_ | refine blk_alloc ?_ _)); refine blk_far ?_ NB138_139.out _; (with_reducible repeat (first | refine blk_drewN ?_ _ | refine blk_drew ?_ | refine blk_alloc ?_ _)); refine blk_far ?_ NB138_139.out _; (with_reducible repeat (first | refine blk_drewN ?_ _ | refine blk_drew ?_ | refine blk_alloc ?_ _)); exact BK138.out) Tryd.underlying23 rfl kk) rfl ?_
   exact ⟨pe, pw⟩
  replace c78 := Bool.eq_false_iff.mpr c78
  subst c78
  have H1 : (if a0_1 = true then (some (a0_0, a0_1, a0_2, a0_3)) else (if a1_3 > a0_3 then (some (a0_0, false, a0_2, a1_3)) else (some (a0_0, a0_1, a0_2, a0_3)))) = some (r1, r2, r3, r4) := by rw [if_neg (show ¬ (false = true) by decide)] at H; exact H
  clear H
  have H := H1
  clear H1
  by_cases c88 : a0_1 = true
  ·subst c88
   have H1 : (some (a0_0, true, a0_2, a0_3)) = some (r1, r2, r3, r4) := by rw [if_pos rfl] at H; exact H
   clear H
   have H := H1
   clear H1
   simp only [Option.some.injEq, Prod.mk.injEq] at H
   obtain ⟨rfl, rfl, rfl, rfl⟩ := H
   have hnb89 := NB137_136.out
   have hnc89 := NB136_137.out
   have hnb90 := NB137_138.out
   have hnc90 := NB138_137.out
   have hnb91 := NB137_139.out
   have hnc91 := NB139_137.out
   have hcz92_0 : wc.cell? ⟨gb137, 0, none⟩ = some (.bool a1_0) := bc BK137 0
   have hcz92_1 : wc.cell? ⟨gb137, 1, none⟩ = some (.bool false) := bc BK137 1
   have hcz92_2 : wc.cell? ⟨gb137, 2, none⟩ = some (.int .i64 a1_2) := bc BK137 2
   have hcz92_3 : wc.cell? ⟨gb137, 3, none⟩ = some (.int .i64 a1_3) := bc BK137 3
   have hfz92_0 := blk_frozen BK137.out 0
   have hfz92_1 := blk_frozen BK137.out 1
   have hfz92_2 := blk_frozen BK137.out 2
   have hfz92_3 := blk_frozen BK137.out 3
   have hnb93 := NB136_138.out
   have hnc93 := NB138_136.out
   have hnb94 := NB136_139.out
   have hnc94 := NB139_136.out
   have hcz95_0 : wc.cell? ⟨gb136, 0, none⟩ = some (.bool a0_0) := bc BK136 0
   have hcz95_1 : wc.cell? ⟨gb136, 1, none⟩ = some (.bool true) := bc BK136 1
   have hcz95_2 : wc.cell? ⟨gb136, 2, none⟩ = some (.int .i64 a0_2) := bc BK136 2
   have hcz95_3 : wc.cell? ⟨gb136, 3, none⟩ = some (.int .i64 a0_3) := bc BK136 3
   have hfz95_0 := blk_frozen BK136.out 0
   have hfz95_1 := blk_frozen BK136.out 1
   have hfz95_2 := blk_frozen BK136.out 2
   have hfz95_3 := blk_frozen BK136.out 3
   have hnb96 := NB139_138.out
   have hnc96 := NB138_139.out
   have hcz97_0 : wc.cell? ⟨gb139, 0, none⟩ = some (.bool a0_0) := bc BK139 0
   have hcz97_1 : wc.cell? ⟨gb139, 1, none⟩ = some (.bool true) := bc BK139 1
   have hcz97_2 : wc.cell? ⟨gb139, 2, none⟩ = some (.int .i64 a0_2) := bc BK139 2
   have hcz97_3 : wc.cell? ⟨gb139, 3, none⟩ = some (.int .i64 a0_3) := bc BK139 3
   have hfz97_0 := blk_frozen BK139.out 0
   have hfz97_1 := blk_frozen BK139.out 1
   have hfz97_2 := blk_frozen BK139.out 2
   have hfz97_3 := blk_frozen BK139.out 3
   have hcz98_0 : wc.cell? ⟨gb138, 0, none⟩ = some (.bool false) := bc BK138 0
   have hcz98_1 : wc.cell? ⟨gb138, 1, none⟩ = some (.bool false) := bc BK138 1
   have hcz98_2 : wc.cell? ⟨gb138, 2, none⟩ = some (.int .i64 0) := bc BK138 2
   have hcz98_3 : wc.cell? ⟨gb138, 3, none⟩ = some (.int .i64 0) := bc BK138 3
   have hfz98_0 := blk_frozen BK138.out 0
   have hfz98_1 := blk_frozen BK138.out 1
   have hfz98_2 := blk_frozen BK138.out 2
   have hfz98_3 := blk_frozen BK138.out 3
   go_wp2
   refine bodyPost_ret (results_cell_row rfl _ _ gb138 23 #[.bool a0_0, .bool true, .int .i64 a0_2, .int .i64 a0_3] (0, 0) _ rfl (by (with_reducible repeat (first | refine blk_drewN ?_ _ | refine blk_drew ?_ | refine blk_alloc ?_ _)); refine blk_put (cs := #[.bool a0_0, .bool true, .int .i64 a0_2, .int .i64 0]) ?_ 3 _ rfl; (with_reducible repeat (first | refine blk_drewN ?_ _ | refine blk_drew ?_ | refine blk_alloc ?_ _)); refine blk_put (cs := #[.bool a0_0, .bool true, .int .i64 0, .int .i64 0]) ?_ 2 _ rfl; (with_reducible repeat (first | refine blk_drewN ?_ _ | refine blk_drew ?_ | refine blk_alloc ?_ _)); refine blk_put (cs := #[.bool a0_0, .bool false, .int .i64 0, .int .i64 0]) ?_ 1 _ rfl; (with_reducible repeat (first | refine blk_drewN ?_ _ | refine blk_drew ?_ | refine blk_alloc ?_ _)); refine blk_put (cs := #[.bool false, .bool false, .int .i64 0, .int .i64 0]) ?_ 0 _ rfl; (with_reducible repeat (first | refine blk_drewN ?_ _ | refine blk_drew ?_ | refine blk_alloc ?_ _)); exact BK138.out) Tryd.underlying23 rfl kk) rfl ?_
   exact ⟨pe, pw⟩
  replace c88 := Bool.eq_false_iff.mpr c88
  subst c88
  have H1 : (if a1_3 > a0_3 then (some (a0_0, false, a0_2, a1_3)) else (some (a0_0, false, a0_2, a0_3))) = some (r1, r2, r3, r4) := by rw [if_neg (show ¬ (false = true) by decide)] at H; exact H
  clear H
  have H := H1
  clear H1
  by_cases c99 : a1_3 > a0_3
  ·rw [if_pos c99] at H
   have c99b0 : decide (a0_3 < a1_3) = true := decide_eq_true c99
   clear c99
   simp only [Option.some.injEq, Prod.mk.injEq] at H
   obtain ⟨rfl, rfl, rfl, rfl⟩ := H
   have hnb100 := NB137_136.out
   have hnc100 := NB136_137.out
   have hnb101 := NB137_138.out
   have hnc101 := NB138_137.out
   have hnb102 := NB137_139.out
   have hnc102 := NB139_137.out
   have hcz103_0 : wc.cell? ⟨gb137, 0, none⟩ = some (.bool a1_0) := bc BK137 0
   have hcz103_1 : wc.cell? ⟨gb137, 1, none⟩ = some (.bool false) := bc BK137 1
   have hcz103_2 : wc.cell? ⟨gb137, 2, none⟩ = some (.int .i64 a1_2) := bc BK137 2
   have hcz103_3 : wc.cell? ⟨gb137, 3, none⟩ = some (.int .i64 a1_3) := bc BK137 3
   have hfz103_0 := blk_frozen BK137.out 0
   have hfz103_1 := blk_frozen BK137.out 1
   have hfz103_2 := blk_frozen BK137.out 2
   have hfz103_3 := blk_frozen BK137.out 3
   have hnb104 := NB136_138.out
   have hnc104 := NB138_136.out
   have hnb105 := NB136_139.out
   have hnc105 := NB139_136.out
   have hcz106_0 : wc.cell? ⟨gb136, 0, none⟩ = some (.bool a0_0) := bc BK136 0
   have hcz106_1 : wc.cell? ⟨gb136, 1, none⟩ = some (.bool false) := bc BK136 1
   have hcz106_2 : wc.cell? ⟨gb136, 2, none⟩ = some (.int .i64 a0_2) := bc BK136 2
   have hcz106_3 : wc.cell? ⟨gb136, 3, none⟩ = some (.int .i64 a0_3) := bc BK136 3
   have hfz106_0 := blk_frozen BK136.out 0
   have hfz106_1 := blk_frozen BK136.out 1
   have hfz106_2 := blk_frozen BK136.out 2
   have hfz106_3 := blk_frozen BK136.out 3
   have hnb107 := NB139_138.out
   have hnc107 := NB138_139.out
   have hcz108_0 : wc.cell? ⟨gb139, 0, none⟩ = some (.bool a0_0) := bc BK139 0
   have hcz108_1 : wc.cell? ⟨gb139, 1, none⟩ = some (.bool false) := bc BK139 1
   have hcz108_2 : wc.cell? ⟨gb139, 2, none⟩ = some (.int .i64 a0_2) := bc BK139 2
   have hcz108_3 : wc.cell? ⟨gb139, 3, none⟩ = some (.int .i64 a0_3) := bc BK139 3
   have hfz108_0 := blk_frozen BK139.out 0
   have hfz108_1 := blk_frozen BK139.out 1
   have hfz108_2 := blk_frozen BK139.out 2
   have hfz108_3 := blk_frozen BK139.out 3
   have hcz109_0 : wc.cell? ⟨gb138, 0, none⟩ = some (.bool false) := bc BK138 0
   have hcz109_1 : wc.cell? ⟨gb138, 1, none⟩ = some (.bool false) := bc BK138 1
   have hcz109_2 : wc.cell? ⟨gb138, 2, none⟩ = some (.int .i64 0) := bc BK138 2
   have hcz109_3 : wc.cell? ⟨gb138, 3, none⟩ = some (.int .i64 0) := bc BK138 3
   have hfz109_0 := blk_frozen BK138.out 0
   have hfz109_1 := blk_frozen BK138.out 1
   have hfz109_2 := blk_frozen BK138.out 2
   have hfz109_3 := blk_frozen BK138.out 3
   go_wp2
   refine bodyPost_ret (results_cell_row rfl _ _ gb138 23 #[.bool a0_0, .bool false, .int .i64 a0_2, .int .i64 a1_3] (0, 0) _ rfl (by (with_reducible repeat (first | refine blk_drewN ?_ _ | refine blk_drew ?_ | refine blk_alloc ?_ _)); refine blk_put (cs := #[.bool a0_0, .bool false, .int .i64 a0_2, .int .i64 0]) ?_ 3 _ rfl; (with_reducible repeat (first | refine blk_drewN ?_ _ | refine blk_drew ?_ | refine blk_alloc ?_ _)); refine blk_put (cs := #[.bool a0_0, .bool false, .int .i64 0, .int .i64 0]) ?_ 2 _ rfl; (with_reducible repeat (first | refine blk_drewN ?_ _ | refine blk_drew ?_ | refine blk_alloc ?_ _)); refine blk_put (cs := #[.bool a0_0, .bool false, .int .i64 0, .int .i64 0]) ?_ 1 _ rfl; (with_reducible repeat (first | refine blk_drewN ?_ _ | refine blk_drew ?_ | refine blk_alloc ?_ _)); refine blk_put (cs := #[.bool false, .bool false, .int .i64 0, .int .i64 0]) ?_ 0 _ rfl; (with_reducible repeat (first | refine blk_drewN ?_ _ | refine blk_drew ?_ | refine blk_alloc ?_ _)); refine blk_far ?_ NB138_139.out _; (with_reducible repeat (first | refine blk_drewN ?_ _ | refine blk_drew ?_ | refine blk_alloc ?_ _)); refine blk_far ?_ NB138_139.out _; (with_reducible repeat (first | refine blk_drewN ?_ _ | refine blk_drew ?_ | refine blk_alloc ?_ _)); exact BK138.out) Tryd.underlying23 rfl kk) rfl ?_
   exact ⟨pe, pw⟩
  rw [if_neg c99] at H
  have c99b0 : decide (a0_3 < a1_3) = false := decide_eq_false c99
  clear c99
  simp only [Option.some.injEq, Prod.mk.injEq] at H
  obtain ⟨rfl, rfl, rfl, rfl⟩ := H
  have hnb110 := NB137_136.out
  have hnc110 := NB136_137.out
  have hnb111 := NB137_138.out
  have hnc111 := NB138_137.out
  have hnb112 := NB137_139.out
  have hnc112 := NB139_137.out
  have hcz113_0 : wc.cell? ⟨gb137, 0, none⟩ = some (.bool a1_0) := bc BK137 0
  have hcz113_1 : wc.cell? ⟨gb137, 1, none⟩ = some (.bool false) := bc BK137 1
  have hcz113_2 : wc.cell? ⟨gb137, 2, none⟩ = some (.int .i64 a1_2) := bc BK137 2
  have hcz113_3 : wc.cell? ⟨gb137, 3, none⟩ = some (.int .i64 a1_3) := bc BK137 3
  have hfz113_0 := blk_frozen BK137.out 0
  have hfz113_1 := blk_frozen BK137.out 1
  have hfz113_2 := blk_frozen BK137.out 2
  have hfz113_3 := blk_frozen BK137.out 3
  have hnb114 := NB136_138.out
  have hnc114 := NB138_136.out
  have hnb115 := NB136_139.out
  have hnc115 := NB139_136.out
  have hcz116_0 : wc.cell? ⟨gb136, 0, none⟩ = some (.bool a0_0) := bc BK136 0
  have hcz116_1 : wc.cell? ⟨gb136, 1, none⟩ = some (.bool false) := bc BK136 1
  have hcz116_2 : wc.cell? ⟨gb136, 2, none⟩ = some (.int .i64 a0_2) := bc BK136 2
  have hcz116_3 : wc.cell? ⟨gb136, 3, none⟩ = some (.int .i64 a0_3) := bc BK136 3
  have hfz116_0 := blk_frozen BK136.out 0
  have hfz116_1 := blk_frozen BK136.out 1
  have hfz116_2 := blk_frozen BK136.out 2
  have hfz116_3 := blk_frozen BK136.out 3
  have hnb117 := NB139_138.out
  have hnc117 := NB138_139.out
  have hcz118_0 : wc.cell? ⟨gb139, 0, none⟩ = some (.bool a0_0) := bc BK139 0
  have hcz118_1 : wc.cell? ⟨gb139, 1, none⟩ = some (.bool false) := bc BK139 1
  have hcz118_2 : wc.cell? ⟨gb139, 2, none⟩ = some (.int .i64 a0_2) := bc BK139 2
  have hcz118_3 : wc.cell? ⟨gb139, 3, none⟩ = some (.int .i64 a0_3) := bc BK139 3
  have hfz118_0 := blk_frozen BK139.out 0
  have hfz118_1 := blk_frozen BK139.out 1
  have hfz118_2 := blk_frozen BK139.out 2
  have hfz118_3 := blk_frozen BK139.out 3
  have hcz119_0 : wc.cell? ⟨gb138, 0, none⟩ = some (.bool false) := bc BK138 0
  have hcz119_1 : wc.cell? ⟨gb138, 1, none⟩ = some (.bool false) := bc BK138 1
  have hcz119_2 : wc.cell? ⟨gb138, 2, none⟩ = some (.int .i64 0) := bc BK138 2
  have hcz119_3 : wc.cell? ⟨gb138, 3, none⟩ = some (.int .i64 0) := bc BK138 3
  have hfz119_0 := blk_frozen BK138.out 0
  have hfz119_1 := blk_frozen BK138.out 1
  have hfz119_2 := blk_frozen BK138.out 2
  have hfz119_3 := blk_frozen BK138.out 3
  go_wp2
  refine bodyPost_ret (results_cell_row rfl _ _ gb138 23 #[.bool a0_0, .bool false, .int .i64 a0_2, .int .i64 a0_3] (0, 0) _ rfl (by (with_reducible repeat (first | refine blk_drewN ?_ _ | refine blk_drew ?_ | refine blk_alloc ?_ _)); refine blk_put (cs := #[.bool a0_0, .bool false, .int .i64 a0_2, .int .i64 0]) ?_ 3 _ rfl; (with_reducible repeat (first | refine blk_drewN ?_ _ | refine blk_drew ?_ | refine blk_alloc ?_ _)); refine blk_put (cs := #[.bool a0_0, .bool false, .int .i64 0, .int .i64 0]) ?_ 2 _ rfl; (with_reducible repeat (first | refine blk_drewN ?_ _ | refine blk_drew ?_ | refine blk_alloc ?_ _)); refine blk_put (cs := #[.bool a0_0, .bool false, .int .i64 0, .int .i64 0]) ?_ 1 _ rfl; (with_reducible repeat (first | refine blk_drewN ?_ _ | refine blk_drew ?_ | refine blk_alloc ?_ _)); refine blk_put (cs := #[.bool false, .bool false, .int .i64 0, .int .i64 0]) ?_ 0 _ rfl; (with_reducible repeat (first | refine blk_drewN ?_ _ | refine blk_drew ?_ | refine blk_alloc ?_ _)); exact BK138.out) Tryd.underlying23 rfl kk) rfl ?_
  exact ⟨pe, pw⟩

/-! ### R2_InsideOf: function 39 -/
def R2_InsideOf.f (k : Nat) (a0_0 : Bool) (a0_1 : Bool) (a0_2 : Int) (a0_3 : Int) (a1_0 : Bool) (a1_1 : Bool) (a1_2 : Int) (a1_3 : Int) : Option (Bool) := (R2_JoinedOf.f k a1_0 a1_1 a1_2 a1_3 a0_0 a0_1 a0_2 a0_3).bind fun bt142 => (some (bt142.1 == a1_0 && (bt142.2.1 == a1_1 && (bt142.2.2.1 == a1_2 && (bt142.2.2.2 == a1_3)))))
theorem R2_InsideOf.mono : ∀ a0 a1 a2 a3 a4 a5 a6 a7 k, LeO (R2_InsideOf.f k a0 a1 a2 a3 a4 a5 a6 a7) (R2_InsideOf.f (k + 1) a0 a1 a2 a3 a4 a5 a6 a7) := by
 intro a0 a1 a2 a3 a4 a5 a6 a7 k
 unfold R2_InsideOf.f
 repeat' first
   | (with_reducible exact R2_JoinedOf.mono _ _ _ _ _ _ _ _ _)
   | (with_reducible exact LeO.refl _)
   | (with_reducible exact LeO.none _)
   | (with_reducible refine LeO.ite ?_ ?_)
   | (with_reducible refine LeO.bind ?_ (fun _ => ?_))
   | exact R2_JoinedOf.mono _ _ _ _ _ _ _ _ _
   | exact LeO.none _
   | refine LeO.ite ?_ ?_
   | refine LeO.bind ?_ (fun _ => ?_)
set_option maxHeartbeats 8000000 in
set_option maxRecDepth 100000 in
theorem R2_InsideOf.calls [EA] (k : Nat) (a0_0 : Bool) (a0_1 : Bool) (a0_2 : Int) (a0_3 : Int) (a1_0 : Bool) (a1_1 : Bool) (a1_2 : Int) (a1_3 : Int) (r : Bool) (w : World) (h : R2_InsideOf.f k a0_0 a0_1 a0_2 a0_3 a1_0 a1_1 a1_2 a1_3 = some r) :
  Calls Tryd.prog 39 #[.agg #[.bool a0_0, .bool a0_1, .int .i64 a0_2, .int .i64 a0_3], .agg #[.bool a1_0, .bool a1_1, .int .i64 a1_2, .int .i64 a1_3]] w fun e w' => e = .returned (.bool r) ∧ Below w.heap.size w w' := by
 have hu23 := Tryd.underlying23
 have HB := am (Below.refl w.heap.size w)
 have H : ((R2_JoinedOf.f k a1_0 a1_1 a1_2 a1_3 a0_0 a0_1 a0_2 a0_3).bind fun bt142 => (some (bt142.1 == a1_0 && (bt142.2.1 == a1_1 && (bt142.2.2.1 == a1_2 && (bt142.2.2.2 == a1_3)))))) = some r := h
 clear h
 replace H := Option.bind_eq_some_iff.mp H
 obtain ⟨⟨t142, t143, t144, t145⟩, A30, H⟩ := H
 replace H : (some (t142 == a1_0 && (t143 == a1_1 && (t144 == a1_2 && (t145 == a1_3))))) = some r := H
 have A3 := am A30
 clear A30
 obtain rfl := Option.some.inj H
 go_enter Tryd.func39, Tryd.ntmps39
 try go_wp2_with (first | ((with_reducible refine gate_dst (N := 2) rfl ?_); refine box_event ?hg (N := 2) ?hd (cs := #[.bool a0_0, .bool a0_1, .int .i64 a0_2, .int .i64 a0_3]) (t := 23) ?hr ?_; (case hd => rfl); (case hg => rfl); (case hr => first | (go_simp; done) | (go_simp; rfl)); intro gb140 hg w4 hbox hb; have n0_ := am (below_step pw hb); have n1_ := am (hbox); have n2_ := am ((by rw [hg]; exact (below_size pw) : w.heap.size ≤ gb140)); have n3_ := am ((by rw [hg]; exact (below_size pw) : w.heap.size ≤ gb140)); clear HB; have HB := n0_; have BK140 := n1_; have GW140 := n2_; have GE140 := n3_; clear n0_ n1_ n2_ n3_; clear hb hbox hg) | ((with_reducible refine gate_dst (N := 3) rfl ?_); refine box_event ?hg (N := 3) ?hd (cs := #[.bool a1_0, .bool a1_1, .int .i64 a1_2, .int .i64 a1_3]) (t := 23) ?hr ?_; (case hd => rfl); (case hg => rfl); (case hr => first | (go_simp; done) | (go_simp; rfl)); intro gb141 hg w5 hbox hb; have n0_ := bb BK140 hb; have n1_ := am (below_step pw hb); have n2_ := am (hbox); have n3_ := am ((by rw [hg]; exact (below_size pw) : w.heap.size ≤ gb141)); have n4_ := am ((by rw [hg]; exact (below_size pw) : w.heap.size ≤ gb141)); have n5_ := am ((by rw [hg]; exact Nat.ne_of_lt (blk_lt pk) : gb140 ≠ gb141)); have n6_ := am ((by rw [hg]; exact Nat.ne_of_gt (blk_lt pk) : gb141 ≠ gb140)); clear BK140; clear HB; have BK140 := n0_; have HB := n1_; have BK141 := n2_; have GW141 := n3_; have GE141 := n4_; have NB140_141 := n5_; have NB141_140 := n6_; clear n0_ n1_ n2_ n3_ n4_ n5_ n6_; clear hb hbox hg))
 have n0_ := am (blk_drew BK140.out)
 have n1_ := am (blk_drew BK141.out)
 have n2_ := am (below_drew1 HB.out)
 clear BK140 BK141 HB
 revert n0_ n1_ n2_
 intro BK140 BK141 HB
 refine start_ (n := 6) (S := fun w' => w'.cell? ⟨gb141, 0, none⟩ = some (.bool a1_0) ∧ w'.cell? ⟨gb141, 1, none⟩ = some (.bool a1_1) ∧ w'.cell? ⟨gb141, 2, none⟩ = some (.int .i64 a1_2) ∧ w'.cell? ⟨gb141, 3, none⟩ = some (.int .i64 a1_3) ∧ w'.cell? ⟨gb140, 0, none⟩ = some (.bool a0_0) ∧ w'.cell? ⟨gb140, 1, none⟩ = some (.bool a0_1) ∧ w'.cell? ⟨gb140, 2, none⟩ = some (.int .i64 a0_2) ∧ w'.cell? ⟨gb140, 3, none⟩ = some (.int .i64 a0_3)) (ds := []) #[false, false, false, false, false, false] kk rfl rfl ⟨bc BK141 0, bc BK141 1, bc BK141 2, bc BK141 3, bc BK140 0, bc BK140 1, bc BK140 2, bc BK140 3⟩ (fun hHeld => ?_)
 generalize w5.drew = w6 at BK140 BK141 HB hHeld ⊢
 refine take_ (i := 0) (N := some 5) (v := ?_) (a' := ?_) #[true, false, false, false, false, false] rfl rfl kk (fun _ _ _ h => h) (Or.inl ⟨by rfl, ?_⟩) hHeld ?_ ?_
 rotate_left
 ·rintro w' ⟨s0, s1, s2, s3, s4, s5, s6, s7⟩
  go_simp
  with_reducible rfl
 rotate_left
 ·simp only [Act.put, List.setIfInBounds_toArray, List.set_cons_zero, List.set_cons_succ, i64_w, i32_w]
  rfl
 refine take_ (i := 1) (N := some 6) (v := ?_) (a' := ?_) #[true, true, false, false, false, false] rfl rfl kk (fun _ _ _ h => h) (Or.inl ⟨by rfl, ?_⟩) hHeld ?_ ?_
 rotate_left
 ·rintro w' ⟨s0, s1, s2, s3, s4, s5, s6, s7⟩
  go_simp
  with_reducible rfl
 rotate_left
 ·simp only [Act.put, List.setIfInBounds_toArray, List.set_cons_zero, List.set_cons_succ, i64_w, i32_w]
  rfl
 refine take_ (i := 3) (N := some 8) (v := ?_) (a' := ?_) #[true, true, false, true, false, false] rfl rfl kk (fun _ _ _ h => h) (Or.inl ⟨by rfl, ?_⟩) hHeld ?_ ?_
 rotate_left
 ·rintro w' ⟨s0, s1, s2, s3, s4, s5, s6, s7⟩
  go_simp
  with_reducible rfl
 rotate_left
 ·simp only [Act.put, List.setIfInBounds_toArray, List.set_cons_zero, List.set_cons_succ, i64_w, i32_w]
  rfl
 refine one_ (i := 2) (N := some 7) #[true, true, true, true, false, false] rfl rfl kk (by decide) (fun K hK => ?_)
 refine goes_ Tryd.func38 kk rfl #[.agg #[.bool a1_0, .bool a1_1, .int .i64 a1_2, .int .i64 a1_3], .agg #[.bool a0_0, .bool a0_1, .int .i64 a0_2, .int .i64 a0_3]] (by rfl) rfl rfl (by (try simp only [List.map_toArray, List.map_cons, List.map_nil]); first | done | rfl | (simp only [List.length_drop, List.length_take]; rfl)) ?_
 with_reducible refine (R2_JoinedOf.calls k a1_0 a1_1 a1_2 a1_3 a0_0 a0_1 a0_2 a0_3 t142 t143 t144 t145 _ A3.out).mono ?_
 rintro e w7 ⟨rfl, hb⟩
 refine ⟨_, rfl, ?_⟩
 have n0_ := bb BK140 hb
 have n1_ := bb BK141 hb
 have n2_ := am (below_step pw hb)
 clear BK140 BK141 HB
 revert n0_ n1_ n2_
 intro BK140 BK141 HB
 (try clear hb)
 (try clear hb2)
 (try clear hk)
 (try clear hi)
 refine hK.out _ _ ⟨bc BK141 0, bc BK141 1, bc BK141 2, bc BK141 3, bc BK140 0, bc BK140 1, bc BK140 2, bc BK140 3⟩ (fun hHeld => ?_)
 clear hK K
 refine norm_ (a' := ?_) ?_ ?_
 rotate_left
 ·show Act.put _ (some 7) _ = _
  simp only [Act.put, List.setIfInBounds_toArray, List.set_cons_zero, List.set_cons_succ, i64_w, i32_w]
  rfl
 refine pure_ (i := 4) (N := some 9) (v := ?_) (a' := ?_) #[true, true, true, true, true, false] rfl rfl kk (fun _ _ _ h => h) (Or.inl ⟨by rfl, ?_⟩) ?_ ?_
 rotate_left
 ·intro w'
  go_simp
  with_reducible rfl
 rotate_left
 ·simp only [Act.put, List.setIfInBounds_toArray, List.set_cons_zero, List.set_cons_succ, i64_w, i32_w]
  rfl
 refine pure_ (i := 5) (N := some 4) (v := ?_) (a' := ?_) #[true, true, true, true, true, true] rfl rfl kk (fun _ _ _ h => h) (Or.inl ⟨by rfl, ?_⟩) ?_ ?_
 rotate_left
 ·intro w'
  go_simp
  with_reducible rfl
 rotate_left
 ·simp only [Act.put, List.setIfInBounds_toArray, List.set_cons_zero, List.set_cons_succ, i64_w, i32_w]
  rfl
 refine done_ kk ?_
 try go_wp2
 go_ret
 exact ⟨pe, pw⟩

end Go.Proofs.YtimgfgambeffeaaDoor.J
