import Derived.Test.YtcalcnfppnbooaaDoorIrEb
import Derived.Test.YtcalcnfppnbooaaDoorIrR0
-- Written by wip/xprint.py (the session's program over the kit's print).
namespace Go.Proofs.YtcalcnfppnbooaaDoor.R
open Go.RowKit Go.Proofs.YtcalcnfppnbooaaDoorW.PrintWords Go.Proofs.YtcalcnfppnbooaaDoorW.PrintLast Go.Proofs.YtcalcnfppnbooaaDoorW.PrintMore Go.Proofs.Rcg
attribute [local go_sem] max2_int min2_int max_two min_two max_three min_three max_four min_four   -- for this text's walks alone
set_option linter.unusedVariables false
set_option linter.unusedSimpArgs false

/-! ### interval_clip: function 100 -/
mutual
def interval_clip.j0 : Nat → Bool → Bool → Bool → Int → Int → Option (Bool × Bool × Int × Int)
 | 0, _, _, _, _, _ => none
 | k + 1, x9, x140000, x140001, x140002, x140003 => if x9 = true then (interval_clip.j1 k true x140001 0 x140003) else (interval_clip.j1 k x140000 x140001 x140002 x140003)
def interval_clip.j1 : Nat → Bool → Bool → Int → Int → Option (Bool × Bool × Int × Int)
 | 0, _, _, _, _ => none
 | k + 1, x140000, x140001, x140002, x140003 => if x140001 = true then (interval_clip.j2 k true x140000 x140001 x140002 x140003) else (interval_clip.j2 k (decide (x140003 > 1099511627776)) x140000 x140001 x140002 x140003)
def interval_clip.j2 : Nat → Bool → Bool → Bool → Int → Int → Option (Bool × Bool × Int × Int)
 | 0, _, _, _, _, _ => none
 | k + 1, x18, x140000, x140001, x140002, x140003 => if x18 = true then (interval_clip.j3 k x140000 true x140002 0) else (interval_clip.j3 k x140000 x140001 x140002 x140003)
def interval_clip.j3 : Nat → Bool → Bool → Int → Int → Option (Bool × Bool × Int × Int)
 | 0, _, _, _, _ => none
 | k + 1, x140000, x140001, x140002, x140003 => if x140000 = true then (interval_clip.j4 k false x140000 x140001 x140002 x140003) else (interval_clip.j4 k (decide (x140002 > 1099511627776)) x140000 x140001 x140002 x140003)
def interval_clip.j4 : Nat → Bool → Bool → Bool → Int → Int → Option (Bool × Bool × Int × Int)
 | 0, _, _, _, _, _ => none
 | k + 1, x28, x140000, x140001, x140002, x140003 => if x28 = true then (if x140001 = true then (some (x140000, x140001, 1099511627776, x140003)) else (if x140003 < (-1099511627776) then (some (x140000, x140001, 1099511627776, (-1099511627776))) else (some (x140000, x140001, 1099511627776, x140003)))) else (if x140001 = true then (some (x140000, x140001, x140002, x140003)) else (if x140003 < (-1099511627776) then (some (x140000, x140001, x140002, (-1099511627776))) else (some (x140000, x140001, x140002, x140003))))
end
def interval_clip.f (k : Nat) (a0_0 : Bool) (a0_1 : Bool) (a0_2 : Int) (a0_3 : Int) : Option (Bool × Bool × Int × Int) := if a0_0 = true then (interval_clip.j0 k true a0_0 a0_1 a0_2 a0_3) else (interval_clip.j0 k (decide (a0_2 < (-1099511627776))) a0_0 a0_1 a0_2 a0_3)
theorem interval_clip.mono_l : ∀ k, (∀ y0 y1 y2 y3 y4, LeO (interval_clip.j0 k y0 y1 y2 y3 y4) (interval_clip.j0 (k + 1) y0 y1 y2 y3 y4)) ∧ (∀ y0 y1 y2 y3, LeO (interval_clip.j1 k y0 y1 y2 y3) (interval_clip.j1 (k + 1) y0 y1 y2 y3)) ∧ (∀ y0 y1 y2 y3 y4, LeO (interval_clip.j2 k y0 y1 y2 y3 y4) (interval_clip.j2 (k + 1) y0 y1 y2 y3 y4)) ∧ (∀ y0 y1 y2 y3, LeO (interval_clip.j3 k y0 y1 y2 y3) (interval_clip.j3 (k + 1) y0 y1 y2 y3)) ∧ (∀ y0 y1 y2 y3 y4, LeO (interval_clip.j4 k y0 y1 y2 y3 y4) (interval_clip.j4 (k + 1) y0 y1 y2 y3 y4))
 | 0 => ⟨fun _ _ _ _ _ r h => by simp [interval_clip.j0] at h, fun _ _ _ _ r h => by simp [interval_clip.j1] at h, fun _ _ _ _ _ r h => by simp [interval_clip.j2] at h, fun _ _ _ _ r h => by simp [interval_clip.j3] at h, fun _ _ _ _ _ r h => by simp [interval_clip.j4] at h⟩
 | k + 1 => by
  obtain ⟨ih0, ih1, ih2, ih3, ih4⟩ := interval_clip.mono_l k
  refine ⟨?_, ?_, ?_, ?_, ?_⟩
  ·intro y0 y1 y2 y3 y4
   unfold interval_clip.j0
   repeat' first
   | (with_reducible exact ih0 _ _ _ _ _)
   | (with_reducible exact ih1 _ _ _ _)
   | (with_reducible exact ih2 _ _ _ _ _)
   | (with_reducible exact ih3 _ _ _ _)
   | (with_reducible exact ih4 _ _ _ _ _)
   | (with_reducible exact LeO.refl _)
   | (with_reducible exact LeO.none _)
   | (with_reducible refine LeO.ite ?_ ?_)
   | (with_reducible refine LeO.bind ?_ (fun _ => ?_))
   | exact ih0 _ _ _ _ _
   | exact ih1 _ _ _ _
   | exact ih2 _ _ _ _ _
   | exact ih3 _ _ _ _
   | exact ih4 _ _ _ _ _
   | exact LeO.none _
   | refine LeO.ite ?_ ?_
   | refine LeO.bind ?_ (fun _ => ?_)
  ·intro y0 y1 y2 y3
   unfold interval_clip.j1
   repeat' first
   | (with_reducible exact ih0 _ _ _ _ _)
   | (with_reducible exact ih1 _ _ _ _)
   | (with_reducible exact ih2 _ _ _ _ _)
   | (with_reducible exact ih3 _ _ _ _)
   | (with_reducible exact ih4 _ _ _ _ _)
   | (with_reducible exact LeO.refl _)
   | (with_reducible exact LeO.none _)
   | (with_reducible refine LeO.ite ?_ ?_)
   | (with_reducible refine LeO.bind ?_ (fun _ => ?_))
   | exact ih0 _ _ _ _ _
   | exact ih1 _ _ _ _
   | exact ih2 _ _ _ _ _
   | exact ih3 _ _ _ _
   | exact ih4 _ _ _ _ _
   | exact LeO.none _
   | refine LeO.ite ?_ ?_
   | refine LeO.bind ?_ (fun _ => ?_)
  ·intro y0 y1 y2 y3 y4
   unfold interval_clip.j2
   repeat' first
   | (with_reducible exact ih0 _ _ _ _ _)
   | (with_reducible exact ih1 _ _ _ _)
   | (with_reducible exact ih2 _ _ _ _ _)
   | (with_reducible exact ih3 _ _ _ _)
   | (with_reducible exact ih4 _ _ _ _ _)
   | (with_reducible exact LeO.refl _)
   | (with_reducible exact LeO.none _)
   | (with_reducible refine LeO.ite ?_ ?_)
   | (with_reducible refine LeO.bind ?_ (fun _ => ?_))
   | exact ih0 _ _ _ _ _
   | exact ih1 _ _ _ _
   | exact ih2 _ _ _ _ _
   | exact ih3 _ _ _ _
   | exact ih4 _ _ _ _ _
   | exact LeO.none _
   | refine LeO.ite ?_ ?_
   | refine LeO.bind ?_ (fun _ => ?_)
  ·intro y0 y1 y2 y3
   unfold interval_clip.j3
   repeat' first
   | (with_reducible exact ih0 _ _ _ _ _)
   | (with_reducible exact ih1 _ _ _ _)
   | (with_reducible exact ih2 _ _ _ _ _)
   | (with_reducible exact ih3 _ _ _ _)
   | (with_reducible exact ih4 _ _ _ _ _)
   | (with_reducible exact LeO.refl _)
   | (with_reducible exact LeO.none _)
   | (with_reducible refine LeO.ite ?_ ?_)
   | (with_reducible refine LeO.bind ?_ (fun _ => ?_))
   | exact ih0 _ _ _ _ _
   | exact ih1 _ _ _ _
   | exact ih2 _ _ _ _ _
   | exact ih3 _ _ _ _
   | exact ih4 _ _ _ _ _
   | exact LeO.none _
   | refine LeO.ite ?_ ?_
   | refine LeO.bind ?_ (fun _ => ?_)
  intro y0 y1 y2 y3 y4
  unfold interval_clip.j4
  repeat' first
  | (with_reducible exact ih0 _ _ _ _ _)
  | (with_reducible exact ih1 _ _ _ _)
  | (with_reducible exact ih2 _ _ _ _ _)
  | (with_reducible exact ih3 _ _ _ _)
  | (with_reducible exact ih4 _ _ _ _ _)
  | (with_reducible exact LeO.refl _)
  | (with_reducible exact LeO.none _)
  | (with_reducible refine LeO.ite ?_ ?_)
  | (with_reducible refine LeO.bind ?_ (fun _ => ?_))
  | exact ih0 _ _ _ _ _
  | exact ih1 _ _ _ _
  | exact ih2 _ _ _ _ _
  | exact ih3 _ _ _ _
  | exact ih4 _ _ _ _ _
  | exact LeO.none _
  | refine LeO.ite ?_ ?_
  | refine LeO.bind ?_ (fun _ => ?_)
theorem interval_clip.mono : ∀ a0 a1 a2 a3 k, LeO (interval_clip.f k a0 a1 a2 a3) (interval_clip.f (k + 1) a0 a1 a2 a3) := by
 intro a0 a1 a2 a3 k
 obtain ⟨ih0, ih1, ih2, ih3, ih4⟩ := interval_clip.mono_l k
 unfold interval_clip.f
 repeat' first
   | (with_reducible exact ih0 _ _ _ _ _)
   | (with_reducible exact ih1 _ _ _ _)
   | (with_reducible exact ih2 _ _ _ _ _)
   | (with_reducible exact ih3 _ _ _ _)
   | (with_reducible exact ih4 _ _ _ _ _)
   | (with_reducible exact LeO.refl _)
   | (with_reducible exact LeO.none _)
   | (with_reducible refine LeO.ite ?_ ?_)
   | (with_reducible refine LeO.bind ?_ (fun _ => ?_))
   | exact ih0 _ _ _ _ _
   | exact ih1 _ _ _ _
   | exact ih2 _ _ _ _ _
   | exact ih3 _ _ _ _
   | exact ih4 _ _ _ _ _
   | exact LeO.none _
   | refine LeO.ite ?_ ?_
   | refine LeO.bind ?_ (fun _ => ?_)
set_option maxHeartbeats 8000000 in
set_option maxRecDepth 100000 in
theorem interval_clip.calls [EA] (k : Nat) (a0_0 : Bool) (a0_1 : Bool) (a0_2 : Int) (a0_3 : Int) (r1 : Bool) (r2 : Bool) (r3 : Int) (r4 : Int) (w : World) (h : interval_clip.f k a0_0 a0_1 a0_2 a0_3 = some (r1, r2, r3, r4)) :
  Calls Tryd.prog 100 #[.agg #[.bool a0_0, .bool a0_1, .int .i64 a0_2, .int .i64 a0_3]] w fun e w' => e = .returned (.agg #[.bool r1, .bool r2, .int .i64 r3, .int .i64 r4]) ∧ Below w.heap.size w w' := by
 have hu49 := Tryd.underlying49
 have HB := am (Below.refl w.heap.size w)
 have H : (if a0_0 = true then (interval_clip.j0 k true a0_0 a0_1 a0_2 a0_3) else (interval_clip.j0 k (decide (a0_2 < (-1099511627776))) a0_0 a0_1 a0_2 a0_3)) = some (r1, r2, r3, r4) := h
 clear h
 have HC2 := am H
 clear H
 go_enter Tryd.func100, Tryd.ntmps100
 go_upto_region 1 with (first | ((with_reducible refine gate_dst (N := 1) rfl ?_); refine box_event ?hg (N := 1) ?hd (cs := #[.bool a0_0, .bool a0_1, .int .i64 a0_2, .int .i64 a0_3]) (t := 49) ?hr ?_; (case hd => rfl); (case hg => rfl); (case hr => first | (go_simp; done) | (go_simp; rfl)); intro gb139 hg w3 hbox hb; have n0_ := am (below_step pw hb); have n1_ := am (hbox); have n2_ := am ((by rw [hg]; exact (below_size pw) : w.heap.size ≤ gb139)); have n3_ := am ((by rw [hg]; exact (below_size pw) : w.heap.size ≤ gb139)); clear HB; have HB := n0_; have BK139 := n1_; have GW139 := n2_; have GE139 := n3_; clear n0_ n1_ n2_ n3_; clear hb hbox hg) | ((with_reducible refine gate_dst (N := 2) rfl ?_); refine box_event ?hg (N := 2) ?hd (cs := #[.bool false, .bool false, .int .i64 0, .int .i64 0]) (t := 49) ?hr ?_; (case hd => rfl); (case hg => rfl); (case hr => first | (go_simp; done) | (go_simp; rfl)); intro gb140 hg w4 hbox hb; have n0_ := bb BK139 hb; have n1_ := am (below_step pw hb); have n2_ := am (hbox); have n3_ := am ((by rw [hg]; exact (below_size pw) : w.heap.size ≤ gb140)); have n4_ := am ((by rw [hg]; exact (below_size pw) : w.heap.size ≤ gb140)); have n5_ := am ((by rw [hg]; exact Nat.ne_of_lt (blk_lt pk) : gb139 ≠ gb140)); have n6_ := am ((by rw [hg]; exact Nat.ne_of_gt (blk_lt pk) : gb140 ≠ gb139)); clear BK139; clear HB; have BK139 := n0_; have HB := n1_; have BK140 := n2_; have GW140 := n3_; have GE140 := n4_; have NB139_140 := n5_; have NB140_139 := n6_; clear n0_ n1_ n2_ n3_ n4_ n5_ n6_; clear hb hbox hg))
 (try simp only [Act.put, List.setIfInBounds_toArray, List.set_cons_zero, List.set_cons_succ])
 go_cut [9] (fun v9 wc => ∃ (kq : Nat) (x9_1 : Bool), v9 = .bool x9_1 ∧ Aside0 (interval_clip.j0 kq x9_1 a0_0 a0_1 a0_2 a0_3 = some (r1, r2, r3, r4)) ∧ Aside0 (kq ≤ k) ∧ Aside0 (wc.heap[gb139]? = some (.cells #[.bool a0_0, .bool a0_1, .int .i64 a0_2, .int .i64 a0_3] 49 (0, 0))) ∧ Aside0 (wc.heap[gb140]? = some (.cells #[.bool false, .bool false, .int .i64 0, .int .i64 0] 49 (0, 0))) ∧ Aside0 (Below w.heap.size w wc))
 case first =>
  have H := HC2.out
  clear HC2
  by_cases c5 : a0_0 = true
  ·subst c5
   have H1 : (interval_clip.j0 k true true a0_1 a0_2 a0_3) = some (r1, r2, r3, r4) := by rw [if_pos rfl] at H; exact H
   clear H
   have H := H1
   clear H1
   have H' := am H
   clear H
   have hnb6 := NB139_140.out
   have hnc6 := NB140_139.out
   have hcz7_0 : w4.cell? ⟨gb139, 0, none⟩ = some (.bool true) := bc BK139 0
   have hcz7_1 : w4.cell? ⟨gb139, 1, none⟩ = some (.bool a0_1) := bc BK139 1
   have hcz7_2 : w4.cell? ⟨gb139, 2, none⟩ = some (.int .i64 a0_2) := bc BK139 2
   have hcz7_3 : w4.cell? ⟨gb139, 3, none⟩ = some (.int .i64 a0_3) := bc BK139 3
   have hfz7_0 := blk_frozen BK139.out 0
   have hfz7_1 := blk_frozen BK139.out 1
   have hfz7_2 := blk_frozen BK139.out 2
   have hfz7_3 := blk_frozen BK139.out 3
   go_wp2
   go_meet
   case rel => exact ⟨_, (true), pr, H', ⟨by first | omega | exact Nat.le_refl _⟩, ⟨pk⟩, ⟨pk⟩, ⟨pw⟩⟩
  replace c5 := Bool.eq_false_iff.mpr c5
  subst c5
  have H1 : (interval_clip.j0 k (decide (a0_2 < (-1099511627776))) false a0_1 a0_2 a0_3) = some (r1, r2, r3, r4) := by rw [if_neg (show ¬ (false = true) by decide)] at H; exact H
  clear H
  have H := H1
  clear H1
  have H' := am H
  clear H
  have hnb8 := NB139_140.out
  have hnc8 := NB140_139.out
  have hcz9_0 : w4.cell? ⟨gb139, 0, none⟩ = some (.bool false) := bc BK139 0
  have hcz9_1 : w4.cell? ⟨gb139, 1, none⟩ = some (.bool a0_1) := bc BK139 1
  have hcz9_2 : w4.cell? ⟨gb139, 2, none⟩ = some (.int .i64 a0_2) := bc BK139 2
  have hcz9_3 : w4.cell? ⟨gb139, 3, none⟩ = some (.int .i64 a0_3) := bc BK139 3
  have hfz9_0 := blk_frozen BK139.out 0
  have hfz9_1 := blk_frozen BK139.out 1
  have hfz9_2 := blk_frozen BK139.out 2
  have hfz9_3 := blk_frozen BK139.out 3
  go_wp2
  go_meet
  case rel => exact ⟨_, (decide (a0_2 < (-1099511627776))), pr, H', ⟨by first | omega | exact Nat.le_refl _⟩, ⟨pk⟩, ⟨pk⟩, ⟨pw⟩⟩
 clear HC2
 try clear c1
 try clear p2
 try clear c5
 try clear c6
 try clear c8
 try clear hcz7_0
 try clear hcz7_1
 try clear hcz7_2
 try clear hcz7_3
 try clear hcz9_0
 try clear hcz9_1
 try clear hcz9_2
 try clear hcz9_3
 try clear hfz7_0
 try clear hfz7_1
 try clear hfz7_2
 try clear hfz7_3
 try clear hfz9_0
 try clear hfz9_1
 try clear hfz9_2
 try clear hfz9_3
 obtain ⟨kq, x9_1, rfl, HA, HJ1, BK139, BK140, HB⟩ := hcut
 cases kq with
 | zero => exact absurd HA.out (by simp [interval_clip.j0])
 | succ kj1 =>
  have H := HA.out
  clear HA
  simp only [interval_clip.j0] at H
  have HC10 := am H
  clear H
  go_upto_if 9 with (fail)
  go_cut [] (fun wc => ∃ (kq : Nat) (x140000_9 : Bool) (x140002_9 : Int), Aside0 (interval_clip.j1 kq x140000_9 a0_1 x140002_9 a0_3 = some (r1, r2, r3, r4)) ∧ Aside0 (kq ≤ kj1) ∧ Aside0 (wc.heap[gb139]? = some (.cells #[.bool x140000_9, .bool a0_1, .int .i64 x140002_9, .int .i64 a0_3] 49 (0, 0))) ∧ Aside0 (wc.heap[gb140]? = some (.cells #[.bool false, .bool false, .int .i64 0, .int .i64 0] 49 (0, 0))) ∧ Aside0 (Below w.heap.size w wc))
  case first =>
   have H := HC10.out
   clear HC10
   by_cases c11 : x9_1 = true
   ·subst c11
    have H1 : (interval_clip.j1 kj1 true a0_1 0 a0_3) = some (r1, r2, r3, r4) := by rw [if_pos rfl] at H; exact H
    clear H
    have H := H1
    clear H1
    have H' := am H
    clear H
    have hnb12 := NB139_140.out
    have hnc12 := NB140_139.out
    have hcz13_0 : wc.cell? ⟨gb139, 0, none⟩ = some (.bool a0_0) := bc BK139 0
    have hcz13_1 : wc.cell? ⟨gb139, 1, none⟩ = some (.bool a0_1) := bc BK139 1
    have hcz13_2 : wc.cell? ⟨gb139, 2, none⟩ = some (.int .i64 a0_2) := bc BK139 2
    have hcz13_3 : wc.cell? ⟨gb139, 3, none⟩ = some (.int .i64 a0_3) := bc BK139 3
    have hfz13_0 := blk_frozen BK139.out 0
    have hfz13_1 := blk_frozen BK139.out 1
    have hfz13_2 := blk_frozen BK139.out 2
    have hfz13_3 := blk_frozen BK139.out 3
    go_wp2
    go_meet
    case rel => exact ⟨_, (true), (0), H', ⟨by have := HJ1.out; first | omega | exact Nat.le_refl _⟩, ⟨by (with_reducible repeat (first | refine blk_drewN ?_ _ | refine blk_drew ?_ | refine blk_alloc ?_ _)); refine blk_put (cs := #[.bool true, .bool a0_1, .int .i64 a0_2, .int .i64 a0_3]) ?_ 2 _ rfl; (with_reducible repeat (first | refine blk_drewN ?_ _ | refine blk_drew ?_ | refine blk_alloc ?_ _)); refine blk_put (cs := #[.bool a0_0, .bool a0_1, .int .i64 a0_2, .int .i64 a0_3]) ?_ 0 _ rfl; (with_reducible repeat (first | refine blk_drewN ?_ _ | refine blk_drew ?_ | refine blk_alloc ?_ _)); exact BK139.out⟩, ⟨by (with_reducible repeat (first | refine blk_drewN ?_ _ | refine blk_drew ?_ | refine blk_alloc ?_ _)); refine blk_far ?_ NB140_139.out _; (with_reducible repeat (first | refine blk_drewN ?_ _ | refine blk_drew ?_ | refine blk_alloc ?_ _)); refine blk_far ?_ NB140_139.out _; (with_reducible repeat (first | refine blk_drewN ?_ _ | refine blk_drew ?_ | refine blk_alloc ?_ _)); exact BK140.out⟩, ⟨pw⟩⟩
   replace c11 := Bool.eq_false_iff.mpr c11
   subst c11
   have H1 : (interval_clip.j1 kj1 a0_0 a0_1 a0_2 a0_3) = some (r1, r2, r3, r4) := by rw [if_neg (show ¬ (false = true) by decide)] at H; exact H
   clear H
   have H := H1
   clear H1
   have H' := am H
   clear H
   go_wp2
   go_meet
   case rel => exact ⟨_, (a0_0), (a0_2), H', ⟨by have := HJ1.out; first | omega | exact Nat.le_refl _⟩, ⟨pk⟩, ⟨pk⟩, ⟨pw⟩⟩
  clear HC10
  try clear c1
  try clear p2
  try clear c5
  try clear c6
  try clear c8
  try clear c10
  try clear c11
  try clear c12
  try clear hcz13_0
  try clear hcz13_1
  try clear hcz13_2
  try clear hcz13_3
  try clear hcz7_0
  try clear hcz7_1
  try clear hcz7_2
  try clear hcz7_3
  try clear hcz9_0
  try clear hcz9_1
  try clear hcz9_2
  try clear hcz9_3
  try clear hfz13_0
  try clear hfz13_1
  try clear hfz13_2
  try clear hfz13_3
  try clear hfz7_0
  try clear hfz7_1
  try clear hfz7_2
  try clear hfz7_3
  try clear hfz9_0
  try clear hfz9_1
  try clear hfz9_2
  try clear hfz9_3
  try clear p2
  obtain ⟨kq, x140000_9, x140002_9, HA, HJ9, BK139, BK140, HB⟩ := hcut
  cases kq with
  | zero => exact absurd HA.out (by simp [interval_clip.j1])
  | succ kj9 =>
   have H := HA.out
   clear HA
   simp only [interval_clip.j1] at H
   have HC14 := am H
   clear H
   go_upto_region 3 with (fail)
   go_cut [18] (fun v18 wc => ∃ (kq : Nat) (x18_13 : Bool), v18 = .bool x18_13 ∧ Aside0 (interval_clip.j2 kq x18_13 x140000_9 a0_1 x140002_9 a0_3 = some (r1, r2, r3, r4)) ∧ Aside0 (kq ≤ kj9) ∧ Aside0 (wc.heap[gb139]? = some (.cells #[.bool x140000_9, .bool a0_1, .int .i64 x140002_9, .int .i64 a0_3] 49 (0, 0))) ∧ Aside0 (wc.heap[gb140]? = some (.cells #[.bool false, .bool false, .int .i64 0, .int .i64 0] 49 (0, 0))) ∧ Aside0 (Below w.heap.size w wc))
   case first =>
    have H := HC14.out
    clear HC14
    by_cases c15 : a0_1 = true
    ·subst c15
     have H1 : (interval_clip.j2 kj9 true x140000_9 true x140002_9 a0_3) = some (r1, r2, r3, r4) := by rw [if_pos rfl] at H; exact H
     clear H
     have H := H1
     clear H1
     have H' := am H
     clear H
     have hnb16 := NB139_140.out
     have hnc16 := NB140_139.out
     have hcz17_0 : wc.cell? ⟨gb139, 0, none⟩ = some (.bool x140000_9) := bc BK139 0
     have hcz17_1 : wc.cell? ⟨gb139, 1, none⟩ = some (.bool true) := bc BK139 1
     have hcz17_2 : wc.cell? ⟨gb139, 2, none⟩ = some (.int .i64 x140002_9) := bc BK139 2
     have hcz17_3 : wc.cell? ⟨gb139, 3, none⟩ = some (.int .i64 a0_3) := bc BK139 3
     have hfz17_0 := blk_frozen BK139.out 0
     have hfz17_1 := blk_frozen BK139.out 1
     have hfz17_2 := blk_frozen BK139.out 2
     have hfz17_3 := blk_frozen BK139.out 3
     go_wp2
     go_meet
     case rel => exact ⟨_, (true), pr, H', ⟨by have := HJ1.out; have := HJ9.out; first | omega | exact Nat.le_refl _⟩, ⟨pk⟩, ⟨pk⟩, ⟨pw⟩⟩
    replace c15 := Bool.eq_false_iff.mpr c15
    subst c15
    have H1 : (interval_clip.j2 kj9 (decide (a0_3 > 1099511627776)) x140000_9 false x140002_9 a0_3) = some (r1, r2, r3, r4) := by rw [if_neg (show ¬ (false = true) by decide)] at H; exact H
    clear H
    have H := H1
    clear H1
    have H' := am H
    clear H
    have hnb18 := NB139_140.out
    have hnc18 := NB140_139.out
    have hcz19_0 : wc.cell? ⟨gb139, 0, none⟩ = some (.bool x140000_9) := bc BK139 0
    have hcz19_1 : wc.cell? ⟨gb139, 1, none⟩ = some (.bool false) := bc BK139 1
    have hcz19_2 : wc.cell? ⟨gb139, 2, none⟩ = some (.int .i64 x140002_9) := bc BK139 2
    have hcz19_3 : wc.cell? ⟨gb139, 3, none⟩ = some (.int .i64 a0_3) := bc BK139 3
    have hfz19_0 := blk_frozen BK139.out 0
    have hfz19_1 := blk_frozen BK139.out 1
    have hfz19_2 := blk_frozen BK139.out 2
    have hfz19_3 := blk_frozen BK139.out 3
    go_wp2
    go_meet
    case rel => exact ⟨_, (decide (a0_3 > 1099511627776)), pr, H', ⟨by have := HJ1.out; have := HJ9.out; first | omega | exact Nat.le_refl _⟩, ⟨pk⟩, ⟨pk⟩, ⟨pw⟩⟩
   clear HC14
   try clear c1
   try clear p2
   try clear c5
   try clear c6
   try clear c8
   try clear c10
   try clear c11
   try clear c12
   try clear c15
   try clear c16
   try clear c18
   try clear hcz13_0
   try clear hcz13_1
   try clear hcz13_2
   try clear hcz13_3
   try clear hcz17_0
   try clear hcz17_1
   try clear hcz17_2
   try clear hcz17_3
   try clear hcz19_0
   try clear hcz19_1
   try clear hcz19_2
   try clear hcz19_3
   try clear hcz7_0
   try clear hcz7_1
   try clear hcz7_2
   try clear hcz7_3
   try clear hcz9_0
   try clear hcz9_1
   try clear hcz9_2
   try clear hcz9_3
   try clear hfz13_0
   try clear hfz13_1
   try clear hfz13_2
   try clear hfz13_3
   try clear hfz17_0
   try clear hfz17_1
   try clear hfz17_2
   try clear hfz17_3
   try clear hfz19_0
   try clear hfz19_1
   try clear hfz19_2
   try clear hfz19_3
   try clear hfz7_0
   try clear hfz7_1
   try clear hfz7_2
   try clear hfz7_3
   try clear hfz9_0
   try clear hfz9_1
   try clear hfz9_2
   try clear hfz9_3
   try clear p2
   obtain ⟨kq, x18_13, rfl, HA, HJ13, BK139, BK140, HB⟩ := hcut
   cases kq with
   | zero => exact absurd HA.out (by simp [interval_clip.j2])
   | succ kj13 =>
    have H := HA.out
    clear HA
    simp only [interval_clip.j2] at H
    have HC20 := am H
    clear H
    go_upto_if 18 with (fail)
    go_cut [] (fun wc => ∃ (kq : Nat) (x140001_19 : Bool) (x140003_19 : Int), Aside0 (interval_clip.j3 kq x140000_9 x140001_19 x140002_9 x140003_19 = some (r1, r2, r3, r4)) ∧ Aside0 (kq ≤ kj13) ∧ Aside0 (wc.heap[gb139]? = some (.cells #[.bool x140000_9, .bool x140001_19, .int .i64 x140002_9, .int .i64 x140003_19] 49 (0, 0))) ∧ Aside0 (wc.heap[gb140]? = some (.cells #[.bool false, .bool false, .int .i64 0, .int .i64 0] 49 (0, 0))) ∧ Aside0 (Below w.heap.size w wc))
    case first =>
     have H := HC20.out
     clear HC20
     by_cases c21 : x18_13 = true
     ·subst c21
      have H1 : (interval_clip.j3 kj13 x140000_9 true x140002_9 0) = some (r1, r2, r3, r4) := by rw [if_pos rfl] at H; exact H
      clear H
      have H := H1
      clear H1
      have H' := am H
      clear H
      have hnb22 := NB139_140.out
      have hnc22 := NB140_139.out
      have hcz23_0 : wc.cell? ⟨gb139, 0, none⟩ = some (.bool x140000_9) := bc BK139 0
      have hcz23_1 : wc.cell? ⟨gb139, 1, none⟩ = some (.bool a0_1) := bc BK139 1
      have hcz23_2 : wc.cell? ⟨gb139, 2, none⟩ = some (.int .i64 x140002_9) := bc BK139 2
      have hcz23_3 : wc.cell? ⟨gb139, 3, none⟩ = some (.int .i64 a0_3) := bc BK139 3
      have hfz23_0 := blk_frozen BK139.out 0
      have hfz23_1 := blk_frozen BK139.out 1
      have hfz23_2 := blk_frozen BK139.out 2
      have hfz23_3 := blk_frozen BK139.out 3
      go_wp2
      go_meet
      case rel => exact ⟨_, (true), (0), H', ⟨by have := HJ1.out; have := HJ9.out; have := HJ13.out; first | omega | exact Nat.le_refl _⟩, ⟨by (with_reducible repeat (first | refine blk_drewN ?_ _ | refine blk_drew ?_ | refine blk_alloc ?_ _)); refine blk_put (cs := #[.bool x140000_9, .bool true, .int .i64 x140002_9, .int .i64 a0_3]) ?_ 3 _ rfl; (with_reducible repeat (first | refine blk_drewN ?_ _ | refine blk_drew ?_ | refine blk_alloc ?_ _)); refine blk_put (cs := #[.bool x140000_9, .bool a0_1, .int .i64 x140002_9, .int .i64 a0_3]) ?_ 1 _ rfl; (with_reducible repeat (first | refine blk_drewN ?_ _ | refine blk_drew ?_ | refine blk_alloc ?_ _)); exact BK139.out⟩, ⟨by (with_reducible repeat (first | refine blk_drewN ?_ _ | refine blk_drew ?_ | refine blk_alloc ?_ _)); refine blk_far ?_ NB140_139.out _; (with_reducible repeat (first | refine blk_drewN ?_ _ | refine blk_drew ?_ | refine blk_alloc ?_ _)); refine blk_far ?_ NB140_139.out _; (with_reducible repeat (first | refine blk_drewN ?_ _ | refine blk_drew ?_ | refine blk_alloc ?_ _)); exact BK140.out⟩, ⟨pw⟩⟩
     replace c21 := Bool.eq_false_iff.mpr c21
     subst c21
     have H1 : (interval_clip.j3 kj13 x140000_9 a0_1 x140002_9 a0_3) = some (r1, r2, r3, r4) := by rw [if_neg (show ¬ (false = true) by decide)] at H; exact H
     clear H
     have H := H1
     clear H1
     have H' := am H
     clear H
     go_wp2
     go_meet
     case rel => exact ⟨_, (a0_1), (a0_3), H', ⟨by have := HJ1.out; have := HJ9.out; have := HJ13.out; first | omega | exact Nat.le_refl _⟩, ⟨pk⟩, ⟨pk⟩, ⟨pw⟩⟩
    clear HC20
    try clear c1
    try clear c2
    try clear p2
    try clear c5
    try clear c6
    try clear c8
    try clear c10
    try clear c11
    try clear c12
    try clear c15
    try clear c16
    try clear c18
    try clear c21
    try clear c22
    try clear hcz13_0
    try clear hcz13_1
    try clear hcz13_2
    try clear hcz13_3
    try clear hcz17_0
    try clear hcz17_1
    try clear hcz17_2
    try clear hcz17_3
    try clear hcz19_0
    try clear hcz19_1
    try clear hcz19_2
    try clear hcz19_3
    try clear hcz23_0
    try clear hcz23_1
    try clear hcz23_2
    try clear hcz23_3
    try clear hcz7_0
    try clear hcz7_1
    try clear hcz7_2
    try clear hcz7_3
    try clear hcz9_0
    try clear hcz9_1
    try clear hcz9_2
    try clear hcz9_3
    try clear hfz13_0
    try clear hfz13_1
    try clear hfz13_2
    try clear hfz13_3
    try clear hfz17_0
    try clear hfz17_1
    try clear hfz17_2
    try clear hfz17_3
    try clear hfz19_0
    try clear hfz19_1
    try clear hfz19_2
    try clear hfz19_3
    try clear hfz23_0
    try clear hfz23_1
    try clear hfz23_2
    try clear hfz23_3
    try clear hfz7_0
    try clear hfz7_1
    try clear hfz7_2
    try clear hfz7_3
    try clear hfz9_0
    try clear hfz9_1
    try clear hfz9_2
    try clear hfz9_3
    try clear p2
    obtain ⟨kq, x140001_19, x140003_19, HA, HJ19, BK139, BK140, HB⟩ := hcut
    cases kq with
    | zero => exact absurd HA.out (by simp [interval_clip.j3])
    | succ kj19 =>
     have H := HA.out
     clear HA
     simp only [interval_clip.j3] at H
     have HC24 := am H
     clear H
     go_upto_region 5 with (fail)
     go_cut [28] (fun v28 wc => ∃ (kq : Nat) (x28_23 : Bool), v28 = .bool x28_23 ∧ Aside0 (interval_clip.j4 kq x28_23 x140000_9 x140001_19 x140002_9 x140003_19 = some (r1, r2, r3, r4)) ∧ Aside0 (kq ≤ kj19) ∧ Aside0 (wc.heap[gb139]? = some (.cells #[.bool x140000_9, .bool x140001_19, .int .i64 x140002_9, .int .i64 x140003_19] 49 (0, 0))) ∧ Aside0 (wc.heap[gb140]? = some (.cells #[.bool false, .bool false, .int .i64 0, .int .i64 0] 49 (0, 0))) ∧ Aside0 (Below w.heap.size w wc))
     case first =>
      have H := HC24.out
      clear HC24
      by_cases c25 : x140000_9 = true
      ·subst c25
       have H1 : (interval_clip.j4 kj19 false true x140001_19 x140002_9 x140003_19) = some (r1, r2, r3, r4) := by rw [if_pos rfl] at H; exact H
       clear H
       have H := H1
       clear H1
       have H' := am H
       clear H
       have hnb26 := NB139_140.out
       have hnc26 := NB140_139.out
       have hcz27_0 : wc.cell? ⟨gb139, 0, none⟩ = some (.bool true) := bc BK139 0
       have hcz27_1 : wc.cell? ⟨gb139, 1, none⟩ = some (.bool x140001_19) := bc BK139 1
       have hcz27_2 : wc.cell? ⟨gb139, 2, none⟩ = some (.int .i64 x140002_9) := bc BK139 2
       have hcz27_3 : wc.cell? ⟨gb139, 3, none⟩ = some (.int .i64 x140003_19) := bc BK139 3
       have hfz27_0 := blk_frozen BK139.out 0
       have hfz27_1 := blk_frozen BK139.out 1
       have hfz27_2 := blk_frozen BK139.out 2
       have hfz27_3 := blk_frozen BK139.out 3
       go_wp2
       go_meet
       case rel => exact ⟨_, (false), pr, H', ⟨by have := HJ1.out; have := HJ9.out; have := HJ13.out; have := HJ19.out; first | omega | exact Nat.le_refl _⟩, ⟨pk⟩, ⟨pk⟩, ⟨pw⟩⟩
      replace c25 := Bool.eq_false_iff.mpr c25
      subst c25
      have H1 : (interval_clip.j4 kj19 (decide (x140002_9 > 1099511627776)) false x140001_19 x140002_9 x140003_19) = some (r1, r2, r3, r4) := by rw [if_neg (show ¬ (false = true) by decide)] at H; exact H
      clear H
      have H := H1
      clear H1
      have H' := am H
      clear H
      have hnb28 := NB139_140.out
      have hnc28 := NB140_139.out
      have hcz29_0 : wc.cell? ⟨gb139, 0, none⟩ = some (.bool false) := bc BK139 0
      have hcz29_1 : wc.cell? ⟨gb139, 1, none⟩ = some (.bool x140001_19) := bc BK139 1
      have hcz29_2 : wc.cell? ⟨gb139, 2, none⟩ = some (.int .i64 x140002_9) := bc BK139 2
      have hcz29_3 : wc.cell? ⟨gb139, 3, none⟩ = some (.int .i64 x140003_19) := bc BK139 3
      have hfz29_0 := blk_frozen BK139.out 0
      have hfz29_1 := blk_frozen BK139.out 1
      have hfz29_2 := blk_frozen BK139.out 2
      have hfz29_3 := blk_frozen BK139.out 3
      go_wp2
      go_meet
      case rel => exact ⟨_, (decide (x140002_9 > 1099511627776)), pr, H', ⟨by have := HJ1.out; have := HJ9.out; have := HJ13.out; have := HJ19.out; first | omega | exact Nat.le_refl _⟩, ⟨pk⟩, ⟨pk⟩, ⟨pw⟩⟩
     clear HC24
     try clear c1
     try clear c2
     try clear p2
     try clear c5
     try clear c6
     try clear c8
     try clear c10
     try clear c11
     try clear c12
     try clear c15
     try clear c16
     try clear c18
     try clear c21
     try clear c22
     try clear c25
     try clear c26
     try clear c28
     try clear hcz13_0
     try clear hcz13_1
     try clear hcz13_2
     try clear hcz13_3
     try clear hcz17_0
     try clear hcz17_1
     try clear hcz17_2
     try clear hcz17_3
     try clear hcz19_0
     try clear hcz19_1
     try clear hcz19_2
     try clear hcz19_3
     try clear hcz23_0
     try clear hcz23_1
     try clear hcz23_2
     try clear hcz23_3
     try clear hcz27_0
     try clear hcz27_1
     try clear hcz27_2
     try clear hcz27_3
     try clear hcz29_0
     try clear hcz29_1
     try clear hcz29_2
     try clear hcz29_3
     try clear hcz7_0
     try clear hcz7_1
     try clear hcz7_2
     try clear hcz7_3
     try clear hcz9_0
     try clear hcz9_1
     try clear hcz9_2
     try clear hcz9_3
     try clear hfz13_0
     try clear hfz13_1
     try clear hfz13_2
     try clear hfz13_3
     try clear hfz17_0
     try clear hfz17_1
     try clear hfz17_2
     try clear hfz17_3
     try clear hfz19_0
     try clear hfz19_1
     try clear hfz19_2
     try clear hfz19_3
     try clear hfz23_0
     try clear hfz23_1
     try clear hfz23_2
     try clear hfz23_3
     try clear hfz27_0
     try clear hfz27_1
     try clear hfz27_2
     try clear hfz27_3
     try clear hfz29_0
     try clear hfz29_1
     try clear hfz29_2
     try clear hfz29_3
     try clear hfz7_0
     try clear hfz7_1
     try clear hfz7_2
     try clear hfz7_3
     try clear hfz9_0
     try clear hfz9_1
     try clear hfz9_2
     try clear hfz9_3
     try clear p2
     obtain ⟨kq, x28_23, rfl, HA, HJ23, BK139, BK140, HB⟩ := hcut
     cases kq with
     | zero => exact absurd HA.out (by simp [interval_clip.j4])
     | succ kj23 =>
      have H := HA.out
      clear HA
      simp only [interval_clip.j4] at H
      by_cases c30 : x28_23 = true
      ·subst c30
       have H1 : (if x140001_19 = true then (some (x140000_9, x140001_19, 1099511627776, x140003_19)) else (if x140003_19 < (-1099511627776) then (some (x140000_9, x140001_19, 1099511627776, (-1099511627776))) else (some (x140000_9, x140001_19, 1099511627776, x140003_19)))) = some (r1, r2, r3, r4) := by rw [if_pos rfl] at H; exact H
       clear H
       have H := H1
       clear H1
       by_cases c31 : x140001_19 = true
       ·subst c31
        have H1 : (some (x140000_9, true, 1099511627776, x140003_19)) = some (r1, r2, r3, r4) := by rw [if_pos rfl] at H; exact H
        clear H
        have H := H1
        clear H1
        simp only [Option.some.injEq, Prod.mk.injEq] at H
        obtain ⟨rfl, rfl, rfl, rfl⟩ := H
        have hnb32 := NB139_140.out
        have hnc32 := NB140_139.out
        have hcz33_0 : wc.cell? ⟨gb139, 0, none⟩ = some (.bool x140000_9) := bc BK139 0
        have hcz33_1 : wc.cell? ⟨gb139, 1, none⟩ = some (.bool true) := bc BK139 1
        have hcz33_2 : wc.cell? ⟨gb139, 2, none⟩ = some (.int .i64 x140002_9) := bc BK139 2
        have hcz33_3 : wc.cell? ⟨gb139, 3, none⟩ = some (.int .i64 x140003_19) := bc BK139 3
        have hfz33_0 := blk_frozen BK139.out 0
        have hfz33_1 := blk_frozen BK139.out 1
        have hfz33_2 := blk_frozen BK139.out 2
        have hfz33_3 := blk_frozen BK139.out 3
        have hcz34_0 : wc.cell? ⟨gb140, 0, none⟩ = some (.bool false) := bc BK140 0
        have hcz34_1 : wc.cell? ⟨gb140, 1, none⟩ = some (.bool false) := bc BK140 1
        have hcz34_2 : wc.cell? ⟨gb140, 2, none⟩ = some (.int .i64 0) := bc BK140 2
        have hcz34_3 : wc.cell? ⟨gb140, 3, none⟩ = some (.int .i64 0) := bc BK140 3
        have hfz34_0 := blk_frozen BK140.out 0
        have hfz34_1 := blk_frozen BK140.out 1
        have hfz34_2 := blk_frozen BK140.out 2
        have hfz34_3 := blk_frozen BK140.out 3
        go_wp2
        refine bodyPost_ret (results_cell_row rfl _ _ gb140 49 #[.bool x140000_9, .bool true, .int .i64 1099511627776, .int .i64 x140003_19] (0, 0) _ rfl (by (with_reducible repeat (first | refine blk_drewN ?_ _ | refine blk_drew ?_ | refine blk_alloc ?_ _)); refine blk_put (cs := #[.bool x140000_9, .bool true, .int .i64 1099511627776, .int .i64 0]) ?_ 3 _ rfl; (with_reducible repeat (first | refine blk_drewN ?_ _ | refine blk_drew ?_ | refine blk_alloc ?_ _)); refine blk_put (cs := #[.bool x140000_9, .bool true, .int .i64 0, .int .i64 0]) ?_ 2 _ rfl; (with_reducible repeat (first | refine blk_drewN ?_ _ | refine blk_drew ?_ | refine blk_alloc ?_ _)); refine blk_put (cs := #[.bool x140000_9, .bool false, .int .i64 0, .int .i64 0]) ?_ 1 _ rfl; (with_reducible repeat (first | refine blk_drewN ?_ _ | refine blk_drew ?_ | refine blk_alloc ?_ _)); refine blk_put (cs := #[.bool false, .bool false, .int .i64 0, .int .i64 0]) ?_ 0 _ rfl; (with_reducible repeat (first | refine blk_drewN ?_ _ | refine blk_drew ?_ | refine blk_alloc ?_ _)); refine blk_far ?_ NB140_139.out _; (with_reducible repeat (first | refine blk_drewN ?_ _ | refine blk_drew ?_ | refine blk_alloc ?_ _)); exact BK140.out) Tryd.underlying49 rfl kk) rfl ?_
        exact ⟨pe, pw⟩
       replace c31 := Bool.eq_false_iff.mpr c31
       subst c31
       have H1 : (if x140003_19 < (-1099511627776) then (some (x140000_9, false, 1099511627776, (-1099511627776))) else (some (x140000_9, false, 1099511627776, x140003_19))) = some (r1, r2, r3, r4) := by rw [if_neg (show ¬ (false = true) by decide)] at H; exact H
       clear H
       have H := H1
       clear H1
       by_cases c35 : x140003_19 < (-1099511627776)
       ·rw [if_pos c35] at H
        have c35b0 : decide (x140003_19 < (-1099511627776)) = true := decide_eq_true c35
        clear c35
        simp only [Option.some.injEq, Prod.mk.injEq] at H
        obtain ⟨rfl, rfl, rfl, rfl⟩ := H
        have hnb36 := NB139_140.out
        have hnc36 := NB140_139.out
        have hcz37_0 : wc.cell? ⟨gb139, 0, none⟩ = some (.bool x140000_9) := bc BK139 0
        have hcz37_1 : wc.cell? ⟨gb139, 1, none⟩ = some (.bool false) := bc BK139 1
        have hcz37_2 : wc.cell? ⟨gb139, 2, none⟩ = some (.int .i64 x140002_9) := bc BK139 2
        have hcz37_3 : wc.cell? ⟨gb139, 3, none⟩ = some (.int .i64 x140003_19) := bc BK139 3
        have hfz37_0 := blk_frozen BK139.out 0
        have hfz37_1 := blk_frozen BK139.out 1
        have hfz37_2 := blk_frozen BK139.out 2
        have hfz37_3 := blk_frozen BK139.out 3
        have hcz38_0 : wc.cell? ⟨gb140, 0, none⟩ = some (.bool false) := bc BK140 0
        have hcz38_1 : wc.cell? ⟨gb140, 1, none⟩ = some (.bool false) := bc BK140 1
        have hcz38_2 : wc.cell? ⟨gb140, 2, none⟩ = some (.int .i64 0) := bc BK140 2
        have hcz38_3 : wc.cell? ⟨gb140, 3, none⟩ = some (.int .i64 0) := bc BK140 3
        have hfz38_0 := blk_frozen BK140.out 0
        have hfz38_1 := blk_frozen BK140.out 1
        have hfz38_2 := blk_frozen BK140.out 2
        have hfz38_3 := blk_frozen BK140.out 3
        go_wp2
        refine bodyPost_ret (results_cell_row rfl _ _ gb140 49 #[.bool x140000_9, .bool false, .int .i64 1099511627776, .int .i64 (-1099511627776)] (0, 0) _ rfl (by (with_reducible repeat (first | refine blk_drewN ?_ _ | refine blk_drew ?_ | refine blk_alloc ?_ _)); refine blk_put (cs := #[.bool x140000_9, .bool false, .int .i64 1099511627776, .int .i64 0]) ?_ 3 _ rfl; (with_reducible repeat (first | refine blk_drewN ?_ _ | refine blk_drew ?_ | refine blk_alloc ?_ _)); refine blk_put (cs := #[.bool x140000_9, .bool false, .int .i64 0, .int .i64 0]) ?_ 2 _ rfl; (with_reducible repeat (first | refine blk_drewN ?_ _ | refine blk_drew ?_ | refine blk_alloc ?_ _)); refine blk_put (cs := #[.bool x140000_9, .bool false, .int .i64 0, .int .i64 0]) ?_ 1 _ rfl; (with_reducible repeat (first | refine blk_drewN ?_ _ | refine blk_drew ?_ | refine blk_alloc ?_ _)); refine blk_put (cs := #[.bool false, .bool false, .int .i64 0, .int .i64 0]) ?_ 0 _ rfl; (with_reducible repeat (first | refine blk_drewN ?_ _ | refine blk_drew ?_ | refine blk_alloc ?_ _)); refine blk_far ?_ NB140_139.out _; (with_reducible repeat (first | refine blk_drewN ?_ _ | refine blk_drew ?_ | refine blk_alloc ?_ _)); refine blk_far ?_ NB140_139.out _; (with_reducible repeat (first | refine blk_drewN ?_ _ | refine blk_drew ?_ | refine blk_alloc ?_ _)); exact BK140.out) Tryd.underlying49 rfl kk) rfl ?_
        exact ⟨pe, pw⟩
       rw [if_neg c35] at H
       have c35b0 : decide (x140003_19 < (-1099511627776)) = false := decide_eq_false c35
       clear c35
       simp only [Option.some.injEq, Prod.mk.injEq] at H
       obtain ⟨rfl, rfl, rfl, rfl⟩ := H
       have hnb39 := NB139_140.out
       have hnc39 := NB140_139.out
       have hcz40_0 : wc.cell? ⟨gb139, 0, none⟩ = some (.bool x140000_9) := bc BK139 0
       have hcz40_1 : wc.cell? ⟨gb139, 1, none⟩ = some (.bool false) := bc BK139 1
       have hcz40_2 : wc.cell? ⟨gb139, 2, none⟩ = some (.int .i64 x140002_9) := bc BK139 2
       have hcz40_3 : wc.cell? ⟨gb139, 3, none⟩ = some (.int .i64 x140003_19) := bc BK139 3
       have hfz40_0 := blk_frozen BK139.out 0
       have hfz40_1 := blk_frozen BK139.out 1
       have hfz40_2 := blk_frozen BK139.out 2
       have hfz40_3 := blk_frozen BK139.out 3
       have hcz41_0 : wc.cell? ⟨gb140, 0, none⟩ = some (.bool false) := bc BK140 0
       have hcz41_1 : wc.cell? ⟨gb140, 1, none⟩ = some (.bool false) := bc BK140 1
       have hcz41_2 : wc.cell? ⟨gb140, 2, none⟩ = some (.int .i64 0) := bc BK140 2
       have hcz41_3 : wc.cell? ⟨gb140, 3, none⟩ = some (.int .i64 0) := bc BK140 3
       have hfz41_0 := blk_frozen BK140.out 0
       have hfz41_1 := blk_frozen BK140.out 1
       have hfz41_2 := blk_frozen BK140.out 2
       have hfz41_3 := blk_frozen BK140.out 3
       go_wp2
       refine bodyPost_ret (results_cell_row rfl _ _ gb140 49 #[.bool x140000_9, .bool false, .int .i64 1099511627776, .int .i64 x140003_19] (0, 0) _ rfl (by (with_reducible repeat (first | refine blk_drewN ?_ _ | refine blk_drew ?_ | refine blk_alloc ?_ _)); refine blk_put (cs := #[.bool x140000_9, .bool false, .int .i64 1099511627776, .int .i64 0]) ?_ 3 _ rfl; (with_reducible repeat (first | refine blk_drewN ?_ _ | refine blk_drew ?_ | refine blk_alloc ?_ _)); refine blk_put (cs := #[.bool x140000_9, .bool false, .int .i64 0, .int .i64 0]) ?_ 2 _ rfl; (with_reducible repeat (first | refine blk_drewN ?_ _ | refine blk_drew ?_ | refine blk_alloc ?_ _)); refine blk_put (cs := #[.bool x140000_9, .bool false, .int .i64 0, .int .i64 0]) ?_ 1 _ rfl; (with_reducible repeat (first | refine blk_drewN ?_ _ | refine blk_drew ?_ | refine blk_alloc ?_ _)); refine blk_put (cs := #[.bool false, .bool false, .int .i64 0, .int .i64 0]) ?_ 0 _ rfl; (with_reducible repeat (first | refine blk_drewN ?_ _ | refine blk_drew ?_ | refine blk_alloc ?_ _)); refine blk_far ?_ NB140_139.out _; (with_reducible repeat (first | refine blk_drewN ?_ _ | refine blk_drew ?_ | refine blk_alloc ?_ _)); exact BK140.out) Tryd.underlying49 rfl kk) rfl ?_
       exact ⟨pe, pw⟩
      replace c30 := Bool.eq_false_iff.mpr c30
      subst c30
      have H1 : (if x140001_19 = true then (some (x140000_9, x140001_19, x140002_9, x140003_19)) else (if x140003_19 < (-1099511627776) then (some (x140000_9, x140001_19, x140002_9, (-1099511627776))) else (some (x140000_9, x140001_19, x140002_9, x140003_19)))) = some (r1, r2, r3, r4) := by rw [if_neg (show ¬ (false = true) by decide)] at H; exact H
      clear H
      have H := H1
      clear H1
      by_cases c42 : x140001_19 = true
      ·subst c42
       have H1 : (some (x140000_9, true, x140002_9, x140003_19)) = some (r1, r2, r3, r4) := by rw [if_pos rfl] at H; exact H
       clear H
       have H := H1
       clear H1
       simp only [Option.some.injEq, Prod.mk.injEq] at H
       obtain ⟨rfl, rfl, rfl, rfl⟩ := H
       have hnb43 := NB139_140.out
       have hnc43 := NB140_139.out
       have hcz44_0 : wc.cell? ⟨gb139, 0, none⟩ = some (.bool x140000_9) := bc BK139 0
       have hcz44_1 : wc.cell? ⟨gb139, 1, none⟩ = some (.bool true) := bc BK139 1
       have hcz44_2 : wc.cell? ⟨gb139, 2, none⟩ = some (.int .i64 x140002_9) := bc BK139 2
       have hcz44_3 : wc.cell? ⟨gb139, 3, none⟩ = some (.int .i64 x140003_19) := bc BK139 3
       have hfz44_0 := blk_frozen BK139.out 0
       have hfz44_1 := blk_frozen BK139.out 1
       have hfz44_2 := blk_frozen BK139.out 2
       have hfz44_3 := blk_frozen BK139.out 3
       have hcz45_0 : wc.cell? ⟨gb140, 0, none⟩ = some (.bool false) := bc BK140 0
       have hcz45_1 : wc.cell? ⟨gb140, 1, none⟩ = some (.bool false) := bc BK140 1
       have hcz45_2 : wc.cell? ⟨gb140, 2, none⟩ = some (.int .i64 0) := bc BK140 2
       have hcz45_3 : wc.cell? ⟨gb140, 3, none⟩ = some (.int .i64 0) := bc BK140 3
       have hfz45_0 := blk_frozen BK140.out 0
       have hfz45_1 := blk_frozen BK140.out 1
       have hfz45_2 := blk_frozen BK140.out 2
       have hfz45_3 := blk_frozen BK140.out 3
       go_wp2
       refine bodyPost_ret (results_cell_row rfl _ _ gb140 49 #[.bool x140000_9, .bool true, .int .i64 x140002_9, .int .i64 x140003_19] (0, 0) _ rfl (by (with_reducible repeat (first | refine blk_drewN ?_ _ | refine blk_drew ?_ | refine blk_alloc ?_ _)); refine blk_put (cs := #[.bool x140000_9, .bool true, .int .i64 x140002_9, .int .i64 0]) ?_ 3 _ rfl; (with_reducible repeat (first | refine blk_drewN ?_ _ | refine blk_drew ?_ | refine blk_alloc ?_ _)); refine blk_put (cs := #[.bool x140000_9, .bool true, .int .i64 0, .int .i64 0]) ?_ 2 _ rfl; (with_reducible repeat (first | refine blk_drewN ?_ _ | refine blk_drew ?_ | refine blk_alloc ?_ _)); refine blk_put (cs := #[.bool x140000_9, .bool false, .int .i64 0, .int .i64 0]) ?_ 1 _ rfl; (with_reducible repeat (first | refine blk_drewN ?_ _ | refine blk_drew ?_ | refine blk_alloc ?_ _)); refine blk_put (cs := #[.bool false, .bool false, .int .i64 0, .int .i64 0]) ?_ 0 _ rfl; (with_reducible repeat (first | refine blk_drewN ?_ _ | refine blk_drew ?_ | refine blk_alloc ?_ _)); exact BK140.out) Tryd.underlying49 rfl kk) rfl ?_
       exact ⟨pe, pw⟩
      replace c42 := Bool.eq_false_iff.mpr c42
      subst c42
      have H1 : (if x140003_19 < (-1099511627776) then (some (x140000_9, false, x140002_9, (-1099511627776))) else (some (x140000_9, false, x140002_9, x140003_19))) = some (r1, r2, r3, r4) := by rw [if_neg (show ¬ (false = true) by decide)] at H; exact H
      clear H
      have H := H1
      clear H1
      by_cases c46 : x140003_19 < (-1099511627776)
      ·rw [if_pos c46] at H
       have c46b0 : decide (x140003_19 < (-1099511627776)) = true := decide_eq_true c46
       clear c46
       simp only [Option.some.injEq, Prod.mk.injEq] at H
       obtain ⟨rfl, rfl, rfl, rfl⟩ := H
       have hnb47 := NB139_140.out
       have hnc47 := NB140_139.out
       have hcz48_0 : wc.cell? ⟨gb139, 0, none⟩ = some (.bool x140000_9) := bc BK139 0
       have hcz48_1 : wc.cell? ⟨gb139, 1, none⟩ = some (.bool false) := bc BK139 1
       have hcz48_2 : wc.cell? ⟨gb139, 2, none⟩ = some (.int .i64 x140002_9) := bc BK139 2
       have hcz48_3 : wc.cell? ⟨gb139, 3, none⟩ = some (.int .i64 x140003_19) := bc BK139 3
       have hfz48_0 := blk_frozen BK139.out 0
       have hfz48_1 := blk_frozen BK139.out 1
       have hfz48_2 := blk_frozen BK139.out 2
       have hfz48_3 := blk_frozen BK139.out 3
       have hcz49_0 : wc.cell? ⟨gb140, 0, none⟩ = some (.bool false) := bc BK140 0
       have hcz49_1 : wc.cell? ⟨gb140, 1, none⟩ = some (.bool false) := bc BK140 1
       have hcz49_2 : wc.cell? ⟨gb140, 2, none⟩ = some (.int .i64 0) := bc BK140 2
       have hcz49_3 : wc.cell? ⟨gb140, 3, none⟩ = some (.int .i64 0) := bc BK140 3
       have hfz49_0 := blk_frozen BK140.out 0
       have hfz49_1 := blk_frozen BK140.out 1
       have hfz49_2 := blk_frozen BK140.out 2
       have hfz49_3 := blk_frozen BK140.out 3
       go_wp2
       refine bodyPost_ret (results_cell_row rfl _ _ gb140 49 #[.bool x140000_9, .bool false, .int .i64 x140002_9, .int .i64 (-1099511627776)] (0, 0) _ rfl (by (with_reducible repeat (first | refine blk_drewN ?_ _ | refine blk_drew ?_ | refine blk_alloc ?_ _)); refine blk_put (cs := #[.bool x140000_9, .bool false, .int .i64 x140002_9, .int .i64 0]) ?_ 3 _ rfl; (with_reducible repeat (first | refine blk_drewN ?_ _ | refine blk_drew ?_ | refine blk_alloc ?_ _)); refine blk_put (cs := #[.bool x140000_9, .bool false, .int .i64 0, .int .i64 0]) ?_ 2 _ rfl; (with_reducible repeat (first | refine blk_drewN ?_ _ | refine blk_drew ?_ | refine blk_alloc ?_ _)); refine blk_put (cs := #[.bool x140000_9, .bool false, .int .i64 0, .int .i64 0]) ?_ 1 _ rfl; (with_reducible repeat (first | refine blk_drewN ?_ _ | refine blk_drew ?_ | refine blk_alloc ?_ _)); refine blk_put (cs := #[.bool false, .bool false, .int .i64 0, .int .i64 0]) ?_ 0 _ rfl; (with_reducible repeat (first | refine blk_drewN ?_ _ | refine blk_drew ?_ | refine blk_alloc ?_ _)); refine blk_far ?_ NB140_139.out _; (with_reducible repeat (first | refine blk_drewN ?_ _ | refine blk_drew ?_ | refine blk_alloc ?_ _)); exact BK140.out) Tryd.underlying49 rfl kk) rfl ?_
       exact ⟨pe, pw⟩
      rw [if_neg c46] at H
      have c46b0 : decide (x140003_19 < (-1099511627776)) = false := decide_eq_false c46
      clear c46
      simp only [Option.some.injEq, Prod.mk.injEq] at H
      obtain ⟨rfl, rfl, rfl, rfl⟩ := H
      have hnb50 := NB139_140.out
      have hnc50 := NB140_139.out
      have hcz51_0 : wc.cell? ⟨gb139, 0, none⟩ = some (.bool x140000_9) := bc BK139 0
      have hcz51_1 : wc.cell? ⟨gb139, 1, none⟩ = some (.bool false) := bc BK139 1
      have hcz51_2 : wc.cell? ⟨gb139, 2, none⟩ = some (.int .i64 x140002_9) := bc BK139 2
      have hcz51_3 : wc.cell? ⟨gb139, 3, none⟩ = some (.int .i64 x140003_19) := bc BK139 3
      have hfz51_0 := blk_frozen BK139.out 0
      have hfz51_1 := blk_frozen BK139.out 1
      have hfz51_2 := blk_frozen BK139.out 2
      have hfz51_3 := blk_frozen BK139.out 3
      have hcz52_0 : wc.cell? ⟨gb140, 0, none⟩ = some (.bool false) := bc BK140 0
      have hcz52_1 : wc.cell? ⟨gb140, 1, none⟩ = some (.bool false) := bc BK140 1
      have hcz52_2 : wc.cell? ⟨gb140, 2, none⟩ = some (.int .i64 0) := bc BK140 2
      have hcz52_3 : wc.cell? ⟨gb140, 3, none⟩ = some (.int .i64 0) := bc BK140 3
      have hfz52_0 := blk_frozen BK140.out 0
      have hfz52_1 := blk_frozen BK140.out 1
      have hfz52_2 := blk_frozen BK140.out 2
      have hfz52_3 := blk_frozen BK140.out 3
      go_wp2
      refine bodyPost_ret (results_cell_row rfl _ _ gb140 49 #[.bool x140000_9, .bool false, .int .i64 x140002_9, .int .i64 x140003_19] (0, 0) _ rfl (by (with_reducible repeat (first | refine blk_drewN ?_ _ | refine blk_drew ?_ | refine blk_alloc ?_ _)); refine blk_put (cs := #[.bool x140000_9, .bool false, .int .i64 x140002_9, .int .i64 0]) ?_ 3 _ rfl; (with_reducible repeat (first | refine blk_drewN ?_ _ | refine blk_drew ?_ | refine blk_alloc ?_ _)); refine blk_put (cs := #[.bool x140000_9, .bool false, .int .i64 0, .int .i64 0]) ?_ 2 _ rfl; (with_reducible repeat (first | refine blk_drewN ?_ _ | refine blk_drew ?_ | refine blk_alloc ?_ _)); refine blk_put (cs := #[.bool x140000_9, .bool false, .int .i64 0, .int .i64 0]) ?_ 1 _ rfl; (with_reducible repeat (first | refine blk_drewN ?_ _ | refine blk_drew ?_ | refine blk_alloc ?_ _)); refine blk_put (cs := #[.bool false, .bool false, .int .i64 0, .int .i64 0]) ?_ 0 _ rfl; (with_reducible repeat (first | refine blk_drewN ?_ _ | refine blk_drew ?_ | refine blk_alloc ?_ _)); exact BK140.out) Tryd.underlying49 rfl kk) rfl ?_
      exact ⟨pe, pw⟩

end Go.Proofs.YtcalcnfppnbooaaDoor.R
