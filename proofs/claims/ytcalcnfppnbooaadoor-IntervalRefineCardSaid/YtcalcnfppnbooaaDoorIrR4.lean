import Derived.Test.YtcalcnfppnbooaaDoorIrEb
import Derived.Test.YtcalcnfppnbooaaDoorIrR0
-- Written by wip/xprint.py (the session's program over the kit's print).
namespace Go.Proofs.YtcalcnfppnbooaaDoor.R
open Go.RowKit Go.Proofs.YtcalcnfppnbooaaDoorW.PrintWords Go.Proofs.YtcalcnfppnbooaaDoorW.PrintLast Go.Proofs.YtcalcnfppnbooaaDoorW.PrintMore Go.Proofs.Rcg
attribute [local go_sem] max2_int min2_int max_two min_two max_three min_three max_four min_four   -- for this text's walks alone
set_option linter.unusedVariables false
set_option linter.unusedSimpArgs false

/-! ### interval_meet: function 97 -/
mutual
def interval_meet.j0 : Nat → Bool → Bool → Bool → Int → Int → Bool → Bool → Int → Int → Bool → Bool → Int → Int → Option (Bool × Bool × Int × Int × Bool)
 | 0, _, _, _, _, _, _, _, _, _, _, _, _, _ => none
 | k + 1, x21, x133000, x133001, x133002, x133003, x134000, x134001, x134002, x134003, x136000, x136001, x136002, x136003 => if x21 = true then (interval_meet.j1 k x133000 x133001 x133002 x133003 x134000 x134001 x134002 x134003 x134000 x136001 x134002 x136003) else (interval_meet.j1 k x133000 x133001 x133002 x133003 x134000 x134001 x134002 x134003 x136000 x136001 x136002 x136003)
def interval_meet.j1 : Nat → Bool → Bool → Int → Int → Bool → Bool → Int → Int → Bool → Bool → Int → Int → Option (Bool × Bool × Int × Int × Bool)
 | 0, _, _, _, _, _, _, _, _, _, _, _, _ => none
 | k + 1, x133000, x133001, x133002, x133003, x134000, x134001, x134002, x134003, x136000, x136001, x136002, x136003 => if x133001 = true then (interval_meet.j2 k true x134000 x134001 x134002 x134003 x136000 x136001 x136002 x136003) else (if x134001 = true then (interval_meet.j2 k false x134000 x134001 x134002 x134003 x136000 x136001 x136002 x136003) else (interval_meet.j2 k (decide (x134003 < x133003)) x134000 x134001 x134002 x134003 x136000 x136001 x136002 x136003))
def interval_meet.j2 : Nat → Bool → Bool → Bool → Int → Int → Bool → Bool → Int → Int → Option (Bool × Bool × Int × Int × Bool)
 | 0, _, _, _, _, _, _, _, _, _ => none
 | k + 1, x41, x134000, x134001, x134002, x134003, x136000, x136001, x136002, x136003 => if x41 = true then (if x136000 = true then (some (x136000, x134001, x136002, x134003, true)) else (if x134001 = true then (some (x136000, x134001, x136002, x134003, true)) else (if x136002 > x134003 then (some (false, false, 0, 0, false)) else (some (x136000, x134001, x136002, x134003, true))))) else (if x136000 = true then (some (x136000, x136001, x136002, x136003, true)) else (if x136001 = true then (some (x136000, x136001, x136002, x136003, true)) else (if x136002 > x136003 then (some (false, false, 0, 0, false)) else (some (x136000, x136001, x136002, x136003, true)))))
end
def interval_meet.f (k : Nat) (a0_0 : Bool) (a0_1 : Bool) (a0_2 : Int) (a0_3 : Int) (a1_0 : Bool) (a1_1 : Bool) (a1_2 : Int) (a1_3 : Int) : Option (Bool × Bool × Int × Int × Bool) := if a0_0 = true then (interval_meet.j0 k true a0_0 a0_1 a0_2 a0_3 a1_0 a1_1 a1_2 a1_3 a0_0 a0_1 a0_2 a0_3) else (if a1_0 = true then (interval_meet.j0 k false a0_0 a0_1 a0_2 a0_3 a1_0 a1_1 a1_2 a1_3 a0_0 a0_1 a0_2 a0_3) else (interval_meet.j0 k (decide (a1_2 > a0_2)) a0_0 a0_1 a0_2 a0_3 a1_0 a1_1 a1_2 a1_3 a0_0 a0_1 a0_2 a0_3))
theorem interval_meet.mono_l : ∀ k, (∀ y0 y1 y2 y3 y4 y5 y6 y7 y8 y9 y10 y11 y12, LeO (interval_meet.j0 k y0 y1 y2 y3 y4 y5 y6 y7 y8 y9 y10 y11 y12) (interval_meet.j0 (k + 1) y0 y1 y2 y3 y4 y5 y6 y7 y8 y9 y10 y11 y12)) ∧ (∀ y0 y1 y2 y3 y4 y5 y6 y7 y8 y9 y10 y11, LeO (interval_meet.j1 k y0 y1 y2 y3 y4 y5 y6 y7 y8 y9 y10 y11) (interval_meet.j1 (k + 1) y0 y1 y2 y3 y4 y5 y6 y7 y8 y9 y10 y11)) ∧ (∀ y0 y1 y2 y3 y4 y5 y6 y7 y8, LeO (interval_meet.j2 k y0 y1 y2 y3 y4 y5 y6 y7 y8) (interval_meet.j2 (k + 1) y0 y1 y2 y3 y4 y5 y6 y7 y8))
 | 0 => ⟨fun _ _ _ _ _ _ _ _ _ _ _ _ _ r h => by simp [interval_meet.j0] at h, fun _ _ _ _ _ _ _ _ _ _ _ _ r h => by simp [interval_meet.j1] at h, fun _ _ _ _ _ _ _ _ _ r h => by simp [interval_meet.j2] at h⟩
 | k + 1 => by
  obtain ⟨ih0, ih1, ih2⟩ := interval_meet.mono_l k
  refine ⟨?_, ?_, ?_⟩
  ·intro y0 y1 y2 y3 y4 y5 y6 y7 y8 y9 y10 y11 y12
   unfold interval_meet.j0
   repeat' first
   | (with_reducible exact ih0 _ _ _ _ _ _ _ _ _ _ _ _ _)
   | (with_reducible exact ih1 _ _ _ _ _ _ _ _ _ _ _ _)
   | (with_reducible exact ih2 _ _ _ _ _ _ _ _ _)
   | (with_reducible exact LeO.refl _)
   | (with_reducible exact LeO.none _)
   | (with_reducible refine LeO.ite ?_ ?_)
   | (with_reducible refine LeO.bind ?_ (fun _ => ?_))
   | exact ih0 _ _ _ _ _ _ _ _ _ _ _ _ _
   | exact ih1 _ _ _ _ _ _ _ _ _ _ _ _
   | exact ih2 _ _ _ _ _ _ _ _ _
   | exact LeO.none _
   | refine LeO.ite ?_ ?_
   | refine LeO.bind ?_ (fun _ => ?_)
  ·intro y0 y1 y2 y3 y4 y5 y6 y7 y8 y9 y10 y11
   unfold interval_meet.j1
   repeat' first
   | (with_reducible exact ih0 _ _ _ _ _ _ _ _ _ _ _ _ _)
   | (with_reducible exact ih1 _ _ _ _ _ _ _ _ _ _ _ _)
   | (with_reducible exact ih2 _ _ _ _ _ _ _ _ _)
   | (with_reducible exact LeO.refl _)
   | (with_reducible exact LeO.none _)
   | (with_reducible refine LeO.ite ?_ ?_)
   | (with_reducible refine LeO.bind ?_ (fun _ => ?_))
   | exact ih0 _ _ _ _ _ _ _ _ _ _ _ _ _
   | exact ih1 _ _ _ _ _ _ _ _ _ _ _ _
   | exact ih2 _ _ _ _ _ _ _ _ _
   | exact LeO.none _
   | refine LeO.ite ?_ ?_
   | refine LeO.bind ?_ (fun _ => ?_)
  intro y0 y1 y2 y3 y4 y5 y6 y7 y8
  unfold interval_meet.j2
  repeat' first
  | (with_reducible exact ih0 _ _ _ _ _ _ _ _ _ _ _ _ _)
  | (with_reducible exact ih1 _ _ _ _ _ _ _ _ _ _ _ _)
  | (with_reducible exact ih2 _ _ _ _ _ _ _ _ _)
  | (with_reducible exact LeO.refl _)
  | (with_reducible exact LeO.none _)
  | (with_reducible refine LeO.ite ?_ ?_)
  | (with_reducible refine LeO.bind ?_ (fun _ => ?_))
  | exact ih0 _ _ _ _ _ _ _ _ _ _ _ _ _
  | exact ih1 _ _ _ _ _ _ _ _ _ _ _ _
  | exact ih2 _ _ _ _ _ _ _ _ _
  | exact LeO.none _
  | refine LeO.ite ?_ ?_
  | refine LeO.bind ?_ (fun _ => ?_)
theorem interval_meet.mono : ∀ a0 a1 a2 a3 a4 a5 a6 a7 k, LeO (interval_meet.f k a0 a1 a2 a3 a4 a5 a6 a7) (interval_meet.f (k + 1) a0 a1 a2 a3 a4 a5 a6 a7) := by
 intro a0 a1 a2 a3 a4 a5 a6 a7 k
 obtain ⟨ih0, ih1, ih2⟩ := interval_meet.mono_l k
 unfold interval_meet.f
 repeat' first
   | (with_reducible exact ih0 _ _ _ _ _ _ _ _ _ _ _ _ _)
   | (with_reducible exact ih1 _ _ _ _ _ _ _ _ _ _ _ _)
   | (with_reducible exact ih2 _ _ _ _ _ _ _ _ _)
   | (with_reducible exact LeO.refl _)
   | (with_reducible exact LeO.none _)
   | (with_reducible refine LeO.ite ?_ ?_)
   | (with_reducible refine LeO.bind ?_ (fun _ => ?_))
   | exact ih0 _ _ _ _ _ _ _ _ _ _ _ _ _
   | exact ih1 _ _ _ _ _ _ _ _ _ _ _ _
   | exact ih2 _ _ _ _ _ _ _ _ _
   | exact LeO.none _
   | refine LeO.ite ?_ ?_
   | refine LeO.bind ?_ (fun _ => ?_)
def interval_meet.T3 : Bool × List (List Nat × List Nat) := (true, [([], []), ([0], [0]), ([], []), ([2], [2]), ([0, 1], []), ([4, 1, 0, 1], [1, 4]), ([0, 1, 2, 3, 4, 5], []), ([6, 3, 5, 0, 1, 2, 3, 4, 5], [3, 6])])
def interval_meet.B3 : List Nat := [0, 1, 0, 4, 3, 19, 63, 127]
theorem interval_meet.tab3 : rtab .any (opsOf Tryd.f97 3) = interval_meet.T3 := by kernel_rfl
theorem interval_meet.bits3 : waitsOk interval_meet.T3.2 interval_meet.B3 = true := by kernel_rfl
def interval_meet.T5 : Bool × List (List Nat × List Nat) := (true, [([], []), ([0], [0]), ([], []), ([2], [2]), ([0, 1], []), ([4, 1, 0, 1], [1, 4]), ([0, 1, 2, 3, 4, 5], []), ([6, 3, 5, 0, 1, 2, 3, 4, 5], [3, 6])])
def interval_meet.B5 : List Nat := [0, 1, 0, 4, 3, 19, 63, 127]
theorem interval_meet.tab5 : rtab .any (opsOf Tryd.f97 5) = interval_meet.T5 := by kernel_rfl
theorem interval_meet.bits5 : waitsOk interval_meet.T5.2 interval_meet.B5 = true := by kernel_rfl
set_option maxHeartbeats 8000000 in
set_option maxRecDepth 100000 in
theorem interval_meet.calls [EA] (k : Nat) (a0_0 : Bool) (a0_1 : Bool) (a0_2 : Int) (a0_3 : Int) (a1_0 : Bool) (a1_1 : Bool) (a1_2 : Int) (a1_3 : Int) (r1 : Bool) (r2 : Bool) (r3 : Int) (r4 : Int) (r5 : Bool) (w : World) (h : interval_meet.f k a0_0 a0_1 a0_2 a0_3 a1_0 a1_1 a1_2 a1_3 = some (r1, r2, r3, r4, r5)) :
  Calls Tryd.prog 97 #[.agg #[.bool a0_0, .bool a0_1, .int .i64 a0_2, .int .i64 a0_3], .agg #[.bool a1_0, .bool a1_1, .int .i64 a1_2, .int .i64 a1_3]] w fun e w' => e = .returned (.tuple #[.agg #[.bool r1, .bool r2, .int .i64 r3, .int .i64 r4], .bool r5]) ∧ Below w.heap.size w w' := by
 have hu49 := Tryd.underlying49
 have HB := am (Below.refl w.heap.size w)
 have H : (if a0_0 = true then (interval_meet.j0 k true a0_0 a0_1 a0_2 a0_3 a1_0 a1_1 a1_2 a1_3 a0_0 a0_1 a0_2 a0_3) else (if a1_0 = true then (interval_meet.j0 k false a0_0 a0_1 a0_2 a0_3 a1_0 a1_1 a1_2 a1_3 a0_0 a0_1 a0_2 a0_3) else (interval_meet.j0 k (decide (a1_2 > a0_2)) a0_0 a0_1 a0_2 a0_3 a1_0 a1_1 a1_2 a1_3 a0_0 a0_1 a0_2 a0_3))) = some (r1, r2, r3, r4, r5) := h
 clear h
 have HC3 := am H
 clear H
 go_enter Tryd.func97, Tryd.ntmps97
 go_upto_region 2 with (first | ((with_reducible refine gate_dst (N := 2) rfl ?_); refine box_event ?hg (N := 2) ?hd (cs := #[.bool a0_0, .bool a0_1, .int .i64 a0_2, .int .i64 a0_3]) (t := 49) ?hr ?_; (case hd => rfl); (case hg => rfl); (case hr => first | (go_simp; done) | (go_simp; rfl)); intro gb132 hg w4 hbox hb; have n0_ := am (below_step pw hb); have n1_ := am (hbox); have n2_ := am ((by rw [hg]; exact (below_size pw) : w.heap.size ≤ gb132)); have n3_ := am ((by rw [hg]; exact (below_size pw) : w.heap.size ≤ gb132)); clear HB; have HB := n0_; have BK132 := n1_; have GW132 := n2_; have GE132 := n3_; clear n0_ n1_ n2_ n3_; clear hb hbox hg) | ((with_reducible refine gate_dst (N := 3) rfl ?_); refine box_event ?hg (N := 3) ?hd (cs := #[.bool a1_0, .bool a1_1, .int .i64 a1_2, .int .i64 a1_3]) (t := 49) ?hr ?_; (case hd => rfl); (case hg => rfl); (case hr => first | (go_simp; done) | (go_simp; rfl)); intro gb133 hg w5 hbox hb; have n0_ := bb BK132 hb; have n1_ := am (below_step pw hb); have n2_ := am (hbox); have n3_ := am ((by rw [hg]; exact (below_size pw) : w.heap.size ≤ gb133)); have n4_ := am ((by rw [hg]; exact (below_size pw) : w.heap.size ≤ gb133)); have n5_ := am ((by rw [hg]; exact Nat.ne_of_lt (blk_lt pk) : gb132 ≠ gb133)); have n6_ := am ((by rw [hg]; exact Nat.ne_of_gt (blk_lt pk) : gb133 ≠ gb132)); clear BK132; clear HB; have BK132 := n0_; have HB := n1_; have BK133 := n2_; have GW133 := n3_; have GE133 := n4_; have NB132_133 := n5_; have NB133_132 := n6_; clear n0_ n1_ n2_ n3_ n4_ n5_ n6_; clear hb hbox hg) | ((with_reducible refine gate_dst (N := 4) rfl ?_); refine box_event ?hg (N := 4) ?hd (cs := #[.bool false, .bool false, .int .i64 0, .int .i64 0]) (t := 49) ?hr ?_; (case hd => rfl); (case hg => rfl); (case hr => first | (go_simp; done) | (go_simp; rfl)); intro gb134 hg w6 hbox hb; have n0_ := bb BK132 hb; have n1_ := bb BK133 hb; have n2_ := am (below_step pw hb); have n3_ := am (hbox); have n4_ := am ((by rw [hg]; exact (below_size pw) : w.heap.size ≤ gb134)); have n5_ := am ((by rw [hg]; exact (below_size pw) : w.heap.size ≤ gb134)); have n6_ := am ((by rw [hg]; exact Nat.ne_of_lt (blk_lt pk) : gb132 ≠ gb134)); have n7_ := am ((by rw [hg]; exact Nat.ne_of_gt (blk_lt pk) : gb134 ≠ gb132)); have n8_ := am ((by rw [hg]; exact Nat.ne_of_lt (blk_lt pk) : gb133 ≠ gb134)); have n9_ := am ((by rw [hg]; exact Nat.ne_of_gt (blk_lt pk) : gb134 ≠ gb133)); clear BK132; clear BK133; clear HB; have BK132 := n0_; have BK133 := n1_; have HB := n2_; have BK134 := n3_; have GW134 := n4_; have GE134 := n5_; have NB132_134 := n6_; have NB134_132 := n7_; have NB133_134 := n8_; have NB134_133 := n9_; clear n0_ n1_ n2_ n3_ n4_ n5_ n6_ n7_ n8_ n9_; clear hb hbox hg; have hnb7 := NB132_133.out; have hnc7 := NB133_132.out; have hnb8 := NB132_134.out; have hnc8 := NB134_132.out; have hcz9_0 : w6.cell? ⟨gb132, 0, none⟩ = some (.bool a0_0) := bc BK132 0; have hcz9_1 : w6.cell? ⟨gb132, 1, none⟩ = some (.bool a0_1) := bc BK132 1; have hcz9_2 : w6.cell? ⟨gb132, 2, none⟩ = some (.int .i64 a0_2) := bc BK132 2; have hcz9_3 : w6.cell? ⟨gb132, 3, none⟩ = some (.int .i64 a0_3) := bc BK132 3; have hfz9_0 := blk_frozen BK132.out 0; have hfz9_1 := blk_frozen BK132.out 1; have hfz9_2 := blk_frozen BK132.out 2; have hfz9_3 := blk_frozen BK132.out 3) | ((with_reducible refine gate_dst (N := 6) rfl ?_); refine box_event ?hg (N := 6) ?hd (cs := #[.bool false, .bool false, .int .i64 0, .int .i64 0]) (t := 49) ?hr ?_; (case hd => rfl); (case hg => rfl); (case hr => first | (go_simp; done) | (go_simp; rfl)); intro gb135 hg w10 hbox hb; have n0_ := bb BK132 hb; have n1_ := bb BK133 hb; have n2_ := bb BK134 hb; have n3_ := am (below_step pw hb); have n4_ := am (hbox); have n5_ := am ((by rw [hg]; exact (below_size pw) : w.heap.size ≤ gb135)); have n6_ := am ((by rw [hg]; exact (below_size pw) : w.heap.size ≤ gb135)); have n7_ := am ((by rw [hg]; exact Nat.ne_of_lt (blk_lt pk) : gb132 ≠ gb135)); have n8_ := am ((by rw [hg]; exact Nat.ne_of_gt (blk_lt pk) : gb135 ≠ gb132)); have n9_ := am ((by rw [hg]; exact Nat.ne_of_lt (blk_lt pk) : gb133 ≠ gb135)); have n10_ := am ((by rw [hg]; exact Nat.ne_of_gt (blk_lt pk) : gb135 ≠ gb133)); have n11_ := am ((by rw [hg]; exact Nat.ne_of_lt (blk_lt pk) : gb134 ≠ gb135)); have n12_ := am ((by rw [hg]; exact Nat.ne_of_gt (blk_lt pk) : gb135 ≠ gb134)); clear BK132; clear BK133; clear BK134; clear HB; have BK132 := n0_; have BK133 := n1_; have BK134 := n2_; have HB := n3_; have BK135 := n4_; have GW135 := n5_; have GE135 := n6_; have NB132_135 := n7_; have NB135_132 := n8_; have NB133_135 := n9_; have NB135_133 := n10_; have NB134_135 := n11_; have NB135_134 := n12_; clear n0_ n1_ n2_ n3_ n4_ n5_ n6_ n7_ n8_ n9_ n10_ n11_ n12_; clear hb hbox hg; have hnb11 := NB135_132.out; have hnc11 := NB132_135.out; have hnb12 := NB135_133.out; have hnc12 := NB133_135.out; have hnb13 := NB135_134.out; have hnc13 := NB134_135.out; have hcz14_0 : w10.cell? ⟨gb135, 0, none⟩ = some (.bool false) := bc BK135 0; have hcz14_1 : w10.cell? ⟨gb135, 1, none⟩ = some (.bool false) := bc BK135 1; have hcz14_2 : w10.cell? ⟨gb135, 2, none⟩ = some (.int .i64 0) := bc BK135 2; have hcz14_3 : w10.cell? ⟨gb135, 3, none⟩ = some (.int .i64 0) := bc BK135 3; have hfz14_0 := blk_frozen BK135.out 0; have hfz14_1 := blk_frozen BK135.out 1; have hfz14_2 := blk_frozen BK135.out 2; have hfz14_3 := blk_frozen BK135.out 3))
 (try simp only [Act.put, List.setIfInBounds_toArray, List.set_cons_zero, List.set_cons_succ])
 go_cut [21] (fun v21 wc => ∃ (kq : Nat) (x21_2 : Bool), v21 = .bool x21_2 ∧ Aside0 (interval_meet.j0 kq x21_2 a0_0 a0_1 a0_2 a0_3 a1_0 a1_1 a1_2 a1_3 a0_0 a0_1 a0_2 a0_3 = some (r1, r2, r3, r4, r5)) ∧ Aside0 (kq ≤ k) ∧ Aside0 (wc.heap[gb132]? = some (.cells #[.bool a0_0, .bool a0_1, .int .i64 a0_2, .int .i64 a0_3] 49 (0, 0))) ∧ Aside0 (wc.heap[gb133]? = some (.cells #[.bool a1_0, .bool a1_1, .int .i64 a1_2, .int .i64 a1_3] 49 (0, 0))) ∧ Aside0 (wc.heap[gb134]? = some (.cells #[.bool false, .bool false, .int .i64 0, .int .i64 0] 49 (0, 0))) ∧ Aside0 (wc.heap[gb135]? = some (.cells #[.bool a0_0, .bool a0_1, .int .i64 a0_2, .int .i64 a0_3] 49 (0, 0))) ∧ Aside0 (Below w.heap.size w wc))
 case first =>
  have H := HC3.out
  clear HC3
  by_cases c15 : a0_0 = true
  ·subst c15
   have H1 : (interval_meet.j0 k true true a0_1 a0_2 a0_3 a1_0 a1_1 a1_2 a1_3 true a0_1 a0_2 a0_3) = some (r1, r2, r3, r4, r5) := by rw [if_pos rfl] at H; exact H
   clear H
   have H := H1
   clear H1
   have H' := am H
   clear H
   have hnb16 := NB132_133.out
   have hnc16 := NB133_132.out
   have hnb17 := NB132_134.out
   have hnc17 := NB134_132.out
   have hnb18 := NB132_135.out
   have hnc18 := NB135_132.out
   have hcz19_0 : w10.cell? ⟨gb132, 0, none⟩ = some (.bool true) := bc BK132 0
   have hcz19_1 : w10.cell? ⟨gb132, 1, none⟩ = some (.bool a0_1) := bc BK132 1
   have hcz19_2 : w10.cell? ⟨gb132, 2, none⟩ = some (.int .i64 a0_2) := bc BK132 2
   have hcz19_3 : w10.cell? ⟨gb132, 3, none⟩ = some (.int .i64 a0_3) := bc BK132 3
   have hfz19_0 := blk_frozen BK132.out 0
   have hfz19_1 := blk_frozen BK132.out 1
   have hfz19_2 := blk_frozen BK132.out 2
   have hfz19_3 := blk_frozen BK132.out 3
   go_wp2
   go_meet
   case rel => exact ⟨_, (true), pr, H', ⟨by first | omega | exact Nat.le_refl _⟩, ⟨by (with_reducible repeat (first | refine blk_drewN ?_ _ | refine blk_drew ?_ | refine blk_alloc ?_ _)); refine blk_far ?_ NB132_135.out _; (with_reducible repeat (first | refine blk_drewN ?_ _ | refine blk_drew ?_ | refine blk_alloc ?_ _)); refine blk_far ?_ NB132_135.out _; (with_reducible repeat (first | refine blk_drewN ?_ _ | refine blk_drew ?_ | refine blk_alloc ?_ _)); refine blk_far ?_ NB132_135.out _; (with_reducible repeat (first | refine blk_drewN ?_ _ | refine blk_drew ?_ | refine blk_alloc ?_ _)); refine blk_far ?_ NB132_135.out _; (with_reducible repeat (first | refine blk_drewN ?_ _ | refine blk_drew ?_ | refine blk_alloc ?_ _)); exact BK132.out⟩, ⟨by (with_reducible repeat (first | refine blk_drewN ?_ _ | refine blk_drew ?_ | refine blk_alloc ?_ _)); refine blk_far ?_ NB133_135.out _; (with_reducible repeat (first | refine blk_drewN ?_ _ | refine blk_drew ?_ | refine blk_alloc ?_ _)); refine blk_far ?_ NB133_135.out _; (with_reducible repeat (first | refine blk_drewN ?_ _ | refine blk_drew ?_ | refine blk_alloc ?_ _)); refine blk_far ?_ NB133_135.out _; (with_reducible repeat (first | refine blk_drewN ?_ _ | refine blk_drew ?_ | refine blk_alloc ?_ _)); refine blk_far ?_ NB133_135.out _; (with_reducible repeat (first | refine blk_drewN ?_ _ | refine blk_drew ?_ | refine blk_alloc ?_ _)); exact BK133.out⟩, ⟨by (with_reducible repeat (first | refine blk_drewN ?_ _ | refine blk_drew ?_ | refine blk_alloc ?_ _)); refine blk_far ?_ NB134_135.out _; (with_reducible repeat (first | refine blk_drewN ?_ _ | refine blk_drew ?_ | refine blk_alloc ?_ _)); refine blk_far ?_ NB134_135.out _; (with_reducible repeat (first | refine blk_drewN ?_ _ | refine blk_drew ?_ | refine blk_alloc ?_ _)); refine blk_far ?_ NB134_135.out _; (with_reducible repeat (first | refine blk_drewN ?_ _ | refine blk_drew ?_ | refine blk_alloc ?_ _)); refine blk_far ?_ NB134_135.out _; (with_reducible repeat (first | refine blk_drewN ?_ _ | refine blk_drew ?_ | refine blk_alloc ?_ _)); exact BK134.out⟩, ⟨by (with_reducible repeat (first | refine blk_drewN ?_ _ | refine blk_drew ?_ | refine blk_alloc ?_ _)); refine blk_put (cs := #[.bool true, .bool a0_1, .int .i64 a0_2, .int .i64 0]) ?_ 3 _ rfl; (with_reducible repeat (first | refine blk_drewN ?_ _ | refine blk_drew ?_ | refine blk_alloc ?_ _)); refine blk_put (cs := #[.bool true, .bool a0_1, .int .i64 0, .int .i64 0]) ?_ 2 _ rfl; (with_reducible repeat (first | refine blk_drewN ?_ _ | refine blk_drew ?_ | refine blk_alloc ?_ _)); refine blk_put (cs := #[.bool true, .bool false, .int .i64 0, .int .i64 0]) ?_ 1 _ rfl; (with_reducible repeat (first | refine blk_drewN ?_ _ | refine blk_drew ?_ | refine blk_alloc ?_ _)); refine blk_put (cs := #[.bool false, .bool false, .int .i64 0, .int .i64 0]) ?_ 0 _ rfl; (with_reducible repeat (first | refine blk_drewN ?_ _ | refine blk_drew ?_ | refine blk_alloc ?_ _)); exact BK135.out⟩, ⟨pw⟩⟩
  replace c15 := Bool.eq_false_iff.mpr c15
  subst c15
  have H1 : (if a1_0 = true then (interval_meet.j0 k false false a0_1 a0_2 a0_3 a1_0 a1_1 a1_2 a1_3 false a0_1 a0_2 a0_3) else (interval_meet.j0 k (decide (a1_2 > a0_2)) false a0_1 a0_2 a0_3 a1_0 a1_1 a1_2 a1_3 false a0_1 a0_2 a0_3)) = some (r1, r2, r3, r4, r5) := by rw [if_neg (show ¬ (false = true) by decide)] at H; exact H
  clear H
  have H := H1
  clear H1
  by_cases c20 : a1_0 = true
  ·subst c20
   have H1 : (interval_meet.j0 k false false a0_1 a0_2 a0_3 true a1_1 a1_2 a1_3 false a0_1 a0_2 a0_3) = some (r1, r2, r3, r4, r5) := by rw [if_pos rfl] at H; exact H
   clear H
   have H := H1
   clear H1
   have H' := am H
   clear H
   have hnb21 := NB132_133.out
   have hnc21 := NB133_132.out
   have hnb22 := NB132_134.out
   have hnc22 := NB134_132.out
   have hnb23 := NB132_135.out
   have hnc23 := NB135_132.out
   have hcz24_0 : w10.cell? ⟨gb132, 0, none⟩ = some (.bool false) := bc BK132 0
   have hcz24_1 : w10.cell? ⟨gb132, 1, none⟩ = some (.bool a0_1) := bc BK132 1
   have hcz24_2 : w10.cell? ⟨gb132, 2, none⟩ = some (.int .i64 a0_2) := bc BK132 2
   have hcz24_3 : w10.cell? ⟨gb132, 3, none⟩ = some (.int .i64 a0_3) := bc BK132 3
   have hfz24_0 := blk_frozen BK132.out 0
   have hfz24_1 := blk_frozen BK132.out 1
   have hfz24_2 := blk_frozen BK132.out 2
   have hfz24_3 := blk_frozen BK132.out 3
   have hnb25 := NB133_134.out
   have hnc25 := NB134_133.out
   have hnb26 := NB133_135.out
   have hnc26 := NB135_133.out
   have hcz27_0 : w10.cell? ⟨gb133, 0, none⟩ = some (.bool true) := bc BK133 0
   have hcz27_1 : w10.cell? ⟨gb133, 1, none⟩ = some (.bool a1_1) := bc BK133 1
   have hcz27_2 : w10.cell? ⟨gb133, 2, none⟩ = some (.int .i64 a1_2) := bc BK133 2
   have hcz27_3 : w10.cell? ⟨gb133, 3, none⟩ = some (.int .i64 a1_3) := bc BK133 3
   have hfz27_0 := blk_frozen BK133.out 0
   have hfz27_1 := blk_frozen BK133.out 1
   have hfz27_2 := blk_frozen BK133.out 2
   have hfz27_3 := blk_frozen BK133.out 3
   go_wp2
   go_meet
   case rel => exact ⟨_, (false), pr, H', ⟨by first | omega | exact Nat.le_refl _⟩, ⟨by (with_reducible repeat (first | refine blk_drewN ?_ _ | refine blk_drew ?_ | refine blk_alloc ?_ _)); refine blk_far ?_ NB132_135.out _; (with_reducible repeat (first | refine blk_drewN ?_ _ | refine blk_drew ?_ | refine blk_alloc ?_ _)); refine blk_far ?_ NB132_135.out _; (with_reducible repeat (first | refine blk_drewN ?_ _ | refine blk_drew ?_ | refine blk_alloc ?_ _)); refine blk_far ?_ NB132_135.out _; (with_reducible repeat (first | refine blk_drewN ?_ _ | refine blk_drew ?_ | refine blk_alloc ?_ _)); refine blk_far ?_ NB132_135.out _; (with_reducible repeat (first | refine blk_drewN ?_ _ | refine blk_drew ?_ | refine blk_alloc ?_ _)); exact BK132.out⟩, ⟨by (with_reducible repeat (first | refine blk_drewN ?_ _ | refine blk_drew ?_ | refine blk_alloc ?_ _)); refine blk_far ?_ NB133_135.out _; (with_reducible repeat (first | refine blk_drewN ?_ _ | refine blk_drew ?_ | refine blk_alloc ?_ _)); refine blk_far ?_ NB133_135.out _; (with_reducible repeat (first | refine blk_drewN ?_ _ | refine blk_drew ?_ | refine blk_alloc ?_ _)); refine blk_far ?_ NB133_135.out _; (with_reducible repeat (first | refine blk_drewN ?_ _ | refine blk_drew ?_ | refine blk_alloc ?_ _)); refine blk_far ?_ NB133_135.out _; (with_reducible repeat (first | refine blk_drewN ?_ _ | refine blk_drew ?_ | refine blk_alloc ?_ _)); exact BK133.out⟩, ⟨by (with_reducible repeat (first | refine blk_drewN ?_ _ | refine blk_drew ?_ | refine blk_alloc ?_ _)); refine blk_far ?_ NB134_135.out _; (with_reducible repeat (first | refine blk_drewN ?_ _ | refine blk_drew ?_ | refine blk_alloc ?_ _)); refine blk_far ?_ NB134_135.out _; (with_reducible repeat (first | refine blk_drewN ?_ _ | refine blk_drew ?_ | refine blk_alloc ?_ _)); refine blk_far ?_ NB134_135.out _; (with_reducible repeat (first | refine blk_drewN ?_ _ | refine blk_drew ?_ | refine blk_alloc ?_ _)); refine blk_far ?_ NB134_135.out _; (with_reducible repeat (first | refine blk_drewN ?_ _ | refine blk_drew ?_ | refine blk_alloc ?_ _)); exact BK134.out⟩, ⟨by (with_reducible repeat (first | refine blk_drewN ?_ _ | refine blk_drew ?_ | refine blk_alloc ?_ _)); refine blk_put (cs := #[.bool false, .bool a0_1, .int .i64 a0_2, .int .i64 0]) ?_ 3 _ rfl; (with_reducible repeat (first | refine blk_drewN ?_ _ | refine blk_drew ?_ | refine blk_alloc ?_ _)); refine blk_put (cs := #[.bool false, .bool a0_1, .int .i64 0, .int .i64 0]) ?_ 2 _ rfl; (with_reducible repeat (first | refine blk_drewN ?_ _ | refine blk_drew ?_ | refine blk_alloc ?_ _)); refine blk_put (cs := #[.bool false, .bool false, .int .i64 0, .int .i64 0]) ?_ 1 _ rfl; (with_reducible repeat (first | refine blk_drewN ?_ _ | refine blk_drew ?_ | refine blk_alloc ?_ _)); refine blk_put (cs := #[.bool false, .bool false, .int .i64 0, .int .i64 0]) ?_ 0 _ rfl; (with_reducible repeat (first | refine blk_drewN ?_ _ | refine blk_drew ?_ | refine blk_alloc ?_ _)); exact BK135.out⟩, ⟨pw⟩⟩
  replace c20 := Bool.eq_false_iff.mpr c20
  subst c20
  have H1 : (interval_meet.j0 k (decide (a1_2 > a0_2)) false a0_1 a0_2 a0_3 false a1_1 a1_2 a1_3 false a0_1 a0_2 a0_3) = some (r1, r2, r3, r4, r5) := by rw [if_neg (show ¬ (false = true) by decide)] at H; exact H
  clear H
  have H := H1
  clear H1
  have H' := am H
  clear H
  have hnb28 := NB132_133.out
  have hnc28 := NB133_132.out
  have hnb29 := NB132_134.out
  have hnc29 := NB134_132.out
  have hnb30 := NB132_135.out
  have hnc30 := NB135_132.out
  have hcz31_0 : w10.cell? ⟨gb132, 0, none⟩ = some (.bool false) := bc BK132 0
  have hcz31_1 : w10.cell? ⟨gb132, 1, none⟩ = some (.bool a0_1) := bc BK132 1
  have hcz31_2 : w10.cell? ⟨gb132, 2, none⟩ = some (.int .i64 a0_2) := bc BK132 2
  have hcz31_3 : w10.cell? ⟨gb132, 3, none⟩ = some (.int .i64 a0_3) := bc BK132 3
  have hfz31_0 := blk_frozen BK132.out 0
  have hfz31_1 := blk_frozen BK132.out 1
  have hfz31_2 := blk_frozen BK132.out 2
  have hfz31_3 := blk_frozen BK132.out 3
  have hnb32 := NB133_134.out
  have hnc32 := NB134_133.out
  have hnb33 := NB133_135.out
  have hnc33 := NB135_133.out
  have hcz34_0 : w10.cell? ⟨gb133, 0, none⟩ = some (.bool false) := bc BK133 0
  have hcz34_1 : w10.cell? ⟨gb133, 1, none⟩ = some (.bool a1_1) := bc BK133 1
  have hcz34_2 : w10.cell? ⟨gb133, 2, none⟩ = some (.int .i64 a1_2) := bc BK133 2
  have hcz34_3 : w10.cell? ⟨gb133, 3, none⟩ = some (.int .i64 a1_3) := bc BK133 3
  have hfz34_0 := blk_frozen BK133.out 0
  have hfz34_1 := blk_frozen BK133.out 1
  have hfz34_2 := blk_frozen BK133.out 2
  have hfz34_3 := blk_frozen BK133.out 3
  go_wp2
  go_meet
  case rel => exact ⟨_, (decide (a1_2 > a0_2)), pr, H', ⟨by first | omega | exact Nat.le_refl _⟩, ⟨by (with_reducible repeat (first | refine blk_drewN ?_ _ | refine blk_drew ?_ | refine blk_alloc ?_ _)); refine blk_far ?_ NB132_135.out _; (with_reducible repeat (first | refine blk_drewN ?_ _ | refine blk_drew ?_ | refine blk_alloc ?_ _)); refine blk_far ?_ NB132_135.out _; (with_reducible repeat (first | refine blk_drewN ?_ _ | refine blk_drew ?_ | refine blk_alloc ?_ _)); refine blk_far ?_ NB132_135.out _; (with_reducible repeat (first | refine blk_drewN ?_ _ | refine blk_drew ?_ | refine blk_alloc ?_ _)); refine blk_far ?_ NB132_135.out _; (with_reducible repeat (first | refine blk_drewN ?_ _ | refine blk_drew ?_ | refine blk_alloc ?_ _)); exact BK132.out⟩, ⟨by (with_reducible repeat (first | refine blk_drewN ?_ _ | refine blk_drew ?_ | refine blk_alloc ?_ _)); refine blk_far ?_ NB133_135.out _; (with_reducible repeat (first | refine blk_drewN ?_ _ | refine blk_drew ?_ | refine blk_alloc ?_ _)); refine blk_far ?_ NB133_135.out _; (with_reducible repeat (first | refine blk_drewN ?_ _ | refine blk_drew ?_ | refine blk_alloc ?_ _)); refine blk_far ?_ NB133_135.out _; (with_reducible repeat (first | refine blk_drewN ?_ _ | refine blk_drew ?_ | refine blk_alloc ?_ _)); refine blk_far ?_ NB133_135.out _; (with_reducible repeat (first | refine blk_drewN ?_ _ | refine blk_drew ?_ | refine blk_alloc ?_ _)); exact BK133.out⟩, ⟨by (with_reducible repeat (first | refine blk_drewN ?_ _ | refine blk_drew ?_ | refine blk_alloc ?_ _)); refine blk_far ?_ NB134_135.out _; (with_reducible repeat (first | refine blk_drewN ?_ _ | refine blk_drew ?_ | refine blk_alloc ?_ _)); refine blk_far ?_ NB134_135.out _; (with_reducible repeat (first | refine blk_drewN ?_ _ | refine blk_drew ?_ | refine blk_alloc ?_ _)); refine blk_far ?_ NB134_135.out _; (with_reducible repeat (first | refine blk_drewN ?_ _ | refine blk_drew ?_ | refine blk_alloc ?_ _)); refine blk_far ?_ NB134_135.out _; (with_reducible repeat (first | refine blk_drewN ?_ _ | refine blk_drew ?_ | refine blk_alloc ?_ _)); exact BK134.out⟩, ⟨by (with_reducible repeat (first | refine blk_drewN ?_ _ | refine blk_drew ?_ | refine blk_alloc ?_ _)); refine blk_put (cs := #[.bool false, .bool a0_1, .int .i64 a0_2, .int .i64 0]) ?_ 3 _ rfl; (with_reducible repeat (first | refine blk_drewN ?_ _ | refine blk_drew ?_ | refine blk_alloc ?_ _)); refine blk_put (cs := #[.bool false, .bool a0_1, .int .i64 0, .int .i64 0]) ?_ 2 _ rfl; (with_reducible repeat (first | refine blk_drewN ?_ _ | refine blk_drew ?_ | refine blk_alloc ?_ _)); refine blk_put (cs := #[.bool false, .bool false, .int .i64 0, .int .i64 0]) ?_ 1 _ rfl; (with_reducible repeat (first | refine blk_drewN ?_ _ | refine blk_drew ?_ | refine blk_alloc ?_ _)); refine blk_put (cs := #[.bool false, .bool false, .int .i64 0, .int .i64 0]) ?_ 0 _ rfl; (with_reducible repeat (first | refine blk_drewN ?_ _ | refine blk_drew ?_ | refine blk_alloc ?_ _)); exact BK135.out⟩, ⟨pw⟩⟩
 clear HC3
 try clear c1
 try clear c2
 try clear p2
 try clear c3
 try clear c7
 try clear c8
 try clear c9
 try clear c11
 try clear c12
 try clear c13
 try clear c15
 try clear c16
 try clear c17
 try clear c18
 try clear c20
 try clear c21
 try clear c22
 try clear c23
 try clear c25
 try clear c26
 try clear c28
 try clear c29
 try clear c30
 try clear c32
 try clear c33
 try clear hcz14_0
 try clear hcz14_1
 try clear hcz14_2
 try clear hcz14_3
 try clear hcz19_0
 try clear hcz19_1
 try clear hcz19_2
 try clear hcz19_3
 try clear hcz24_0
 try clear hcz24_1
 try clear hcz24_2
 try clear hcz24_3
 try clear hcz27_0
 try clear hcz27_1
 try clear hcz27_2
 try clear hcz27_3
 try clear hcz31_0
 try clear hcz31_1
 try clear hcz31_2
 try clear hcz31_3
 try clear hcz34_0
 try clear hcz34_1
 try clear hcz34_2
 try clear hcz34_3
 try clear hcz9_0
 try clear hcz9_1
 try clear hcz9_2
 try clear hcz9_3
 try clear hfz14_0
 try clear hfz14_1
 try clear hfz14_2
 try clear hfz14_3
 try clear hfz19_0
 try clear hfz19_1
 try clear hfz19_2
 try clear hfz19_3
 try clear hfz24_0
 try clear hfz24_1
 try clear hfz24_2
 try clear hfz24_3
 try clear hfz27_0
 try clear hfz27_1
 try clear hfz27_2
 try clear hfz27_3
 try clear hfz31_0
 try clear hfz31_1
 try clear hfz31_2
 try clear hfz31_3
 try clear hfz34_0
 try clear hfz34_1
 try clear hfz34_2
 try clear hfz34_3
 try clear hfz9_0
 try clear hfz9_1
 try clear hfz9_2
 try clear hfz9_3
 obtain ⟨kq, x21_2, rfl, HA, HJ2, BK132, BK133, BK134, BK135, HB⟩ := hcut
 cases kq with
 | zero => exact absurd HA.out (by simp [interval_meet.j0])
 | succ kj2 =>
  have H := HA.out
  clear HA
  simp only [interval_meet.j0] at H
  have HC35 := am H
  clear H
  go_upto_if 21 with (fail)
  go_cut [] (fun wc => ∃ (kq : Nat) (x136000_34 : Bool) (x136002_34 : Int), Aside0 (interval_meet.j1 kq a0_0 a0_1 a0_2 a0_3 a1_0 a1_1 a1_2 a1_3 x136000_34 a0_1 x136002_34 a0_3 = some (r1, r2, r3, r4, r5)) ∧ Aside0 (kq ≤ kj2) ∧ Aside0 (wc.heap[gb132]? = some (.cells #[.bool a0_0, .bool a0_1, .int .i64 a0_2, .int .i64 a0_3] 49 (0, 0))) ∧ Aside0 (wc.heap[gb133]? = some (.cells #[.bool a1_0, .bool a1_1, .int .i64 a1_2, .int .i64 a1_3] 49 (0, 0))) ∧ Aside0 (wc.heap[gb134]? = some (.cells #[.bool false, .bool false, .int .i64 0, .int .i64 0] 49 (0, 0))) ∧ Aside0 (wc.heap[gb135]? = some (.cells #[.bool x136000_34, .bool a0_1, .int .i64 x136002_34, .int .i64 a0_3] 49 (0, 0))) ∧ Aside0 (Below w.heap.size w wc))
  case first =>
   have H := HC35.out
   clear HC35
   by_cases c36 : x21_2 = true
   ·subst c36
    have H1 : (interval_meet.j1 kj2 a0_0 a0_1 a0_2 a0_3 a1_0 a1_1 a1_2 a1_3 a1_0 a0_1 a1_2 a0_3) = some (r1, r2, r3, r4, r5) := by rw [if_pos rfl] at H; exact H
    clear H
    have H := H1
    clear H1
    have H' := am H
    clear H
    try go_wp2
    have n0_ := am (blk_drew BK132.out)
    have n1_ := am (blk_drew BK133.out)
    have n2_ := am (blk_drew BK134.out)
    have n3_ := am (blk_drew BK135.out)
    have n4_ := am (below_drew1 HB.out)
    clear BK132 BK133 BK134 BK135 HB
    revert n0_ n1_ n2_ n3_ n4_
    intro BK132 BK133 BK134 BK135 HB
    refine start_ (n := 8) (S := fun w' => w'.cell? ⟨gb133, 0, none⟩ = some (.bool a1_0) ∧ w'.cell? ⟨gb133, 1, none⟩ = some (.bool a1_1) ∧ w'.cell? ⟨gb133, 2, none⟩ = some (.int .i64 a1_2) ∧ w'.cell? ⟨gb133, 3, none⟩ = some (.int .i64 a1_3)) (ds := []) #[false, false, false, false, false, false, false, false] kk rfl rfl ⟨bc BK133 0, bc BK133 1, bc BK133 2, bc BK133 3⟩ (fun hHeld => ?_); refine with_tabW interval_meet.tab3 interval_meet.bits3 (fun HT_ HW_ => ?_)
    generalize wc.drew = w37 at BK132 BK133 BK134 BK135 HB hHeld ⊢
    refine pure_ (i := 0) (N := some 22) (v := ?_) (a' := ?_) #[true, false, false, false, false, false, false, false] rfl rfl (any_of HT_.out kk) (fun _ _ _ h => h) (Or.inl ⟨by rfl, ?_⟩) ?_ ?_
    rotate_left
    ·intro w'
     go_simp
     with_reducible rfl
    rotate_left
    ·simp only [Act.put, List.setIfInBounds_toArray, List.set_cons_zero, List.set_cons_succ, i64_w, i32_w]
     rfl
    refine pure_ (i := 2) (N := some 24) (v := ?_) (a' := ?_) #[true, false, true, false, false, false, false, false] rfl rfl (any_of HT_.out kk) (fun _ _ _ h => h) (Or.inl ⟨by rfl, ?_⟩) ?_ ?_
    rotate_left
    ·intro w'
     go_simp
     with_reducible rfl
    rotate_left
    ·simp only [Act.put, List.setIfInBounds_toArray, List.set_cons_zero, List.set_cons_succ, i64_w, i32_w]
     rfl
    refine take_ (i := 1) (N := some 23) (v := ?_) (a' := ?_) #[true, true, true, false, false, false, false, false] rfl rfl (take_ofW HT_.out HW_.out kk) (fun _ _ _ h => h) (Or.inl ⟨by rfl, ?_⟩) hHeld ?_ ?_
    rotate_left
    ·rintro w' ⟨s0, s1, s2, s3⟩
     go_simp
     with_reducible rfl
    rotate_left
    ·simp only [Act.put, List.setIfInBounds_toArray, List.set_cons_zero, List.set_cons_succ, i64_w, i32_w]
     rfl
    refine pure_ (i := 4) (N := some 26) (v := ?_) (a' := ?_) #[true, true, true, false, true, false, false, false] rfl rfl (any_of HT_.out kk) (fun _ _ _ h => h) (Or.inl ⟨by rfl, ?_⟩) ?_ ?_
    rotate_left
    ·intro w'
     go_simp
     with_reducible rfl
    rotate_left
    ·simp only [Act.put, List.setIfInBounds_toArray, List.set_cons_zero, List.set_cons_succ, i64_w, i32_w]
     rfl
    refine take_ (i := 3) (N := some 25) (v := ?_) (a' := ?_) #[true, true, true, true, true, false, false, false] rfl rfl (take_ofW HT_.out HW_.out kk) (fun _ _ _ h => h) (Or.inl ⟨by rfl, ?_⟩) hHeld ?_ ?_
    rotate_left
    ·rintro w' ⟨s0, s1, s2, s3⟩
     go_simp
     with_reducible rfl
    rotate_left
    ·simp only [Act.put, List.setIfInBounds_toArray, List.set_cons_zero, List.set_cons_succ, i64_w, i32_w]
     rfl
    refine one_ (i := 5) (N := none) #[true, true, true, true, true, true, false, false] rfl rfl (one_of HT_.out kk) (by decide) (fun K hK => ?_)
    have hs38 : w37.cell? ⟨gb135, 0, none⟩ = some (.bool a0_0) := bc BK135 0
    have hfs38 := blk_frozen BK135.out 0
    have hns38_0 := NB132_135.out
    have hns38_1 := NB133_135.out
    have hns38_2 := NB134_135.out
    have hms38_0 := NB135_132.out
    have hms38_1 := NB135_133.out
    have hms38_2 := NB135_134.out
    refine skip_ (w1 := ?_) (by rfl) rfl ?_ ?_
    rotate_left
    ·go_simp
     rfl
    refine hK.out _ _ ⟨((cell_far (p := ⟨gb135, _, none⟩) NB133_135.out _).trans (hHeld.1)), ((cell_far (p := ⟨gb135, _, none⟩) NB133_135.out _).trans (hHeld.2.1)), ((cell_far (p := ⟨gb135, _, none⟩) NB133_135.out _).trans (hHeld.2.2.1)), ((cell_far (p := ⟨gb135, _, none⟩) NB133_135.out _).trans (hHeld.2.2.2))⟩ (fun hHeld => ?_)
    clear hK K
    refine pure_ (i := 6) (N := some 27) (v := ?_) (a' := ?_) #[true, true, true, true, true, true, true, false] rfl rfl (any_of HT_.out kk) (fun _ _ _ h => h) (Or.inl ⟨by rfl, ?_⟩) ?_ ?_
    rotate_left
    ·intro w'
     go_simp
     with_reducible rfl
    rotate_left
    ·simp only [Act.put, List.setIfInBounds_toArray, List.set_cons_zero, List.set_cons_succ, i64_w, i32_w]
     rfl
    refine one_ (i := 7) (N := none) #[true, true, true, true, true, true, true, true] rfl rfl (one_of HT_.out kk) (by decide) (fun K hK => ?_)
    have hs39 : w37.cell? ⟨gb135, 2, none⟩ = some (.int .i64 a0_2) := bc BK135 2
    have hfs39 := blk_frozen BK135.out 2
    have hns39_0 := NB132_135.out
    have hns39_1 := NB133_135.out
    have hns39_2 := NB134_135.out
    have hms39_0 := NB135_132.out
    have hms39_1 := NB135_133.out
    have hms39_2 := NB135_134.out
    refine skip_ (w1 := ?_) (by rfl) rfl ?_ ?_
    rotate_left
    ·go_simp
     rfl
    refine hK.out _ _ ⟨((cell_far (p := ⟨gb135, _, none⟩) NB133_135.out _).trans (hHeld.1)), ((cell_far (p := ⟨gb135, _, none⟩) NB133_135.out _).trans (hHeld.2.1)), ((cell_far (p := ⟨gb135, _, none⟩) NB133_135.out _).trans (hHeld.2.2.1)), ((cell_far (p := ⟨gb135, _, none⟩) NB133_135.out _).trans (hHeld.2.2.2))⟩ (fun hHeld => ?_)
    clear hK K
    refine done_ (done_of HT_.out kk) ?_
    (try simp only [errW_none, errW_some])
    try go_wp2
    go_meet
    case rel => exact ⟨_, (a1_0), (a1_2), H', ⟨by have := HJ2.out; first | omega | exact Nat.le_refl _⟩, ⟨by (with_reducible repeat (first | refine blk_drewN ?_ _ | refine blk_drew ?_ | refine blk_alloc ?_ _)); refine blk_far ?_ NB132_135.out _; (with_reducible repeat (first | refine blk_drewN ?_ _ | refine blk_drew ?_ | refine blk_alloc ?_ _)); refine blk_far ?_ NB132_135.out _; (with_reducible repeat (first | refine blk_drewN ?_ _ | refine blk_drew ?_ | refine blk_alloc ?_ _)); exact BK132.out⟩, ⟨by (with_reducible repeat (first | refine blk_drewN ?_ _ | refine blk_drew ?_ | refine blk_alloc ?_ _)); refine blk_far ?_ NB133_135.out _; (with_reducible repeat (first | refine blk_drewN ?_ _ | refine blk_drew ?_ | refine blk_alloc ?_ _)); refine blk_far ?_ NB133_135.out _; (with_reducible repeat (first | refine blk_drewN ?_ _ | refine blk_drew ?_ | refine blk_alloc ?_ _)); exact BK133.out⟩, ⟨by (with_reducible repeat (first | refine blk_drewN ?_ _ | refine blk_drew ?_ | refine blk_alloc ?_ _)); refine blk_far ?_ NB134_135.out _; (with_reducible repeat (first | refine blk_drewN ?_ _ | refine blk_drew ?_ | refine blk_alloc ?_ _)); refine blk_far ?_ NB134_135.out _; (with_reducible repeat (first | refine blk_drewN ?_ _ | refine blk_drew ?_ | refine blk_alloc ?_ _)); exact BK134.out⟩, ⟨by (with_reducible repeat (first | refine blk_drewN ?_ _ | refine blk_drew ?_ | refine blk_alloc ?_ _)); refine blk_put (cs := #[.bool a1_0, .bool a0_1, .int .i64 a0_2, .int .i64 a0_3]) ?_ 2 _ rfl; (with_reducible repeat (first | refine blk_drewN ?_ _ | refine blk_drew ?_ | refine blk_alloc ?_ _)); refine blk_put (cs := #[.bool a0_0, .bool a0_1, .int .i64 a0_2, .int .i64 a0_3]) ?_ 0 _ rfl; (with_reducible repeat (first | refine blk_drewN ?_ _ | refine blk_drew ?_ | refine blk_alloc ?_ _)); exact BK135.out⟩, ⟨pw⟩⟩
   replace c36 := Bool.eq_false_iff.mpr c36
   subst c36
   have H1 : (interval_meet.j1 kj2 a0_0 a0_1 a0_2 a0_3 a1_0 a1_1 a1_2 a1_3 a0_0 a0_1 a0_2 a0_3) = some (r1, r2, r3, r4, r5) := by rw [if_neg (show ¬ (false = true) by decide)] at H; exact H
   clear H
   have H := H1
   clear H1
   have H' := am H
   clear H
   go_wp2
   go_meet
   case rel => exact ⟨_, (a0_0), (a0_2), H', ⟨by have := HJ2.out; first | omega | exact Nat.le_refl _⟩, ⟨pk⟩, ⟨pk⟩, ⟨pk⟩, ⟨pk⟩, ⟨pw⟩⟩
  clear HC35
  try clear c1
  try clear c2
  try clear p2
  try clear c3
  try clear c7
  try clear c8
  try clear c9
  try clear c11
  try clear c12
  try clear c13
  try clear c15
  try clear c16
  try clear c17
  try clear c18
  try clear c20
  try clear c21
  try clear c22
  try clear c23
  try clear c25
  try clear c26
  try clear c28
  try clear c29
  try clear c30
  try clear c32
  try clear c33
  try clear c36
  try clear hcz14_0
  try clear hcz14_1
  try clear hcz14_2
  try clear hcz14_3
  try clear hcz19_0
  try clear hcz19_1
  try clear hcz19_2
  try clear hcz19_3
  try clear hcz24_0
  try clear hcz24_1
  try clear hcz24_2
  try clear hcz24_3
  try clear hcz27_0
  try clear hcz27_1
  try clear hcz27_2
  try clear hcz27_3
  try clear hcz31_0
  try clear hcz31_1
  try clear hcz31_2
  try clear hcz31_3
  try clear hcz34_0
  try clear hcz34_1
  try clear hcz34_2
  try clear hcz34_3
  try clear hcz9_0
  try clear hcz9_1
  try clear hcz9_2
  try clear hcz9_3
  try clear hfz14_0
  try clear hfz14_1
  try clear hfz14_2
  try clear hfz14_3
  try clear hfz19_0
  try clear hfz19_1
  try clear hfz19_2
  try clear hfz19_3
  try clear hfz24_0
  try clear hfz24_1
  try clear hfz24_2
  try clear hfz24_3
  try clear hfz27_0
  try clear hfz27_1
  try clear hfz27_2
  try clear hfz27_3
  try clear hfz31_0
  try clear hfz31_1
  try clear hfz31_2
  try clear hfz31_3
  try clear hfz34_0
  try clear hfz34_1
  try clear hfz34_2
  try clear hfz34_3
  try clear hfz9_0
  try clear hfz9_1
  try clear hfz9_2
  try clear hfz9_3
  try clear p2
  obtain ⟨kq, x136000_34, x136002_34, HA, HJ34, BK132, BK133, BK134, BK135, HB⟩ := hcut
  cases kq with
  | zero => exact absurd HA.out (by simp [interval_meet.j1])
  | succ kj34 =>
   have H := HA.out
   clear HA
   simp only [interval_meet.j1] at H
   have HC40 := am H
   clear H
   go_upto_region 4 with (fail)
   go_cut [41] (fun v41 wc => ∃ (kq : Nat) (x41_39 : Bool), v41 = .bool x41_39 ∧ Aside0 (interval_meet.j2 kq x41_39 a1_0 a1_1 a1_2 a1_3 x136000_34 a0_1 x136002_34 a0_3 = some (r1, r2, r3, r4, r5)) ∧ Aside0 (kq ≤ kj34) ∧ Aside0 (wc.heap[gb132]? = some (.cells #[.bool a0_0, .bool a0_1, .int .i64 a0_2, .int .i64 a0_3] 49 (0, 0))) ∧ Aside0 (wc.heap[gb133]? = some (.cells #[.bool a1_0, .bool a1_1, .int .i64 a1_2, .int .i64 a1_3] 49 (0, 0))) ∧ Aside0 (wc.heap[gb134]? = some (.cells #[.bool false, .bool false, .int .i64 0, .int .i64 0] 49 (0, 0))) ∧ Aside0 (wc.heap[gb135]? = some (.cells #[.bool x136000_34, .bool a0_1, .int .i64 x136002_34, .int .i64 a0_3] 49 (0, 0))) ∧ Aside0 (Below w.heap.size w wc))
   case first =>
    have H := HC40.out
    clear HC40
    by_cases c41 : a0_1 = true
    ·subst c41
     have H1 : (interval_meet.j2 kj34 true a1_0 a1_1 a1_2 a1_3 x136000_34 true x136002_34 a0_3) = some (r1, r2, r3, r4, r5) := by rw [if_pos rfl] at H; exact H
     clear H
     have H := H1
     clear H1
     have H' := am H
     clear H
     have hnb42 := NB132_133.out
     have hnc42 := NB133_132.out
     have hnb43 := NB132_134.out
     have hnc43 := NB134_132.out
     have hnb44 := NB132_135.out
     have hnc44 := NB135_132.out
     have hcz45_0 : wc.cell? ⟨gb132, 0, none⟩ = some (.bool a0_0) := bc BK132 0
     have hcz45_1 : wc.cell? ⟨gb132, 1, none⟩ = some (.bool true) := bc BK132 1
     have hcz45_2 : wc.cell? ⟨gb132, 2, none⟩ = some (.int .i64 a0_2) := bc BK132 2
     have hcz45_3 : wc.cell? ⟨gb132, 3, none⟩ = some (.int .i64 a0_3) := bc BK132 3
     have hfz45_0 := blk_frozen BK132.out 0
     have hfz45_1 := blk_frozen BK132.out 1
     have hfz45_2 := blk_frozen BK132.out 2
     have hfz45_3 := blk_frozen BK132.out 3
     go_wp2
     go_meet
     case rel => exact ⟨_, (true), pr, H', ⟨by have := HJ2.out; have := HJ34.out; first | omega | exact Nat.le_refl _⟩, ⟨pk⟩, ⟨pk⟩, ⟨pk⟩, ⟨pk⟩, ⟨pw⟩⟩
    replace c41 := Bool.eq_false_iff.mpr c41
    subst c41
    have H1 : (if a1_1 = true then (interval_meet.j2 kj34 false a1_0 a1_1 a1_2 a1_3 x136000_34 false x136002_34 a0_3) else (interval_meet.j2 kj34 (decide (a1_3 < a0_3)) a1_0 a1_1 a1_2 a1_3 x136000_34 false x136002_34 a0_3)) = some (r1, r2, r3, r4, r5) := by rw [if_neg (show ¬ (false = true) by decide)] at H; exact H
    clear H
    have H := H1
    clear H1
    by_cases c46 : a1_1 = true
    ·subst c46
     have H1 : (interval_meet.j2 kj34 false a1_0 true a1_2 a1_3 x136000_34 false x136002_34 a0_3) = some (r1, r2, r3, r4, r5) := by rw [if_pos rfl] at H; exact H
     clear H
     have H := H1
     clear H1
     have H' := am H
     clear H
     have hnb47 := NB132_133.out
     have hnc47 := NB133_132.out
     have hnb48 := NB132_134.out
     have hnc48 := NB134_132.out
     have hnb49 := NB132_135.out
     have hnc49 := NB135_132.out
     have hcz50_0 : wc.cell? ⟨gb132, 0, none⟩ = some (.bool a0_0) := bc BK132 0
     have hcz50_1 : wc.cell? ⟨gb132, 1, none⟩ = some (.bool false) := bc BK132 1
     have hcz50_2 : wc.cell? ⟨gb132, 2, none⟩ = some (.int .i64 a0_2) := bc BK132 2
     have hcz50_3 : wc.cell? ⟨gb132, 3, none⟩ = some (.int .i64 a0_3) := bc BK132 3
     have hfz50_0 := blk_frozen BK132.out 0
     have hfz50_1 := blk_frozen BK132.out 1
     have hfz50_2 := blk_frozen BK132.out 2
     have hfz50_3 := blk_frozen BK132.out 3
     have hnb51 := NB133_134.out
     have hnc51 := NB134_133.out
     have hnb52 := NB133_135.out
     have hnc52 := NB135_133.out
     have hcz53_0 : wc.cell? ⟨gb133, 0, none⟩ = some (.bool a1_0) := bc BK133 0
     have hcz53_1 : wc.cell? ⟨gb133, 1, none⟩ = some (.bool true) := bc BK133 1
     have hcz53_2 : wc.cell? ⟨gb133, 2, none⟩ = some (.int .i64 a1_2) := bc BK133 2
     have hcz53_3 : wc.cell? ⟨gb133, 3, none⟩ = some (.int .i64 a1_3) := bc BK133 3
     have hfz53_0 := blk_frozen BK133.out 0
     have hfz53_1 := blk_frozen BK133.out 1
     have hfz53_2 := blk_frozen BK133.out 2
     have hfz53_3 := blk_frozen BK133.out 3
     go_wp2
     go_meet
     case rel => exact ⟨_, (false), pr, H', ⟨by have := HJ2.out; have := HJ34.out; first | omega | exact Nat.le_refl _⟩, ⟨pk⟩, ⟨pk⟩, ⟨pk⟩, ⟨pk⟩, ⟨pw⟩⟩
    replace c46 := Bool.eq_false_iff.mpr c46
    subst c46
    have H1 : (interval_meet.j2 kj34 (decide (a1_3 < a0_3)) a1_0 false a1_2 a1_3 x136000_34 false x136002_34 a0_3) = some (r1, r2, r3, r4, r5) := by rw [if_neg (show ¬ (false = true) by decide)] at H; exact H
    clear H
    have H := H1
    clear H1
    have H' := am H
    clear H
    have hnb54 := NB132_133.out
    have hnc54 := NB133_132.out
    have hnb55 := NB132_134.out
    have hnc55 := NB134_132.out
    have hnb56 := NB132_135.out
    have hnc56 := NB135_132.out
    have hcz57_0 : wc.cell? ⟨gb132, 0, none⟩ = some (.bool a0_0) := bc BK132 0
    have hcz57_1 : wc.cell? ⟨gb132, 1, none⟩ = some (.bool false) := bc BK132 1
    have hcz57_2 : wc.cell? ⟨gb132, 2, none⟩ = some (.int .i64 a0_2) := bc BK132 2
    have hcz57_3 : wc.cell? ⟨gb132, 3, none⟩ = some (.int .i64 a0_3) := bc BK132 3
    have hfz57_0 := blk_frozen BK132.out 0
    have hfz57_1 := blk_frozen BK132.out 1
    have hfz57_2 := blk_frozen BK132.out 2
    have hfz57_3 := blk_frozen BK132.out 3
    have hnb58 := NB133_134.out
    have hnc58 := NB134_133.out
    have hnb59 := NB133_135.out
    have hnc59 := NB135_133.out
    have hcz60_0 : wc.cell? ⟨gb133, 0, none⟩ = some (.bool a1_0) := bc BK133 0
    have hcz60_1 : wc.cell? ⟨gb133, 1, none⟩ = some (.bool false) := bc BK133 1
    have hcz60_2 : wc.cell? ⟨gb133, 2, none⟩ = some (.int .i64 a1_2) := bc BK133 2
    have hcz60_3 : wc.cell? ⟨gb133, 3, none⟩ = some (.int .i64 a1_3) := bc BK133 3
    have hfz60_0 := blk_frozen BK133.out 0
    have hfz60_1 := blk_frozen BK133.out 1
    have hfz60_2 := blk_frozen BK133.out 2
    have hfz60_3 := blk_frozen BK133.out 3
    go_wp2
    go_meet
    case rel => exact ⟨_, (decide (a1_3 < a0_3)), pr, H', ⟨by have := HJ2.out; have := HJ34.out; first | omega | exact Nat.le_refl _⟩, ⟨pk⟩, ⟨pk⟩, ⟨pk⟩, ⟨pk⟩, ⟨pw⟩⟩
   clear HC40
   try clear c1
   try clear c2
   try clear p2
   try clear c3
   try clear c4
   try clear c5
   try clear c7
   try clear c8
   try clear c9
   try clear c11
   try clear c12
   try clear c13
   try clear c15
   try clear c16
   try clear c17
   try clear c18
   try clear c20
   try clear c21
   try clear c22
   try clear c23
   try clear c25
   try clear c26
   try clear c28
   try clear c29
   try clear c30
   try clear c32
   try clear c33
   try clear c36
   try clear c41
   try clear c42
   try clear c43
   try clear c44
   try clear c46
   try clear c47
   try clear c48
   try clear c49
   try clear c51
   try clear c52
   try clear c54
   try clear c55
   try clear c56
   try clear c58
   try clear c59
   try clear hcz14_0
   try clear hcz14_1
   try clear hcz14_2
   try clear hcz14_3
   try clear hcz19_0
   try clear hcz19_1
   try clear hcz19_2
   try clear hcz19_3
   try clear hcz24_0
   try clear hcz24_1
   try clear hcz24_2
   try clear hcz24_3
   try clear hcz27_0
   try clear hcz27_1
   try clear hcz27_2
   try clear hcz27_3
   try clear hcz31_0
   try clear hcz31_1
   try clear hcz31_2
   try clear hcz31_3
   try clear hcz34_0
   try clear hcz34_1
   try clear hcz34_2
   try clear hcz34_3
   try clear hcz45_0
   try clear hcz45_1
   try clear hcz45_2
   try clear hcz45_3
   try clear hcz50_0
   try clear hcz50_1
   try clear hcz50_2
   try clear hcz50_3
   try clear hcz53_0
   try clear hcz53_1
   try clear hcz53_2
   try clear hcz53_3
   try clear hcz57_0
   try clear hcz57_1
   try clear hcz57_2
   try clear hcz57_3
   try clear hcz60_0
   try clear hcz60_1
   try clear hcz60_2
   try clear hcz60_3
   try clear hcz9_0
   try clear hcz9_1
   try clear hcz9_2
   try clear hcz9_3
   try clear hfz14_0
   try clear hfz14_1
   try clear hfz14_2
   try clear hfz14_3
   try clear hfz19_0
   try clear hfz19_1
   try clear hfz19_2
   try clear hfz19_3
   try clear hfz24_0
   try clear hfz24_1
   try clear hfz24_2
   try clear hfz24_3
   try clear hfz27_0
   try clear hfz27_1
   try clear hfz27_2
   try clear hfz27_3
   try clear hfz31_0
   try clear hfz31_1
   try clear hfz31_2
   try clear hfz31_3
   try clear hfz34_0
   try clear hfz34_1
   try clear hfz34_2
   try clear hfz34_3
   try clear hfz45_0
   try clear hfz45_1
   try clear hfz45_2
   try clear hfz45_3
   try clear hfz50_0
   try clear hfz50_1
   try clear hfz50_2
   try clear hfz50_3
   try clear hfz53_0
   try clear hfz53_1
   try clear hfz53_2
   try clear hfz53_3
   try clear hfz57_0
   try clear hfz57_1
   try clear hfz57_2
   try clear hfz57_3
   try clear hfz60_0
   try clear hfz60_1
   try clear hfz60_2
   try clear hfz60_3
   try clear hfz9_0
   try clear hfz9_1
   try clear hfz9_2
   try clear hfz9_3
   try clear p2
   obtain ⟨kq, x41_39, rfl, HA, HJ39, BK132, BK133, BK134, BK135, HB⟩ := hcut
   cases kq with
   | zero => exact absurd HA.out (by simp [interval_meet.j2])
   | succ kj39 =>
    have H := HA.out
    clear HA
    simp only [interval_meet.j2] at H
    by_cases c61 : x41_39 = true
    ·subst c61
     have H1 : (if x136000_34 = true then (some (x136000_34, a1_1, x136002_34, a1_3, true)) else (if a1_1 = true then (some (x136000_34, a1_1, x136002_34, a1_3, true)) else (if x136002_34 > a1_3 then (some (false, false, 0, 0, false)) else (some (x136000_34, a1_1, x136002_34, a1_3, true))))) = some (r1, r2, r3, r4, r5) := by rw [if_pos rfl] at H; exact H
     clear H
     have H := H1
     clear H1
     by_cases c62 : x136000_34 = true
     ·subst c62
      have H1 : (some (true, a1_1, x136002_34, a1_3, true)) = some (r1, r2, r3, r4, r5) := by rw [if_pos rfl] at H; exact H
      clear H
      have H := H1
      clear H1
      simp only [Option.some.injEq, Prod.mk.injEq] at H
      obtain ⟨rfl, rfl, rfl, rfl, rfl⟩ := H
      try go_wp2
      have n0_ := am (blk_drew BK132.out)
      have n1_ := am (blk_drew BK133.out)
      have n2_ := am (blk_drew BK134.out)
      have n3_ := am (blk_drew BK135.out)
      have n4_ := am (below_drew1 HB.out)
      clear BK132 BK133 BK134 BK135 HB
      revert n0_ n1_ n2_ n3_ n4_
      intro BK132 BK133 BK134 BK135 HB
      refine start_ (n := 8) (S := fun w' => w'.cell? ⟨gb133, 0, none⟩ = some (.bool a1_0) ∧ w'.cell? ⟨gb133, 1, none⟩ = some (.bool a1_1) ∧ w'.cell? ⟨gb133, 2, none⟩ = some (.int .i64 a1_2) ∧ w'.cell? ⟨gb133, 3, none⟩ = some (.int .i64 a1_3)) (ds := []) #[false, false, false, false, false, false, false, false] kk rfl rfl ⟨bc BK133 0, bc BK133 1, bc BK133 2, bc BK133 3⟩ (fun hHeld => ?_); refine with_tabW interval_meet.tab5 interval_meet.bits5 (fun HT_ HW_ => ?_)
      generalize wc.drew = w63 at BK132 BK133 BK134 BK135 HB hHeld ⊢
      refine pure_ (i := 0) (N := some 42) (v := ?_) (a' := ?_) #[true, false, false, false, false, false, false, false] rfl rfl (any_of HT_.out kk) (fun _ _ _ h => h) (Or.inl ⟨by rfl, ?_⟩) ?_ ?_
      rotate_left
      ·intro w'
       go_simp
       with_reducible rfl
      rotate_left
      ·simp only [Act.put, List.setIfInBounds_toArray, List.set_cons_zero, List.set_cons_succ, i64_w, i32_w]
       rfl
      refine pure_ (i := 2) (N := some 44) (v := ?_) (a' := ?_) #[true, false, true, false, false, false, false, false] rfl rfl (any_of HT_.out kk) (fun _ _ _ h => h) (Or.inl ⟨by rfl, ?_⟩) ?_ ?_
      rotate_left
      ·intro w'
       go_simp
       with_reducible rfl
      rotate_left
      ·simp only [Act.put, List.setIfInBounds_toArray, List.set_cons_zero, List.set_cons_succ, i64_w, i32_w]
       rfl
      refine take_ (i := 1) (N := some 43) (v := ?_) (a' := ?_) #[true, true, true, false, false, false, false, false] rfl rfl (take_ofW HT_.out HW_.out kk) (fun _ _ _ h => h) (Or.inl ⟨by rfl, ?_⟩) hHeld ?_ ?_
      rotate_left
      ·rintro w' ⟨s0, s1, s2, s3⟩
       go_simp
       with_reducible rfl
      rotate_left
      ·simp only [Act.put, List.setIfInBounds_toArray, List.set_cons_zero, List.set_cons_succ, i64_w, i32_w]
       rfl
      refine pure_ (i := 4) (N := some 46) (v := ?_) (a' := ?_) #[true, true, true, false, true, false, false, false] rfl rfl (any_of HT_.out kk) (fun _ _ _ h => h) (Or.inl ⟨by rfl, ?_⟩) ?_ ?_
      rotate_left
      ·intro w'
       go_simp
       with_reducible rfl
      rotate_left
      ·simp only [Act.put, List.setIfInBounds_toArray, List.set_cons_zero, List.set_cons_succ, i64_w, i32_w]
       rfl
      refine take_ (i := 3) (N := some 45) (v := ?_) (a' := ?_) #[true, true, true, true, true, false, false, false] rfl rfl (take_ofW HT_.out HW_.out kk) (fun _ _ _ h => h) (Or.inl ⟨by rfl, ?_⟩) hHeld ?_ ?_
      rotate_left
      ·rintro w' ⟨s0, s1, s2, s3⟩
       go_simp
       with_reducible rfl
      rotate_left
      ·simp only [Act.put, List.setIfInBounds_toArray, List.set_cons_zero, List.set_cons_succ, i64_w, i32_w]
       rfl
      refine one_ (i := 5) (N := none) #[true, true, true, true, true, true, false, false] rfl rfl (one_of HT_.out kk) (by decide) (fun K hK => ?_)
      have hs64 : w63.cell? ⟨gb135, 1, none⟩ = some (.bool a0_1) := bc BK135 1
      have hfs64 := blk_frozen BK135.out 1
      have hns64_0 := NB132_135.out
      have hns64_1 := NB133_135.out
      have hns64_2 := NB134_135.out
      have hms64_0 := NB135_132.out
      have hms64_1 := NB135_133.out
      have hms64_2 := NB135_134.out
      refine skip_ (w1 := ?_) (by rfl) rfl ?_ ?_
      rotate_left
      ·go_simp
       rfl
      refine hK.out _ _ ⟨((cell_far (p := ⟨gb135, _, none⟩) NB133_135.out _).trans (hHeld.1)), ((cell_far (p := ⟨gb135, _, none⟩) NB133_135.out _).trans (hHeld.2.1)), ((cell_far (p := ⟨gb135, _, none⟩) NB133_135.out _).trans (hHeld.2.2.1)), ((cell_far (p := ⟨gb135, _, none⟩) NB133_135.out _).trans (hHeld.2.2.2))⟩ (fun hHeld => ?_)
      clear hK K
      refine pure_ (i := 6) (N := some 47) (v := ?_) (a' := ?_) #[true, true, true, true, true, true, true, false] rfl rfl (any_of HT_.out kk) (fun _ _ _ h => h) (Or.inl ⟨by rfl, ?_⟩) ?_ ?_
      rotate_left
      ·intro w'
       go_simp
       with_reducible rfl
      rotate_left
      ·simp only [Act.put, List.setIfInBounds_toArray, List.set_cons_zero, List.set_cons_succ, i64_w, i32_w]
       rfl
      refine one_ (i := 7) (N := none) #[true, true, true, true, true, true, true, true] rfl rfl (one_of HT_.out kk) (by decide) (fun K hK => ?_)
      have hs65 : w63.cell? ⟨gb135, 3, none⟩ = some (.int .i64 a0_3) := bc BK135 3
      have hfs65 := blk_frozen BK135.out 3
      have hns65_0 := NB132_135.out
      have hns65_1 := NB133_135.out
      have hns65_2 := NB134_135.out
      have hms65_0 := NB135_132.out
      have hms65_1 := NB135_133.out
      have hms65_2 := NB135_134.out
      refine skip_ (w1 := ?_) (by rfl) rfl ?_ ?_
      rotate_left
      ·go_simp
       rfl
      refine hK.out _ _ ⟨((cell_far (p := ⟨gb135, _, none⟩) NB133_135.out _).trans (hHeld.1)), ((cell_far (p := ⟨gb135, _, none⟩) NB133_135.out _).trans (hHeld.2.1)), ((cell_far (p := ⟨gb135, _, none⟩) NB133_135.out _).trans (hHeld.2.2.1)), ((cell_far (p := ⟨gb135, _, none⟩) NB133_135.out _).trans (hHeld.2.2.2))⟩ (fun hHeld => ?_)
      clear hK K
      refine done_ (done_of HT_.out kk) ?_
      have hnb66 := NB135_132.out
      have hnc66 := NB132_135.out
      have hnb67 := NB135_133.out
      have hnc67 := NB133_135.out
      have hnb68 := NB135_134.out
      have hnc68 := NB134_135.out
      have hcz69_0 : w63.cell? ⟨gb135, 0, none⟩ = some (.bool true) := bc BK135 0
      have hcz69_1 : w63.cell? ⟨gb135, 1, none⟩ = some (.bool a0_1) := bc BK135 1
      have hcz69_2 : w63.cell? ⟨gb135, 2, none⟩ = some (.int .i64 x136002_34) := bc BK135 2
      have hcz69_3 : w63.cell? ⟨gb135, 3, none⟩ = some (.int .i64 a0_3) := bc BK135 3
      have hfz69_0 := blk_frozen BK135.out 0
      have hfz69_1 := blk_frozen BK135.out 1
      have hfz69_2 := blk_frozen BK135.out 2
      have hfz69_3 := blk_frozen BK135.out 3
      have hnb70 := NB134_132.out
      have hnc70 := NB132_134.out
      have hnb71 := NB134_133.out
      have hnc71 := NB133_134.out
      have hcz72_0 : w63.cell? ⟨gb134, 0, none⟩ = some (.bool false) := bc BK134 0
      have hcz72_1 : w63.cell? ⟨gb134, 1, none⟩ = some (.bool false) := bc BK134 1
      have hcz72_2 : w63.cell? ⟨gb134, 2, none⟩ = some (.int .i64 0) := bc BK134 2
      have hcz72_3 : w63.cell? ⟨gb134, 3, none⟩ = some (.int .i64 0) := bc BK134 3
      have hfz72_0 := blk_frozen BK134.out 0
      have hfz72_1 := blk_frozen BK134.out 1
      have hfz72_2 := blk_frozen BK134.out 2
      have hfz72_3 := blk_frozen BK134.out 3
      try go_wp2
      refine bodyPost_ret (results_ct rfl _ _ gb134 49 #[.bool true, .bool a1_1, .int .i64 x136002_34, .int .i64 a1_3] (0, 0) _ rfl (by (with_reducible repeat (first | refine blk_drewN ?_ _ | refine blk_drew ?_ | refine blk_alloc ?_ _)); refine blk_put (cs := #[.bool true, .bool a1_1, .int .i64 x136002_34, .int .i64 0]) ?_ 3 _ rfl; (with_reducible repeat (first | refine blk_drewN ?_ _ | refine blk_drew ?_ | refine blk_alloc ?_ _)); refine blk_put (cs := #[.bool true, .bool a1_1, .int .i64 0, .int .i64 0]) ?_ 2 _ rfl; (with_reducible repeat (first | refine blk_drewN ?_ _ | refine blk_drew ?_ | refine blk_alloc ?_ _)); refine blk_put (cs := #[.bool true, .bool false, .int .i64 0, .int .i64 0]) ?_ 1 _ rfl; (with_reducible repeat (first | refine blk_drewN ?_ _ | refine blk_drew ?_ | refine blk_alloc ?_ _)); refine blk_put (cs := #[.bool false, .bool false, .int .i64 0, .int .i64 0]) ?_ 0 _ rfl; (with_reducible repeat (first | refine blk_drewN ?_ _ | refine blk_drew ?_ | refine blk_alloc ?_ _)); refine blk_far ?_ NB134_135.out _; (with_reducible repeat (first | refine blk_drewN ?_ _ | refine blk_drew ?_ | refine blk_alloc ?_ _)); refine blk_far ?_ NB134_135.out _; (with_reducible repeat (first | refine blk_drewN ?_ _ | refine blk_drew ?_ | refine blk_alloc ?_ _)); exact BK134.out) Tryd.underlying49 rfl kk) rfl ?_
      exact ⟨pe, pw⟩
     replace c62 := Bool.eq_false_iff.mpr c62
     subst c62
     have H1 : (if a1_1 = true then (some (false, a1_1, x136002_34, a1_3, true)) else (if x136002_34 > a1_3 then (some (false, false, 0, 0, false)) else (some (false, a1_1, x136002_34, a1_3, true)))) = some (r1, r2, r3, r4, r5) := by rw [if_neg (show ¬ (false = true) by decide)] at H; exact H
     clear H
     have H := H1
     clear H1
     by_cases c73 : a1_1 = true
     ·subst c73
      have H1 : (some (false, true, x136002_34, a1_3, true)) = some (r1, r2, r3, r4, r5) := by rw [if_pos rfl] at H; exact H
      clear H
      have H := H1
      clear H1
      simp only [Option.some.injEq, Prod.mk.injEq] at H
      obtain ⟨rfl, rfl, rfl, rfl, rfl⟩ := H
      try go_wp2
      have n0_ := am (blk_drew BK132.out)
      have n1_ := am (blk_drew BK133.out)
      have n2_ := am (blk_drew BK134.out)
      have n3_ := am (blk_drew BK135.out)
      have n4_ := am (below_drew1 HB.out)
      clear BK132 BK133 BK134 BK135 HB
      revert n0_ n1_ n2_ n3_ n4_
      intro BK132 BK133 BK134 BK135 HB
      refine start_ (n := 8) (S := fun w' => w'.cell? ⟨gb133, 0, none⟩ = some (.bool a1_0) ∧ w'.cell? ⟨gb133, 1, none⟩ = some (.bool true) ∧ w'.cell? ⟨gb133, 2, none⟩ = some (.int .i64 a1_2) ∧ w'.cell? ⟨gb133, 3, none⟩ = some (.int .i64 a1_3)) (ds := []) #[false, false, false, false, false, false, false, false] kk rfl rfl ⟨bc BK133 0, bc BK133 1, bc BK133 2, bc BK133 3⟩ (fun hHeld => ?_); refine with_tabW interval_meet.tab5 interval_meet.bits5 (fun HT_ HW_ => ?_)
      generalize wc.drew = w74 at BK132 BK133 BK134 BK135 HB hHeld ⊢
      refine pure_ (i := 0) (N := some 42) (v := ?_) (a' := ?_) #[true, false, false, false, false, false, false, false] rfl rfl (any_of HT_.out kk) (fun _ _ _ h => h) (Or.inl ⟨by rfl, ?_⟩) ?_ ?_
      rotate_left
      ·intro w'
       go_simp
       with_reducible rfl
      rotate_left
      ·simp only [Act.put, List.setIfInBounds_toArray, List.set_cons_zero, List.set_cons_succ, i64_w, i32_w]
       rfl
      refine pure_ (i := 2) (N := some 44) (v := ?_) (a' := ?_) #[true, false, true, false, false, false, false, false] rfl rfl (any_of HT_.out kk) (fun _ _ _ h => h) (Or.inl ⟨by rfl, ?_⟩) ?_ ?_
      rotate_left
      ·intro w'
       go_simp
       with_reducible rfl
      rotate_left
      ·simp only [Act.put, List.setIfInBounds_toArray, List.set_cons_zero, List.set_cons_succ, i64_w, i32_w]
       rfl
      refine take_ (i := 1) (N := some 43) (v := ?_) (a' := ?_) #[true, true, true, false, false, false, false, false] rfl rfl (take_ofW HT_.out HW_.out kk) (fun _ _ _ h => h) (Or.inl ⟨by rfl, ?_⟩) hHeld ?_ ?_
      rotate_left
      ·rintro w' ⟨s0, s1, s2, s3⟩
       go_simp
       with_reducible rfl
      rotate_left
      ·simp only [Act.put, List.setIfInBounds_toArray, List.set_cons_zero, List.set_cons_succ, i64_w, i32_w]
       rfl
      refine pure_ (i := 4) (N := some 46) (v := ?_) (a' := ?_) #[true, true, true, false, true, false, false, false] rfl rfl (any_of HT_.out kk) (fun _ _ _ h => h) (Or.inl ⟨by rfl, ?_⟩) ?_ ?_
      rotate_left
      ·intro w'
       go_simp
       with_reducible rfl
      rotate_left
      ·simp only [Act.put, List.setIfInBounds_toArray, List.set_cons_zero, List.set_cons_succ, i64_w, i32_w]
       rfl
      refine take_ (i := 3) (N := some 45) (v := ?_) (a' := ?_) #[true, true, true, true, true, false, false, false] rfl rfl (take_ofW HT_.out HW_.out kk) (fun _ _ _ h => h) (Or.inl ⟨by rfl, ?_⟩) hHeld ?_ ?_
      rotate_left
      ·rintro w' ⟨s0, s1, s2, s3⟩
       go_simp
       with_reducible rfl
      rotate_left
      ·simp only [Act.put, List.setIfInBounds_toArray, List.set_cons_zero, List.set_cons_succ, i64_w, i32_w]
       rfl
      refine one_ (i := 5) (N := none) #[true, true, true, true, true, true, false, false] rfl rfl (one_of HT_.out kk) (by decide) (fun K hK => ?_)
      have hs75 : w74.cell? ⟨gb135, 1, none⟩ = some (.bool a0_1) := bc BK135 1
      have hfs75 := blk_frozen BK135.out 1
      have hns75_0 := NB132_135.out
      have hns75_1 := NB133_135.out
      have hns75_2 := NB134_135.out
      have hms75_0 := NB135_132.out
      have hms75_1 := NB135_133.out
      have hms75_2 := NB135_134.out
      refine skip_ (w1 := ?_) (by rfl) rfl ?_ ?_
      rotate_left
      ·go_simp
       rfl
      refine hK.out _ _ ⟨((cell_far (p := ⟨gb135, _, none⟩) NB133_135.out _).trans (hHeld.1)), ((cell_far (p := ⟨gb135, _, none⟩) NB133_135.out _).trans (hHeld.2.1)), ((cell_far (p := ⟨gb135, _, none⟩) NB133_135.out _).trans (hHeld.2.2.1)), ((cell_far (p := ⟨gb135, _, none⟩) NB133_135.out _).trans (hHeld.2.2.2))⟩ (fun hHeld => ?_)
      clear hK K
      refine pure_ (i := 6) (N := some 47) (v := ?_) (a' := ?_) #[true, true, true, true, true, true, true, false] rfl rfl (any_of HT_.out kk) (fun _ _ _ h => h) (Or.inl ⟨by rfl, ?_⟩) ?_ ?_
      rotate_left
      ·intro w'
       go_simp
       with_reducible rfl
      rotate_left
      ·simp only [Act.put, List.setIfInBounds_toArray, List.set_cons_zero, List.set_cons_succ, i64_w, i32_w]
       rfl
      refine one_ (i := 7) (N := none) #[true, true, true, true, true, true, true, true] rfl rfl (one_of HT_.out kk) (by decide) (fun K hK => ?_)
      have hs76 : w74.cell? ⟨gb135, 3, none⟩ = some (.int .i64 a0_3) := bc BK135 3
      have hfs76 := blk_frozen BK135.out 3
      have hns76_0 := NB132_135.out
      have hns76_1 := NB133_135.out
      have hns76_2 := NB134_135.out
      have hms76_0 := NB135_132.out
      have hms76_1 := NB135_133.out
      have hms76_2 := NB135_134.out
      refine skip_ (w1 := ?_) (by rfl) rfl ?_ ?_
      rotate_left
      ·go_simp
       rfl
      refine hK.out _ _ ⟨((cell_far (p := ⟨gb135, _, none⟩) NB133_135.out _).trans (hHeld.1)), ((cell_far (p := ⟨gb135, _, none⟩) NB133_135.out _).trans (hHeld.2.1)), ((cell_far (p := ⟨gb135, _, none⟩) NB133_135.out _).trans (hHeld.2.2.1)), ((cell_far (p := ⟨gb135, _, none⟩) NB133_135.out _).trans (hHeld.2.2.2))⟩ (fun hHeld => ?_)
      clear hK K
      refine done_ (done_of HT_.out kk) ?_
      have hnb77 := NB135_132.out
      have hnc77 := NB132_135.out
      have hnb78 := NB135_133.out
      have hnc78 := NB133_135.out
      have hnb79 := NB135_134.out
      have hnc79 := NB134_135.out
      have hcz80_0 : w74.cell? ⟨gb135, 0, none⟩ = some (.bool false) := bc BK135 0
      have hcz80_1 : w74.cell? ⟨gb135, 1, none⟩ = some (.bool a0_1) := bc BK135 1
      have hcz80_2 : w74.cell? ⟨gb135, 2, none⟩ = some (.int .i64 x136002_34) := bc BK135 2
      have hcz80_3 : w74.cell? ⟨gb135, 3, none⟩ = some (.int .i64 a0_3) := bc BK135 3
      have hfz80_0 := blk_frozen BK135.out 0
      have hfz80_1 := blk_frozen BK135.out 1
      have hfz80_2 := blk_frozen BK135.out 2
      have hfz80_3 := blk_frozen BK135.out 3
      have hnb81 := NB134_132.out
      have hnc81 := NB132_134.out
      have hnb82 := NB134_133.out
      have hnc82 := NB133_134.out
      have hcz83_0 : w74.cell? ⟨gb134, 0, none⟩ = some (.bool false) := bc BK134 0
      have hcz83_1 : w74.cell? ⟨gb134, 1, none⟩ = some (.bool false) := bc BK134 1
      have hcz83_2 : w74.cell? ⟨gb134, 2, none⟩ = some (.int .i64 0) := bc BK134 2
      have hcz83_3 : w74.cell? ⟨gb134, 3, none⟩ = some (.int .i64 0) := bc BK134 3
      have hfz83_0 := blk_frozen BK134.out 0
      have hfz83_1 := blk_frozen BK134.out 1
      have hfz83_2 := blk_frozen BK134.out 2
      have hfz83_3 := blk_frozen BK134.out 3
      try go_wp2
      refine bodyPost_ret (results_ct rfl _ _ gb134 49 #[.bool false, .bool true, .int .i64 x136002_34, .int .i64 a1_3] (0, 0) _ rfl (by (with_reducible repeat (first | refine blk_drewN ?_ _ | refine blk_drew ?_ | refine blk_alloc ?_ _)); refine blk_put (cs := #[.bool false, .bool true, .int .i64 x136002_34, .int .i64 0]) ?_ 3 _ rfl; (with_reducible repeat (first | refine blk_drewN ?_ _ | refine blk_drew ?_ | refine blk_alloc ?_ _)); refine blk_put (cs := #[.bool false, .bool true, .int .i64 0, .int .i64 0]) ?_ 2 _ rfl; (with_reducible repeat (first | refine blk_drewN ?_ _ | refine blk_drew ?_ | refine blk_alloc ?_ _)); refine blk_put (cs := #[.bool false, .bool false, .int .i64 0, .int .i64 0]) ?_ 1 _ rfl; (with_reducible repeat (first | refine blk_drewN ?_ _ | refine blk_drew ?_ | refine blk_alloc ?_ _)); refine blk_put (cs := #[.bool false, .bool false, .int .i64 0, .int .i64 0]) ?_ 0 _ rfl; (with_reducible repeat (first | refine blk_drewN ?_ _ | refine blk_drew ?_ | refine blk_alloc ?_ _)); refine blk_far ?_ NB134_135.out _; (with_reducible repeat (first | refine blk_drewN ?_ _ | refine blk_drew ?_ | refine blk_alloc ?_ _)); refine blk_far ?_ NB134_135.out _; (with_reducible repeat (first | refine blk_drewN ?_ _ | refine blk_drew ?_ | refine blk_alloc ?_ _)); exact BK134.out) Tryd.underlying49 rfl kk) rfl ?_
      exact ⟨pe, pw⟩
     replace c73 := Bool.eq_false_iff.mpr c73
     subst c73
     have H1 : (if x136002_34 > a1_3 then (some (false, false, 0, 0, false)) else (some (false, false, x136002_34, a1_3, true))) = some (r1, r2, r3, r4, r5) := by rw [if_neg (show ¬ (false = true) by decide)] at H; exact H
     clear H
     have H := H1
     clear H1
     by_cases c84 : x136002_34 > a1_3
     ·rw [if_pos c84] at H
      have c84b0 : decide (a1_3 < x136002_34) = true := decide_eq_true c84
      clear c84
      simp only [Option.some.injEq, Prod.mk.injEq] at H
      obtain ⟨rfl, rfl, rfl, rfl, rfl⟩ := H
      try go_wp2
      have n0_ := am (blk_drew BK132.out)
      have n1_ := am (blk_drew BK133.out)
      have n2_ := am (blk_drew BK134.out)
      have n3_ := am (blk_drew BK135.out)
      have n4_ := am (below_drew1 HB.out)
      clear BK132 BK133 BK134 BK135 HB
      revert n0_ n1_ n2_ n3_ n4_
      intro BK132 BK133 BK134 BK135 HB
      refine start_ (n := 8) (S := fun w' => w'.cell? ⟨gb133, 0, none⟩ = some (.bool a1_0) ∧ w'.cell? ⟨gb133, 1, none⟩ = some (.bool false) ∧ w'.cell? ⟨gb133, 2, none⟩ = some (.int .i64 a1_2) ∧ w'.cell? ⟨gb133, 3, none⟩ = some (.int .i64 a1_3)) (ds := []) #[false, false, false, false, false, false, false, false] kk rfl rfl ⟨bc BK133 0, bc BK133 1, bc BK133 2, bc BK133 3⟩ (fun hHeld => ?_); refine with_tabW interval_meet.tab5 interval_meet.bits5 (fun HT_ HW_ => ?_)
      generalize wc.drew = w85 at BK132 BK133 BK134 BK135 HB hHeld ⊢
      refine pure_ (i := 0) (N := some 42) (v := ?_) (a' := ?_) #[true, false, false, false, false, false, false, false] rfl rfl (any_of HT_.out kk) (fun _ _ _ h => h) (Or.inl ⟨by rfl, ?_⟩) ?_ ?_
      rotate_left
      ·intro w'
       go_simp
       with_reducible rfl
      rotate_left
      ·simp only [Act.put, List.setIfInBounds_toArray, List.set_cons_zero, List.set_cons_succ, i64_w, i32_w]
       rfl
      refine pure_ (i := 2) (N := some 44) (v := ?_) (a' := ?_) #[true, false, true, false, false, false, false, false] rfl rfl (any_of HT_.out kk) (fun _ _ _ h => h) (Or.inl ⟨by rfl, ?_⟩) ?_ ?_
      rotate_left
      ·intro w'
       go_simp
       with_reducible rfl
      rotate_left
      ·simp only [Act.put, List.setIfInBounds_toArray, List.set_cons_zero, List.set_cons_succ, i64_w, i32_w]
       rfl
      refine take_ (i := 1) (N := some 43) (v := ?_) (a' := ?_) #[true, true, true, false, false, false, false, false] rfl rfl (take_ofW HT_.out HW_.out kk) (fun _ _ _ h => h) (Or.inl ⟨by rfl, ?_⟩) hHeld ?_ ?_
      rotate_left
      ·rintro w' ⟨s0, s1, s2, s3⟩
       go_simp
       with_reducible rfl
      rotate_left
      ·simp only [Act.put, List.setIfInBounds_toArray, List.set_cons_zero, List.set_cons_succ, i64_w, i32_w]
       rfl
      refine pure_ (i := 4) (N := some 46) (v := ?_) (a' := ?_) #[true, true, true, false, true, false, false, false] rfl rfl (any_of HT_.out kk) (fun _ _ _ h => h) (Or.inl ⟨by rfl, ?_⟩) ?_ ?_
      rotate_left
      ·intro w'
       go_simp
       with_reducible rfl
      rotate_left
      ·simp only [Act.put, List.setIfInBounds_toArray, List.set_cons_zero, List.set_cons_succ, i64_w, i32_w]
       rfl
      refine take_ (i := 3) (N := some 45) (v := ?_) (a' := ?_) #[true, true, true, true, true, false, false, false] rfl rfl (take_ofW HT_.out HW_.out kk) (fun _ _ _ h => h) (Or.inl ⟨by rfl, ?_⟩) hHeld ?_ ?_
      rotate_left
      ·rintro w' ⟨s0, s1, s2, s3⟩
       go_simp
       with_reducible rfl
      rotate_left
      ·simp only [Act.put, List.setIfInBounds_toArray, List.set_cons_zero, List.set_cons_succ, i64_w, i32_w]
       rfl
      refine one_ (i := 5) (N := none) #[true, true, true, true, true, true, false, false] rfl rfl (one_of HT_.out kk) (by decide) (fun K hK => ?_)
      have hs86 : w85.cell? ⟨gb135, 1, none⟩ = some (.bool a0_1) := bc BK135 1
      have hfs86 := blk_frozen BK135.out 1
      have hns86_0 := NB132_135.out
      have hns86_1 := NB133_135.out
      have hns86_2 := NB134_135.out
      have hms86_0 := NB135_132.out
      have hms86_1 := NB135_133.out
      have hms86_2 := NB135_134.out
      refine skip_ (w1 := ?_) (by rfl) rfl ?_ ?_
      rotate_left
      ·go_simp
       rfl
      refine hK.out _ _ ⟨((cell_far (p := ⟨gb135, _, none⟩) NB133_135.out _).trans (hHeld.1)), ((cell_far (p := ⟨gb135, _, none⟩) NB133_135.out _).trans (hHeld.2.1)), ((cell_far (p := ⟨gb135, _, none⟩) NB133_135.out _).trans (hHeld.2.2.1)), ((cell_far (p := ⟨gb135, _, none⟩) NB133_135.out _).trans (hHeld.2.2.2))⟩ (fun hHeld => ?_)
      clear hK K
      refine pure_ (i := 6) (N := some 47) (v := ?_) (a' := ?_) #[true, true, true, true, true, true, true, false] rfl rfl (any_of HT_.out kk) (fun _ _ _ h => h) (Or.inl ⟨by rfl, ?_⟩) ?_ ?_
      rotate_left
      ·intro w'
       go_simp
       with_reducible rfl
      rotate_left
      ·simp only [Act.put, List.setIfInBounds_toArray, List.set_cons_zero, List.set_cons_succ, i64_w, i32_w]
       rfl
      refine one_ (i := 7) (N := none) #[true, true, true, true, true, true, true, true] rfl rfl (one_of HT_.out kk) (by decide) (fun K hK => ?_)
      have hs87 : w85.cell? ⟨gb135, 3, none⟩ = some (.int .i64 a0_3) := bc BK135 3
      have hfs87 := blk_frozen BK135.out 3
      have hns87_0 := NB132_135.out
      have hns87_1 := NB133_135.out
      have hns87_2 := NB134_135.out
      have hms87_0 := NB135_132.out
      have hms87_1 := NB135_133.out
      have hms87_2 := NB135_134.out
      refine skip_ (w1 := ?_) (by rfl) rfl ?_ ?_
      rotate_left
      ·go_simp
       rfl
      refine hK.out _ _ ⟨((cell_far (p := ⟨gb135, _, none⟩) NB133_135.out _).trans (hHeld.1)), ((cell_far (p := ⟨gb135, _, none⟩) NB133_135.out _).trans (hHeld.2.1)), ((cell_far (p := ⟨gb135, _, none⟩) NB133_135.out _).trans (hHeld.2.2.1)), ((cell_far (p := ⟨gb135, _, none⟩) NB133_135.out _).trans (hHeld.2.2.2))⟩ (fun hHeld => ?_)
      clear hK K
      refine done_ (done_of HT_.out kk) ?_
      have hnb88 := NB135_132.out
      have hnc88 := NB132_135.out
      have hnb89 := NB135_133.out
      have hnc89 := NB133_135.out
      have hnb90 := NB135_134.out
      have hnc90 := NB134_135.out
      have hcz91_0 : w85.cell? ⟨gb135, 0, none⟩ = some (.bool false) := bc BK135 0
      have hcz91_1 : w85.cell? ⟨gb135, 1, none⟩ = some (.bool a0_1) := bc BK135 1
      have hcz91_2 : w85.cell? ⟨gb135, 2, none⟩ = some (.int .i64 x136002_34) := bc BK135 2
      have hcz91_3 : w85.cell? ⟨gb135, 3, none⟩ = some (.int .i64 a0_3) := bc BK135 3
      have hfz91_0 := blk_frozen BK135.out 0
      have hfz91_1 := blk_frozen BK135.out 1
      have hfz91_2 := blk_frozen BK135.out 2
      have hfz91_3 := blk_frozen BK135.out 3
      have hnb92 := NB134_132.out
      have hnc92 := NB132_134.out
      have hnb93 := NB134_133.out
      have hnc93 := NB133_134.out
      have hcz94_0 : w85.cell? ⟨gb134, 0, none⟩ = some (.bool false) := bc BK134 0
      have hcz94_1 : w85.cell? ⟨gb134, 1, none⟩ = some (.bool false) := bc BK134 1
      have hcz94_2 : w85.cell? ⟨gb134, 2, none⟩ = some (.int .i64 0) := bc BK134 2
      have hcz94_3 : w85.cell? ⟨gb134, 3, none⟩ = some (.int .i64 0) := bc BK134 3
      have hfz94_0 := blk_frozen BK134.out 0
      have hfz94_1 := blk_frozen BK134.out 1
      have hfz94_2 := blk_frozen BK134.out 2
      have hfz94_3 := blk_frozen BK134.out 3
      try go_wp2
      refine bodyPost_ret (results_ct rfl _ _ gb134 49 #[.bool false, .bool false, .int .i64 0, .int .i64 0] (0, 0) _ rfl (by (with_reducible repeat (first | refine blk_drewN ?_ _ | refine blk_drew ?_ | refine blk_alloc ?_ _)); refine blk_put (cs := #[.bool false, .bool false, .int .i64 0, .int .i64 0]) ?_ 3 _ rfl; (with_reducible repeat (first | refine blk_drewN ?_ _ | refine blk_drew ?_ | refine blk_alloc ?_ _)); refine blk_put (cs := #[.bool false, .bool false, .int .i64 0, .int .i64 0]) ?_ 2 _ rfl; (with_reducible repeat (first | refine blk_drewN ?_ _ | refine blk_drew ?_ | refine blk_alloc ?_ _)); refine blk_put (cs := #[.bool false, .bool false, .int .i64 0, .int .i64 0]) ?_ 1 _ rfl; (with_reducible repeat (first | refine blk_drewN ?_ _ | refine blk_drew ?_ | refine blk_alloc ?_ _)); refine blk_put (cs := #[.bool false, .bool false, .int .i64 0, .int .i64 0]) ?_ 0 _ rfl; (with_reducible repeat (first | refine blk_drewN ?_ _ | refine blk_drew ?_ | refine blk_alloc ?_ _)); refine blk_far ?_ NB134_135.out _; (with_reducible repeat (first | refine blk_drewN ?_ _ | refine blk_drew ?_ | refine blk_alloc ?_ _)); refine blk_far ?_ NB134_135.out _; (with_reducible repeat (first | refine blk_drewN ?_ _ | refine blk_drew ?_ | refine blk_alloc ?_ _)); exact BK134.out) Tryd.underlying49 rfl kk) rfl ?_
      exact ⟨pe, pw⟩
     rw [if_neg c84] at H
     have c84b0 : decide (a1_3 < x136002_34) = false := decide_eq_false c84
     clear c84
     simp only [Option.some.injEq, Prod.mk.injEq] at H
     obtain ⟨rfl, rfl, rfl, rfl, rfl⟩ := H
     try go_wp2
     have n0_ := am (blk_drew BK132.out)
     have n1_ := am (blk_drew BK133.out)
     have n2_ := am (blk_drew BK134.out)
     have n3_ := am (blk_drew BK135.out)
     have n4_ := am (below_drew1 HB.out)
     clear BK132 BK133 BK134 BK135 HB
     revert n0_ n1_ n2_ n3_ n4_
     intro BK132 BK133 BK134 BK135 HB
     refine start_ (n := 8) (S := fun w' => w'.cell? ⟨gb133, 0, none⟩ = some (.bool a1_0) ∧ w'.cell? ⟨gb133, 1, none⟩ = some (.bool false) ∧ w'.cell? ⟨gb133, 2, none⟩ = some (.int .i64 a1_2) ∧ w'.cell? ⟨gb133, 3, none⟩ = some (.int .i64 a1_3)) (ds := []) #[false, false, false, false, false, false, false, false] kk rfl rfl ⟨bc BK133 0, bc BK133 1, bc BK133 2, bc BK133 3⟩ (fun hHeld => ?_); refine with_tabW interval_meet.tab5 interval_meet.bits5 (fun HT_ HW_ => ?_)
     generalize wc.drew = w95 at BK132 BK133 BK134 BK135 HB hHeld ⊢
     refine pure_ (i := 0) (N := some 42) (v := ?_) (a' := ?_) #[true, false, false, false, false, false, false, false] rfl rfl (any_of HT_.out kk) (fun _ _ _ h => h) (Or.inl ⟨by rfl, ?_⟩) ?_ ?_
     rotate_left
     ·intro w'
      go_simp
      with_reducible rfl
     rotate_left
     ·simp only [Act.put, List.setIfInBounds_toArray, List.set_cons_zero, List.set_cons_succ, i64_w, i32_w]
      rfl
     refine pure_ (i := 2) (N := some 44) (v := ?_) (a' := ?_) #[true, false, true, false, false, false, false, false] rfl rfl (any_of HT_.out kk) (fun _ _ _ h => h) (Or.inl ⟨by rfl, ?_⟩) ?_ ?_
     rotate_left
     ·intro w'
      go_simp
      with_reducible rfl
     rotate_left
     ·simp only [Act.put, List.setIfInBounds_toArray, List.set_cons_zero, List.set_cons_succ, i64_w, i32_w]
      rfl
     refine take_ (i := 1) (N := some 43) (v := ?_) (a' := ?_) #[true, true, true, false, false, false, false, false] rfl rfl (take_ofW HT_.out HW_.out kk) (fun _ _ _ h => h) (Or.inl ⟨by rfl, ?_⟩) hHeld ?_ ?_
     rotate_left
     ·rintro w' ⟨s0, s1, s2, s3⟩
      go_simp
      with_reducible rfl
     rotate_left
     ·simp only [Act.put, List.setIfInBounds_toArray, List.set_cons_zero, List.set_cons_succ, i64_w, i32_w]
      rfl
     refine pure_ (i := 4) (N := some 46) (v := ?_) (a' := ?_) #[true, true, true, false, true, false, false, false] rfl rfl (any_of HT_.out kk) (fun _ _ _ h => h) (Or.inl ⟨by rfl, ?_⟩) ?_ ?_
     rotate_left
     ·intro w'
      go_simp
      with_reducible rfl
     rotate_left
     ·simp only [Act.put, List.setIfInBounds_toArray, List.set_cons_zero, List.set_cons_succ, i64_w, i32_w]
      rfl
     refine take_ (i := 3) (N := some 45) (v := ?_) (a' := ?_) #[true, true, true, true, true, false, false, false] rfl rfl (take_ofW HT_.out HW_.out kk) (fun _ _ _ h => h) (Or.inl ⟨by rfl, ?_⟩) hHeld ?_ ?_
     rotate_left
     ·rintro w' ⟨s0, s1, s2, s3⟩
      go_simp
      with_reducible rfl
     rotate_left
     ·simp only [Act.put, List.setIfInBounds_toArray, List.set_cons_zero, List.set_cons_succ, i64_w, i32_w]
      rfl
     refine one_ (i := 5) (N := none) #[true, true, true, true, true, true, false, false] rfl rfl (one_of HT_.out kk) (by decide) (fun K hK => ?_)
     have hs96 : w95.cell? ⟨gb135, 1, none⟩ = some (.bool a0_1) := bc BK135 1
     have hfs96 := blk_frozen BK135.out 1
     have hns96_0 := NB132_135.out
     have hns96_1 := NB133_135.out
     have hns96_2 := NB134_135.out
     have hms96_0 := NB135_132.out
     have hms96_1 := NB135_133.out
     have hms96_2 := NB135_134.out
     refine skip_ (w1 := ?_) (by rfl) rfl ?_ ?_
     rotate_left
     ·go_simp
      rfl
     refine hK.out _ _ ⟨((cell_far (p := ⟨gb135, _, none⟩) NB133_135.out _).trans (hHeld.1)), ((cell_far (p := ⟨gb135, _, none⟩) NB133_135.out _).trans (hHeld.2.1)), ((cell_far (p := ⟨gb135, _, none⟩) NB133_135.out _).trans (hHeld.2.2.1)), ((cell_far (p := ⟨gb135, _, none⟩) NB133_135.out _).trans (hHeld.2.2.2))⟩ (fun hHeld => ?_)
     clear hK K
     refine pure_ (i := 6) (N := some 47) (v := ?_) (a' := ?_) #[true, true, true, true, true, true, true, false] rfl rfl (any_of HT_.out kk) (fun _ _ _ h => h) (Or.inl ⟨by rfl, ?_⟩) ?_ ?_
     rotate_left
     ·intro w'
      go_simp
      with_reducible rfl
     rotate_left
     ·simp only [Act.put, List.setIfInBounds_toArray, List.set_cons_zero, List.set_cons_succ, i64_w, i32_w]
      rfl
     refine one_ (i := 7) (N := none) #[true, true, true, true, true, true, true, true] rfl rfl (one_of HT_.out kk) (by decide) (fun K hK => ?_)
     have hs97 : w95.cell? ⟨gb135, 3, none⟩ = some (.int .i64 a0_3) := bc BK135 3
     have hfs97 := blk_frozen BK135.out 3
     have hns97_0 := NB132_135.out
     have hns97_1 := NB133_135.out
     have hns97_2 := NB134_135.out
     have hms97_0 := NB135_132.out
     have hms97_1 := NB135_133.out
     have hms97_2 := NB135_134.out
     refine skip_ (w1 := ?_) (by rfl) rfl ?_ ?_
     rotate_left
     ·go_simp
      rfl
     refine hK.out _ _ ⟨((cell_far (p := ⟨gb135, _, none⟩) NB133_135.out _).trans (hHeld.1)), ((cell_far (p := ⟨gb135, _, none⟩) NB133_135.out _).trans (hHeld.2.1)), ((cell_far (p := ⟨gb135, _, none⟩) NB133_135.out _).trans (hHeld.2.2.1)), ((cell_far (p := ⟨gb135, _, none⟩) NB133_135.out _).trans (hHeld.2.2.2))⟩ (fun hHeld => ?_)
     clear hK K
     refine done_ (done_of HT_.out kk) ?_
     have hnb98 := NB135_132.out
     have hnc98 := NB132_135.out
     have hnb99 := NB135_133.out
     have hnc99 := NB133_135.out
     have hnb100 := NB135_134.out
     have hnc100 := NB134_135.out
     have hcz101_0 : w95.cell? ⟨gb135, 0, none⟩ = some (.bool false) := bc BK135 0
     have hcz101_1 : w95.cell? ⟨gb135, 1, none⟩ = some (.bool a0_1) := bc BK135 1
     have hcz101_2 : w95.cell? ⟨gb135, 2, none⟩ = some (.int .i64 x136002_34) := bc BK135 2
     have hcz101_3 : w95.cell? ⟨gb135, 3, none⟩ = some (.int .i64 a0_3) := bc BK135 3
     have hfz101_0 := blk_frozen BK135.out 0
     have hfz101_1 := blk_frozen BK135.out 1
     have hfz101_2 := blk_frozen BK135.out 2
     have hfz101_3 := blk_frozen BK135.out 3
     have hnb102 := NB134_132.out
     have hnc102 := NB132_134.out
     have hnb103 := NB134_133.out
     have hnc103 := NB133_134.out
     have hcz104_0 : w95.cell? ⟨gb134, 0, none⟩ = some (.bool false) := bc BK134 0
     have hcz104_1 : w95.cell? ⟨gb134, 1, none⟩ = some (.bool false) := bc BK134 1
     have hcz104_2 : w95.cell? ⟨gb134, 2, none⟩ = some (.int .i64 0) := bc BK134 2
     have hcz104_3 : w95.cell? ⟨gb134, 3, none⟩ = some (.int .i64 0) := bc BK134 3
     have hfz104_0 := blk_frozen BK134.out 0
     have hfz104_1 := blk_frozen BK134.out 1
     have hfz104_2 := blk_frozen BK134.out 2
     have hfz104_3 := blk_frozen BK134.out 3
     try go_wp2
     refine bodyPost_ret (results_ct rfl _ _ gb134 49 #[.bool false, .bool false, .int .i64 x136002_34, .int .i64 a1_3] (0, 0) _ rfl (by (with_reducible repeat (first | refine blk_drewN ?_ _ | refine blk_drew ?_ | refine blk_alloc ?_ _)); refine blk_put (cs := #[.bool false, .bool false, .int .i64 x136002_34, .int .i64 0]) ?_ 3 _ rfl; (with_reducible repeat (first | refine blk_drewN ?_ _ | refine blk_drew ?_ | refine blk_alloc ?_ _)); refine blk_put (cs := #[.bool false, .bool false, .int .i64 0, .int .i64 0]) ?_ 2 _ rfl; (with_reducible repeat (first | refine blk_drewN ?_ _ | refine blk_drew ?_ | refine blk_alloc ?_ _)); refine blk_put (cs := #[.bool false, .bool false, .int .i64 0, .int .i64 0]) ?_ 1 _ rfl; (with_reducible repeat (first | refine blk_drewN ?_ _ | refine blk_drew ?_ | refine blk_alloc ?_ _)); refine blk_put (cs := #[.bool false, .bool false, .int .i64 0, .int .i64 0]) ?_ 0 _ rfl; (with_reducible repeat (first | refine blk_drewN ?_ _ | refine blk_drew ?_ | refine blk_alloc ?_ _)); refine blk_far ?_ NB134_135.out _; (with_reducible repeat (first | refine blk_drewN ?_ _ | refine blk_drew ?_ | refine blk_alloc ?_ _)); refine blk_far ?_ NB134_135.out _; (with_reducible repeat (first | refine blk_drewN ?_ _ | refine blk_drew ?_ | refine blk_alloc ?_ _)); exact BK134.out) Tryd.underlying49 rfl kk) rfl ?_
     exact ⟨pe, pw⟩
    replace c61 := Bool.eq_false_iff.mpr c61
    subst c61
    have H1 : (if x136000_34 = true then (some (x136000_34, a0_1, x136002_34, a0_3, true)) else (if a0_1 = true then (some (x136000_34, a0_1, x136002_34, a0_3, true)) else (if x136002_34 > a0_3 then (some (false, false, 0, 0, false)) else (some (x136000_34, a0_1, x136002_34, a0_3, true))))) = some (r1, r2, r3, r4, r5) := by rw [if_neg (show ¬ (false = true) by decide)] at H; exact H
    clear H
    have H := H1
    clear H1
    by_cases c105 : x136000_34 = true
    ·subst c105
     have H1 : (some (true, a0_1, x136002_34, a0_3, true)) = some (r1, r2, r3, r4, r5) := by rw [if_pos rfl] at H; exact H
     clear H
     have H := H1
     clear H1
     simp only [Option.some.injEq, Prod.mk.injEq] at H
     obtain ⟨rfl, rfl, rfl, rfl, rfl⟩ := H
     have hnb106 := NB135_132.out
     have hnc106 := NB132_135.out
     have hnb107 := NB135_133.out
     have hnc107 := NB133_135.out
     have hnb108 := NB135_134.out
     have hnc108 := NB134_135.out
     have hcz109_0 : wc.cell? ⟨gb135, 0, none⟩ = some (.bool true) := bc BK135 0
     have hcz109_1 : wc.cell? ⟨gb135, 1, none⟩ = some (.bool a0_1) := bc BK135 1
     have hcz109_2 : wc.cell? ⟨gb135, 2, none⟩ = some (.int .i64 x136002_34) := bc BK135 2
     have hcz109_3 : wc.cell? ⟨gb135, 3, none⟩ = some (.int .i64 a0_3) := bc BK135 3
     have hfz109_0 := blk_frozen BK135.out 0
     have hfz109_1 := blk_frozen BK135.out 1
     have hfz109_2 := blk_frozen BK135.out 2
     have hfz109_3 := blk_frozen BK135.out 3
     have hnb110 := NB134_132.out
     have hnc110 := NB132_134.out
     have hnb111 := NB134_133.out
     have hnc111 := NB133_134.out
     have hcz112_0 : wc.cell? ⟨gb134, 0, none⟩ = some (.bool false) := bc BK134 0
     have hcz112_1 : wc.cell? ⟨gb134, 1, none⟩ = some (.bool false) := bc BK134 1
     have hcz112_2 : wc.cell? ⟨gb134, 2, none⟩ = some (.int .i64 0) := bc BK134 2
     have hcz112_3 : wc.cell? ⟨gb134, 3, none⟩ = some (.int .i64 0) := bc BK134 3
     have hfz112_0 := blk_frozen BK134.out 0
     have hfz112_1 := blk_frozen BK134.out 1
     have hfz112_2 := blk_frozen BK134.out 2
     have hfz112_3 := blk_frozen BK134.out 3
     go_wp2
     refine bodyPost_ret (results_ct rfl _ _ gb134 49 #[.bool true, .bool a0_1, .int .i64 x136002_34, .int .i64 a0_3] (0, 0) _ rfl (by (with_reducible repeat (first | refine blk_drewN ?_ _ | refine blk_drew ?_ | refine blk_alloc ?_ _)); refine blk_put (cs := #[.bool true, .bool a0_1, .int .i64 x136002_34, .int .i64 0]) ?_ 3 _ rfl; (with_reducible repeat (first | refine blk_drewN ?_ _ | refine blk_drew ?_ | refine blk_alloc ?_ _)); refine blk_put (cs := #[.bool true, .bool a0_1, .int .i64 0, .int .i64 0]) ?_ 2 _ rfl; (with_reducible repeat (first | refine blk_drewN ?_ _ | refine blk_drew ?_ | refine blk_alloc ?_ _)); refine blk_put (cs := #[.bool true, .bool false, .int .i64 0, .int .i64 0]) ?_ 1 _ rfl; (with_reducible repeat (first | refine blk_drewN ?_ _ | refine blk_drew ?_ | refine blk_alloc ?_ _)); refine blk_put (cs := #[.bool false, .bool false, .int .i64 0, .int .i64 0]) ?_ 0 _ rfl; (with_reducible repeat (first | refine blk_drewN ?_ _ | refine blk_drew ?_ | refine blk_alloc ?_ _)); exact BK134.out) Tryd.underlying49 rfl kk) rfl ?_
     exact ⟨pe, pw⟩
    replace c105 := Bool.eq_false_iff.mpr c105
    subst c105
    have H1 : (if a0_1 = true then (some (false, a0_1, x136002_34, a0_3, true)) else (if x136002_34 > a0_3 then (some (false, false, 0, 0, false)) else (some (false, a0_1, x136002_34, a0_3, true)))) = some (r1, r2, r3, r4, r5) := by rw [if_neg (show ¬ (false = true) by decide)] at H; exact H
    clear H
    have H := H1
    clear H1
    by_cases c113 : a0_1 = true
    ·subst c113
     have H1 : (some (false, true, x136002_34, a0_3, true)) = some (r1, r2, r3, r4, r5) := by rw [if_pos rfl] at H; exact H
     clear H
     have H := H1
     clear H1
     simp only [Option.some.injEq, Prod.mk.injEq] at H
     obtain ⟨rfl, rfl, rfl, rfl, rfl⟩ := H
     have hnb114 := NB135_132.out
     have hnc114 := NB132_135.out
     have hnb115 := NB135_133.out
     have hnc115 := NB133_135.out
     have hnb116 := NB135_134.out
     have hnc116 := NB134_135.out
     have hcz117_0 : wc.cell? ⟨gb135, 0, none⟩ = some (.bool false) := bc BK135 0
     have hcz117_1 : wc.cell? ⟨gb135, 1, none⟩ = some (.bool true) := bc BK135 1
     have hcz117_2 : wc.cell? ⟨gb135, 2, none⟩ = some (.int .i64 x136002_34) := bc BK135 2
     have hcz117_3 : wc.cell? ⟨gb135, 3, none⟩ = some (.int .i64 a0_3) := bc BK135 3
     have hfz117_0 := blk_frozen BK135.out 0
     have hfz117_1 := blk_frozen BK135.out 1
     have hfz117_2 := blk_frozen BK135.out 2
     have hfz117_3 := blk_frozen BK135.out 3
     have hnb118 := NB134_132.out
     have hnc118 := NB132_134.out
     have hnb119 := NB134_133.out
     have hnc119 := NB133_134.out
     have hcz120_0 : wc.cell? ⟨gb134, 0, none⟩ = some (.bool false) := bc BK134 0
     have hcz120_1 : wc.cell? ⟨gb134, 1, none⟩ = some (.bool false) := bc BK134 1
     have hcz120_2 : wc.cell? ⟨gb134, 2, none⟩ = some (.int .i64 0) := bc BK134 2
     have hcz120_3 : wc.cell? ⟨gb134, 3, none⟩ = some (.int .i64 0) := bc BK134 3
     have hfz120_0 := blk_frozen BK134.out 0
     have hfz120_1 := blk_frozen BK134.out 1
     have hfz120_2 := blk_frozen BK134.out 2
     have hfz120_3 := blk_frozen BK134.out 3
     go_wp2
     refine bodyPost_ret (results_ct rfl _ _ gb134 49 #[.bool false, .bool true, .int .i64 x136002_34, .int .i64 a0_3] (0, 0) _ rfl (by (with_reducible repeat (first | refine blk_drewN ?_ _ | refine blk_drew ?_ | refine blk_alloc ?_ _)); refine blk_put (cs := #[.bool false, .bool true, .int .i64 x136002_34, .int .i64 0]) ?_ 3 _ rfl; (with_reducible repeat (first | refine blk_drewN ?_ _ | refine blk_drew ?_ | refine blk_alloc ?_ _)); refine blk_put (cs := #[.bool false, .bool true, .int .i64 0, .int .i64 0]) ?_ 2 _ rfl; (with_reducible repeat (first | refine blk_drewN ?_ _ | refine blk_drew ?_ | refine blk_alloc ?_ _)); refine blk_put (cs := #[.bool false, .bool false, .int .i64 0, .int .i64 0]) ?_ 1 _ rfl; (with_reducible repeat (first | refine blk_drewN ?_ _ | refine blk_drew ?_ | refine blk_alloc ?_ _)); refine blk_put (cs := #[.bool false, .bool false, .int .i64 0, .int .i64 0]) ?_ 0 _ rfl; (with_reducible repeat (first | refine blk_drewN ?_ _ | refine blk_drew ?_ | refine blk_alloc ?_ _)); exact BK134.out) Tryd.underlying49 rfl kk) rfl ?_
     exact ⟨pe, pw⟩
    replace c113 := Bool.eq_false_iff.mpr c113
    subst c113
    have H1 : (if x136002_34 > a0_3 then (some (false, false, 0, 0, false)) else (some (false, false, x136002_34, a0_3, true))) = some (r1, r2, r3, r4, r5) := by rw [if_neg (show ¬ (false = true) by decide)] at H; exact H
    clear H
    have H := H1
    clear H1
    by_cases c121 : x136002_34 > a0_3
    ·rw [if_pos c121] at H
     have c121b0 : decide (a0_3 < x136002_34) = true := decide_eq_true c121
     clear c121
     simp only [Option.some.injEq, Prod.mk.injEq] at H
     obtain ⟨rfl, rfl, rfl, rfl, rfl⟩ := H
     have hnb122 := NB135_132.out
     have hnc122 := NB132_135.out
     have hnb123 := NB135_133.out
     have hnc123 := NB133_135.out
     have hnb124 := NB135_134.out
     have hnc124 := NB134_135.out
     have hcz125_0 : wc.cell? ⟨gb135, 0, none⟩ = some (.bool false) := bc BK135 0
     have hcz125_1 : wc.cell? ⟨gb135, 1, none⟩ = some (.bool false) := bc BK135 1
     have hcz125_2 : wc.cell? ⟨gb135, 2, none⟩ = some (.int .i64 x136002_34) := bc BK135 2
     have hcz125_3 : wc.cell? ⟨gb135, 3, none⟩ = some (.int .i64 a0_3) := bc BK135 3
     have hfz125_0 := blk_frozen BK135.out 0
     have hfz125_1 := blk_frozen BK135.out 1
     have hfz125_2 := blk_frozen BK135.out 2
     have hfz125_3 := blk_frozen BK135.out 3
     have hnb126 := NB134_132.out
     have hnc126 := NB132_134.out
     have hnb127 := NB134_133.out
     have hnc127 := NB133_134.out
     have hcz128_0 : wc.cell? ⟨gb134, 0, none⟩ = some (.bool false) := bc BK134 0
     have hcz128_1 : wc.cell? ⟨gb134, 1, none⟩ = some (.bool false) := bc BK134 1
     have hcz128_2 : wc.cell? ⟨gb134, 2, none⟩ = some (.int .i64 0) := bc BK134 2
     have hcz128_3 : wc.cell? ⟨gb134, 3, none⟩ = some (.int .i64 0) := bc BK134 3
     have hfz128_0 := blk_frozen BK134.out 0
     have hfz128_1 := blk_frozen BK134.out 1
     have hfz128_2 := blk_frozen BK134.out 2
     have hfz128_3 := blk_frozen BK134.out 3
     go_wp2
     refine bodyPost_ret (results_ct rfl _ _ gb134 49 #[.bool false, .bool false, .int .i64 0, .int .i64 0] (0, 0) _ rfl (by (with_reducible repeat (first | refine blk_drewN ?_ _ | refine blk_drew ?_ | refine blk_alloc ?_ _)); refine blk_put (cs := #[.bool false, .bool false, .int .i64 0, .int .i64 0]) ?_ 3 _ rfl; (with_reducible repeat (first | refine blk_drewN ?_ _ | refine blk_drew ?_ | refine blk_alloc ?_ _)); refine blk_put (cs := #[.bool false, .bool false, .int .i64 0, .int .i64 0]) ?_ 2 _ rfl; (with_reducible repeat (first | refine blk_drewN ?_ _ | refine blk_drew ?_ | refine blk_alloc ?_ _)); refine blk_put (cs := #[.bool false, .bool false, .int .i64 0, .int .i64 0]) ?_ 1 _ rfl; (with_reducible repeat (first | refine blk_drewN ?_ _ | refine blk_drew ?_ | refine blk_alloc ?_ _)); refine blk_put (cs := #[.bool false, .bool false, .int .i64 0, .int .i64 0]) ?_ 0 _ rfl; (with_reducible repeat (first | refine blk_drewN ?_ _ | refine blk_drew ?_ | refine blk_alloc ?_ _)); exact BK134.out) Tryd.underlying49 rfl kk) rfl ?_
     exact ⟨pe, pw⟩
    rw [if_neg c121] at H
    have c121b0 : decide (a0_3 < x136002_34) = false := decide_eq_false c121
    clear c121
    simp only [Option.some.injEq, Prod.mk.injEq] at H
    obtain ⟨rfl, rfl, rfl, rfl, rfl⟩ := H
    have hnb129 := NB135_132.out
    have hnc129 := NB132_135.out
    have hnb130 := NB135_133.out
    have hnc130 := NB133_135.out
    have hnb131 := NB135_134.out
    have hnc131 := NB134_135.out
    have hcz132_0 : wc.cell? ⟨gb135, 0, none⟩ = some (.bool false) := bc BK135 0
    have hcz132_1 : wc.cell? ⟨gb135, 1, none⟩ = some (.bool false) := bc BK135 1
    have hcz132_2 : wc.cell? ⟨gb135, 2, none⟩ = some (.int .i64 x136002_34) := bc BK135 2
    have hcz132_3 : wc.cell? ⟨gb135, 3, none⟩ = some (.int .i64 a0_3) := bc BK135 3
    have hfz132_0 := blk_frozen BK135.out 0
    have hfz132_1 := blk_frozen BK135.out 1
    have hfz132_2 := blk_frozen BK135.out 2
    have hfz132_3 := blk_frozen BK135.out 3
    have hnb133 := NB134_132.out
    have hnc133 := NB132_134.out
    have hnb134 := NB134_133.out
    have hnc134 := NB133_134.out
    have hcz135_0 : wc.cell? ⟨gb134, 0, none⟩ = some (.bool false) := bc BK134 0
    have hcz135_1 : wc.cell? ⟨gb134, 1, none⟩ = some (.bool false) := bc BK134 1
    have hcz135_2 : wc.cell? ⟨gb134, 2, none⟩ = some (.int .i64 0) := bc BK134 2
    have hcz135_3 : wc.cell? ⟨gb134, 3, none⟩ = some (.int .i64 0) := bc BK134 3
    have hfz135_0 := blk_frozen BK134.out 0
    have hfz135_1 := blk_frozen BK134.out 1
    have hfz135_2 := blk_frozen BK134.out 2
    have hfz135_3 := blk_frozen BK134.out 3
    go_wp2
    refine bodyPost_ret (results_ct rfl _ _ gb134 49 #[.bool false, .bool false, .int .i64 x136002_34, .int .i64 a0_3] (0, 0) _ rfl (by (with_reducible repeat (first | refine blk_drewN ?_ _ | refine blk_drew ?_ | refine blk_alloc ?_ _)); refine blk_put (cs := #[.bool false, .bool false, .int .i64 x136002_34, .int .i64 0]) ?_ 3 _ rfl; (with_reducible repeat (first | refine blk_drewN ?_ _ | refine blk_drew ?_ | refine blk_alloc ?_ _)); refine blk_put (cs := #[.bool false, .bool false, .int .i64 0, .int .i64 0]) ?_ 2 _ rfl; (with_reducible repeat (first | refine blk_drewN ?_ _ | refine blk_drew ?_ | refine blk_alloc ?_ _)); refine blk_put (cs := #[.bool false, .bool false, .int .i64 0, .int .i64 0]) ?_ 1 _ rfl; (with_reducible repeat (first | refine blk_drewN ?_ _ | refine blk_drew ?_ | refine blk_alloc ?_ _)); refine blk_put (cs := #[.bool false, .bool false, .int .i64 0, .int .i64 0]) ?_ 0 _ rfl; (with_reducible repeat (first | refine blk_drewN ?_ _ | refine blk_drew ?_ | refine blk_alloc ?_ _)); exact BK134.out) Tryd.underlying49 rfl kk) rfl ?_
    exact ⟨pe, pw⟩

end Go.Proofs.YtcalcnfppnbooaaDoor.R
