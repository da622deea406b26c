-- Written by wip/xprint.py (the session's program over the kit's print).
import Derived.Test.YtimgfgambeffeaaDoorEb
import Derived.Test.YtimgfgambeffeaaDoorI0
namespace Go.Proofs.YtimgfgambeffeaaDoor.I
open Go.RowKit Go.Proofs.YtimgfgambeffeaaDoorW.PrintWords Go.Proofs.YtimgfgambeffeaaDoorW.PrintLast Go.Proofs.YtimgfgambeffeaaDoorW.PrintMore Go.Proofs.Rcg
attribute [local go_sem] max2_int min2_int max_two min_two max_three min_three max_four min_four   -- for this text's walks alone
set_option linter.unusedVariables false
set_option linter.unusedSimpArgs false

/-! ### R2_MetOf: function 37 -/
mutual
def R2_MetOf.j0 : Nat → Bool → Bool → Bool → Int → Int → Bool → Bool → Int → Int → Bool → Bool → Int → Int → Option (Bool × Bool × Int × Int × Bool)
 | 0, _, _, _, _, _, _, _, _, _, _, _, _, _ => none
 | k + 1, x21, x177000, x177001, x177002, x177003, x178000, x178001, x178002, x178003, x180000, x180001, x180002, x180003 => if x21 = true then (R2_MetOf.j1 k x177000 x177001 x177002 x177003 x178000 x178001 x178002 x178003 false x180001 x178002 x180003) else (R2_MetOf.j1 k x177000 x177001 x177002 x177003 x178000 x178001 x178002 x178003 x180000 x180001 x180002 x180003)
def R2_MetOf.j1 : Nat → Bool → Bool → Int → Int → Bool → Bool → Int → Int → Bool → Bool → Int → Int → Option (Bool × Bool × Int × Int × Bool)
 | 0, _, _, _, _, _, _, _, _, _, _, _, _ => none
 | k + 1, x177000, x177001, x177002, x177003, x178000, x178001, x178002, x178003, x180000, x180001, x180002, x180003 => if x178001 = true then (R2_MetOf.j2 k false x178000 x178001 x178002 x178003 x180000 x180001 x180002 x180003) else (if x177001 = true then (R2_MetOf.j2 k true x178000 x178001 x178002 x178003 x180000 x180001 x180002 x180003) else (R2_MetOf.j2 k (decide (x178003 < x177003)) x178000 x178001 x178002 x178003 x180000 x180001 x180002 x180003))
def R2_MetOf.j2 : Nat → Bool → Bool → Bool → Int → Int → Bool → Bool → Int → Int → Option (Bool × Bool × Int × Int × Bool)
 | 0, _, _, _, _, _, _, _, _, _ => none
 | k + 1, x39, x178000, x178001, x178002, x178003, x180000, x180001, x180002, x180003 => if x39 = true then (if x180000 = true then (some (x180000, false, x180002, x178003, true)) else (if x180002 > x178003 then (some (false, false, 0, 0, false)) else (some (x180000, false, x180002, x178003, true)))) else (if x180000 = true then (some (x180000, x180001, x180002, x180003, true)) else (if x180001 = true then (some (x180000, x180001, x180002, x180003, true)) else (if x180002 > x180003 then (some (false, false, 0, 0, false)) else (some (x180000, x180001, x180002, x180003, true)))))
end
def R2_MetOf.f (k : Nat) (a0_0 : Bool) (a0_1 : Bool) (a0_2 : Int) (a0_3 : Int) (a1_0 : Bool) (a1_1 : Bool) (a1_2 : Int) (a1_3 : Int) : Option (Bool × Bool × Int × Int × Bool) := if a1_0 = true then (R2_MetOf.j0 k false a0_0 a0_1 a0_2 a0_3 a1_0 a1_1 a1_2 a1_3 a0_0 a0_1 a0_2 a0_3) else (if a0_0 = true then (R2_MetOf.j0 k true a0_0 a0_1 a0_2 a0_3 a1_0 a1_1 a1_2 a1_3 a0_0 a0_1 a0_2 a0_3) else (R2_MetOf.j0 k (decide (a1_2 > a0_2)) a0_0 a0_1 a0_2 a0_3 a1_0 a1_1 a1_2 a1_3 a0_0 a0_1 a0_2 a0_3))
theorem R2_MetOf.mono_l : ∀ k, (∀ y0 y1 y2 y3 y4 y5 y6 y7 y8 y9 y10 y11 y12, LeO (R2_MetOf.j0 k y0 y1 y2 y3 y4 y5 y6 y7 y8 y9 y10 y11 y12) (R2_MetOf.j0 (k + 1) y0 y1 y2 y3 y4 y5 y6 y7 y8 y9 y10 y11 y12)) ∧ (∀ y0 y1 y2 y3 y4 y5 y6 y7 y8 y9 y10 y11, LeO (R2_MetOf.j1 k y0 y1 y2 y3 y4 y5 y6 y7 y8 y9 y10 y11) (R2_MetOf.j1 (k + 1) y0 y1 y2 y3 y4 y5 y6 y7 y8 y9 y10 y11)) ∧ (∀ y0 y1 y2 y3 y4 y5 y6 y7 y8, LeO (R2_MetOf.j2 k y0 y1 y2 y3 y4 y5 y6 y7 y8) (R2_MetOf.j2 (k + 1) y0 y1 y2 y3 y4 y5 y6 y7 y8))
 | 0 => ⟨fun _ _ _ _ _ _ _ _ _ _ _ _ _ r h => by simp [R2_MetOf.j0] at h, fun _ _ _ _ _ _ _ _ _ _ _ _ r h => by simp [R2_MetOf.j1] at h, fun _ _ _ _ _ _ _ _ _ r h => by simp [R2_MetOf.j2] at h⟩
 | k + 1 => by
  obtain ⟨ih0, ih1, ih2⟩ := R2_MetOf.mono_l k
  refine ⟨?_, ?_, ?_⟩
  ·intro y0 y1 y2 y3 y4 y5 y6 y7 y8 y9 y10 y11 y12
   unfold R2_MetOf.j0
   repeat' first
   | (with_reducible exact ih0 _ _ _ _ _ _ _ _ _ _ _ _ _)
   | (with_reducible exact ih1 _ _ _ _ _ _ _ _ _ _ _ _)
   | (with_reducible exact ih2 _ _ _ _ _ _ _ _ _)
   | (with_reducible exact LeO.refl _)
   | (with_reducible exact LeO.none _)
   | (with_reducible refine LeO.ite ?_ ?_)
   | (with_reducible refine LeO.bind ?_ (fun _ => ?_))
   | exact ih0 _ _ _ _ _ _ _ _ _ _ _ _ _
   | exact ih1 _ _ _ _ _ _ _ _ _ _ _ _
   | exact ih2 _ _ _ _ _ _ _ _ _
   | exact LeO.none _
   | refine LeO.ite ?_ ?_
   | refine LeO.bind ?_ (fun _ => ?_)
  ·intro y0 y1 y2 y3 y4 y5 y6 y7 y8 y9 y10 y11
   unfold R2_MetOf.j1
   repeat' first
   | (with_reducible exact ih0 _ _ _ _ _ _ _ _ _ _ _ _ _)
   | (with_reducible exact ih1 _ _ _ _ _ _ _ _ _ _ _ _)
   | (with_reducible exact ih2 _ _ _ _ _ _ _ _ _)
   | (with_reducible exact LeO.refl _)
   | (with_reducible exact LeO.none _)
   | (with_reducible refine LeO.ite ?_ ?_)
   | (with_reducible refine LeO.bind ?_ (fun _ => ?_))
   | exact ih0 _ _ _ _ _ _ _ _ _ _ _ _ _
   | exact ih1 _ _ _ _ _ _ _ _ _ _ _ _
   | exact ih2 _ _ _ _ _ _ _ _ _
   | exact LeO.none _
   | refine LeO.ite ?_ ?_
   | refine LeO.bind ?_ (fun _ => ?_)
  intro y0 y1 y2 y3 y4 y5 y6 y7 y8
  unfold R2_MetOf.j2
  repeat' first
  | (with_reducible exact ih0 _ _ _ _ _ _ _ _ _ _ _ _ _)
  | (with_reducible exact ih1 _ _ _ _ _ _ _ _ _ _ _ _)
  | (with_reducible exact ih2 _ _ _ _ _ _ _ _ _)
  | (with_reducible exact LeO.refl _)
  | (with_reducible exact LeO.none _)
  | (with_reducible refine LeO.ite ?_ ?_)
  | (with_reducible refine LeO.bind ?_ (fun _ => ?_))
  | exact ih0 _ _ _ _ _ _ _ _ _ _ _ _ _
  | exact ih1 _ _ _ _ _ _ _ _ _ _ _ _
  | exact ih2 _ _ _ _ _ _ _ _ _
  | exact LeO.none _
  | refine LeO.ite ?_ ?_
  | refine LeO.bind ?_ (fun _ => ?_)
theorem R2_MetOf.mono : ∀ a0 a1 a2 a3 a4 a5 a6 a7 k, LeO (R2_MetOf.f k a0 a1 a2 a3 a4 a5 a6 a7) (R2_MetOf.f (k + 1) a0 a1 a2 a3 a4 a5 a6 a7) := by
 intro a0 a1 a2 a3 a4 a5 a6 a7 k
 obtain ⟨ih0, ih1, ih2⟩ := R2_MetOf.mono_l k
 unfold R2_MetOf.f
 repeat' first
   | (with_reducible exact ih0 _ _ _ _ _ _ _ _ _ _ _ _ _)
   | (with_reducible exact ih1 _ _ _ _ _ _ _ _ _ _ _ _)
   | (with_reducible exact ih2 _ _ _ _ _ _ _ _ _)
   | (with_reducible exact LeO.refl _)
   | (with_reducible exact LeO.none _)
   | (with_reducible refine LeO.ite ?_ ?_)
   | (with_reducible refine LeO.bind ?_ (fun _ => ?_))
   | exact ih0 _ _ _ _ _ _ _ _ _ _ _ _ _
   | exact ih1 _ _ _ _ _ _ _ _ _ _ _ _
   | exact ih2 _ _ _ _ _ _ _ _ _
   | exact LeO.none _
   | refine LeO.ite ?_ ?_
   | refine LeO.bind ?_ (fun _ => ?_)
set_option maxHeartbeats 8000000 in
set_option maxRecDepth 100000 in
theorem R2_MetOf.calls [EA] (k : Nat) (a0_0 : Bool) (a0_1 : Bool) (a0_2 : Int) (a0_3 : Int) (a1_0 : Bool) (a1_1 : Bool) (a1_2 : Int) (a1_3 : Int) (r1 : Bool) (r2 : Bool) (r3 : Int) (r4 : Int) (r5 : Bool) (w : World) (h : R2_MetOf.f k a0_0 a0_1 a0_2 a0_3 a1_0 a1_1 a1_2 a1_3 = some (r1, r2, r3, r4, r5)) :
  Calls Tryd.prog 37 #[.agg #[.bool a0_0, .bool a0_1, .int .i64 a0_2, .int .i64 a0_3], .agg #[.bool a1_0, .bool a1_1, .int .i64 a1_2, .int .i64 a1_3]] w fun e w' => e = .returned (.tuple #[.agg #[.bool r1, .bool r2, .int .i64 r3, .int .i64 r4], .bool r5]) ∧ Below w.heap.size w w' := by
 have hu23 := Tryd.underlying23
 have HB := am (Below.refl w.heap.size w)
 have H : (if a1_0 = true then (R2_MetOf.j0 k false a0_0 a0_1 a0_2 a0_3 a1_0 a1_1 a1_2 a1_3 a0_0 a0_1 a0_2 a0_3) else (if a0_0 = true then (R2_MetOf.j0 k true a0_0 a0_1 a0_2 a0_3 a1_0 a1_1 a1_2 a1_3 a0_0 a0_1 a0_2 a0_3) else (R2_MetOf.j0 k (decide (a1_2 > a0_2)) a0_0 a0_1 a0_2 a0_3 a1_0 a1_1 a1_2 a1_3 a0_0 a0_1 a0_2 a0_3))) = some (r1, r2, r3, r4, r5) := h
 clear h
 have HC3 := am H
 clear H
 go_enter Tryd.func37, Tryd.ntmps37
 go_upto_region 2 with (first | ((with_reducible refine gate_dst (N := 2) rfl ?_); refine box_event ?hg (N := 2) ?hd (cs := #[.bool a0_0, .bool a0_1, .int .i64 a0_2, .int .i64 a0_3]) (t := 23) ?hr ?_; (case hd => rfl); (case hg => rfl); (case hr => first | (go_simp; done) | (go_simp; rfl)); intro gb176 hg w4 hbox hb; have n0_ := am (below_step pw hb); have n1_ := am (hbox); have n2_ := am ((by rw [hg]; exact (below_size pw) : w.heap.size ≤ gb176)); have n3_ := am ((by rw [hg]; exact (below_size pw) : w.heap.size ≤ gb176)); clear HB; have HB := n0_; have BK176 := n1_; have GW176 := n2_; have GE176 := n3_; clear n0_ n1_ n2_ n3_; clear hb hbox hg) | ((with_reducible refine gate_dst (N := 3) rfl ?_); refine box_event ?hg (N := 3) ?hd (cs := #[.bool a1_0, .bool a1_1, .int .i64 a1_2, .int .i64 a1_3]) (t := 23) ?hr ?_; (case hd => rfl); (case hg => rfl); (case hr => first | (go_simp; done) | (go_simp; rfl)); intro gb177 hg w5 hbox hb; have n0_ := bb BK176 hb; have n1_ := am (below_step pw hb); have n2_ := am (hbox); have n3_ := am ((by rw [hg]; exact (below_size pw) : w.heap.size ≤ gb177)); have n4_ := am ((by rw [hg]; exact (below_size pw) : w.heap.size ≤ gb177)); have n5_ := am ((by rw [hg]; exact Nat.ne_of_lt (blk_lt pk) : gb176 ≠ gb177)); have n6_ := am ((by rw [hg]; exact Nat.ne_of_gt (blk_lt pk) : gb177 ≠ gb176)); clear BK176; clear HB; have BK176 := n0_; have HB := n1_; have BK177 := n2_; have GW177 := n3_; have GE177 := n4_; have NB176_177 := n5_; have NB177_176 := n6_; clear n0_ n1_ n2_ n3_ n4_ n5_ n6_; clear hb hbox hg) | ((with_reducible refine gate_dst (N := 4) rfl ?_); refine box_event ?hg (N := 4) ?hd (cs := #[.bool false, .bool false, .int .i64 0, .int .i64 0]) (t := 23) ?hr ?_; (case hd => rfl); (case hg => rfl); (case hr => first | (go_simp; done) | (go_simp; rfl)); intro gb178 hg w6 hbox hb; have n0_ := bb BK176 hb; have n1_ := bb BK177 hb; have n2_ := am (below_step pw hb); have n3_ := am (hbox); have n4_ := am ((by rw [hg]; exact (below_size pw) : w.heap.size ≤ gb178)); have n5_ := am ((by rw [hg]; exact (below_size pw) : w.heap.size ≤ gb178)); have n6_ := am ((by rw [hg]; exact Nat.ne_of_lt (blk_lt pk) : gb176 ≠ gb178)); have n7_ := am ((by rw [hg]; exact Nat.ne_of_gt (blk_lt pk) : gb178 ≠ gb176)); have n8_ := am ((by rw [hg]; exact Nat.ne_of_lt (blk_lt pk) : gb177 ≠ gb178)); have n9_ := am ((by rw [hg]; exact Nat.ne_of_gt (blk_lt pk) : gb178 ≠ gb177)); clear BK176; clear BK177; clear HB; have BK176 := n0_; have BK177 := n1_; have HB := n2_; have BK178 := n3_; have GW178 := n4_; have GE178 := n5_; have NB176_178 := n6_; have NB178_176 := n7_; have NB177_178 := n8_; have NB178_177 := n9_; clear n0_ n1_ n2_ n3_ n4_ n5_ n6_ n7_ n8_ n9_; clear hb hbox hg; have hnb7 := NB176_177.out; have hnc7 := NB177_176.out; have hnb8 := NB176_178.out; have hnc8 := NB178_176.out; have hcz9_0 : w6.cell? ⟨gb176, 0, none⟩ = some (.bool a0_0) := bc BK176 0; have hcz9_1 : w6.cell? ⟨gb176, 1, none⟩ = some (.bool a0_1) := bc BK176 1; have hcz9_2 : w6.cell? ⟨gb176, 2, none⟩ = some (.int .i64 a0_2) := bc BK176 2; have hcz9_3 : w6.cell? ⟨gb176, 3, none⟩ = some (.int .i64 a0_3) := bc BK176 3; have hfz9_0 := blk_frozen BK176.out 0; have hfz9_1 := blk_frozen BK176.out 1; have hfz9_2 := blk_frozen BK176.out 2; have hfz9_3 := blk_frozen BK176.out 3) | ((with_reducible refine gate_dst (N := 6) rfl ?_); refine box_event ?hg (N := 6) ?hd (cs := #[.bool false, .bool false, .int .i64 0, .int .i64 0]) (t := 23) ?hr ?_; (case hd => rfl); (case hg => rfl); (case hr => first | (go_simp; done) | (go_simp; rfl)); intro gb179 hg w10 hbox hb; have n0_ := bb BK176 hb; have n1_ := bb BK177 hb; have n2_ := bb BK178 hb; have n3_ := am (below_step pw hb); have n4_ := am (hbox); have n5_ := am ((by rw [hg]; exact (below_size pw) : w.heap.size ≤ gb179)); have n6_ := am ((by rw [hg]; exact (below_size pw) : w.heap.size ≤ gb179)); have n7_ := am ((by rw [hg]; exact Nat.ne_of_lt (blk_lt pk) : gb176 ≠ gb179)); have n8_ := am ((by rw [hg]; exact Nat.ne_of_gt (blk_lt pk) : gb179 ≠ gb176)); have n9_ := am ((by rw [hg]; exact Nat.ne_of_lt (blk_lt pk) : gb177 ≠ gb179)); have n10_ := am ((by rw [hg]; exact Nat.ne_of_gt (blk_lt pk) : gb179 ≠ gb177)); have n11_ := am ((by rw [hg]; exact Nat.ne_of_lt (blk_lt pk) : gb178 ≠ gb179)); have n12_ := am ((by rw [hg]; exact Nat.ne_of_gt (blk_lt pk) : gb179 ≠ gb178)); clear BK176; clear BK177; clear BK178; clear HB; have BK176 := n0_; have BK177 := n1_; have BK178 := n2_; have HB := n3_; have BK179 := n4_; have GW179 := n5_; have GE179 := n6_; have NB176_179 := n7_; have NB179_176 := n8_; have NB177_179 := n9_; have NB179_177 := n10_; have NB178_179 := n11_; have NB179_178 := n12_; clear n0_ n1_ n2_ n3_ n4_ n5_ n6_ n7_ n8_ n9_ n10_ n11_ n12_; clear hb hbox hg; have hnb11 := NB179_176.out; have hnc11 := NB176_179.out; have hnb12 := NB179_177.out; have hnc12 := NB177_179.out; have hnb13 := NB179_178.out; have hnc13 := NB178_179.out; have hcz14_0 : w10.cell? ⟨gb179, 0, none⟩ = some (.bool false) := bc BK179 0; have hcz14_1 : w10.cell? ⟨gb179, 1, none⟩ = some (.bool false) := bc BK179 1; have hcz14_2 : w10.cell? ⟨gb179, 2, none⟩ = some (.int .i64 0) := bc BK179 2; have hcz14_3 : w10.cell? ⟨gb179, 3, none⟩ = some (.int .i64 0) := bc BK179 3; have hfz14_0 := blk_frozen BK179.out 0; have hfz14_1 := blk_frozen BK179.out 1; have hfz14_2 := blk_frozen BK179.out 2; have hfz14_3 := blk_frozen BK179.out 3))
 (try simp only [Act.put, List.setIfInBounds_toArray, List.set_cons_zero, List.set_cons_succ])
 go_cut [21] (fun v21 wc => ∃ (kq : Nat) (x21_2 : Bool), v21 = .bool x21_2 ∧ Aside0 (R2_MetOf.j0 kq x21_2 a0_0 a0_1 a0_2 a0_3 a1_0 a1_1 a1_2 a1_3 a0_0 a0_1 a0_2 a0_3 = some (r1, r2, r3, r4, r5)) ∧ Aside0 (kq ≤ k) ∧ Aside0 (wc.heap[gb176]? = some (.cells #[.bool a0_0, .bool a0_1, .int .i64 a0_2, .int .i64 a0_3] 23 (0, 0))) ∧ Aside0 (wc.heap[gb177]? = some (.cells #[.bool a1_0, .bool a1_1, .int .i64 a1_2, .int .i64 a1_3] 23 (0, 0))) ∧ Aside0 (wc.heap[gb178]? = some (.cells #[.bool false, .bool false, .int .i64 0, .int .i64 0] 23 (0, 0))) ∧ Aside0 (wc.heap[gb179]? = some (.cells #[.bool a0_0, .bool a0_1, .int .i64 a0_2, .int .i64 a0_3] 23 (0, 0))) ∧ Aside0 (Below w.heap.size w wc))
 case first =>
  have H := HC3.out
  clear HC3
  by_cases c15 : a1_0 = true
  ·subst c15
   have H1 : (R2_MetOf.j0 k false a0_0 a0_1 a0_2 a0_3 true a1_1 a1_2 a1_3 a0_0 a0_1 a0_2 a0_3) = some (r1, r2, r3, r4, r5) := by rw [if_pos rfl] at H; exact H
   clear H
   have H := H1
   clear H1
   have H' := am H
   clear H
   have hnb16 := NB177_176.out
   have hnc16 := NB176_177.out
   have hnb17 := NB177_178.out
   have hnc17 := NB178_177.out
   have hnb18 := NB177_179.out
   have hnc18 := NB179_177.out
   have hcz19_0 : w10.cell? ⟨gb177, 0, none⟩ = some (.bool true) := bc BK177 0
   have hcz19_1 : w10.cell? ⟨gb177, 1, none⟩ = some (.bool a1_1) := bc BK177 1
   have hcz19_2 : w10.cell? ⟨gb177, 2, none⟩ = some (.int .i64 a1_2) := bc BK177 2
   have hcz19_3 : w10.cell? ⟨gb177, 3, none⟩ = some (.int .i64 a1_3) := bc BK177 3
   have hfz19_0 := blk_frozen BK177.out 0
   have hfz19_1 := blk_frozen BK177.out 1
   have hfz19_2 := blk_frozen BK177.out 2
   have hfz19_3 := blk_frozen BK177.out 3
   go_wp2
   go_meet
   case rel => exact ⟨_, (false), pr, H', ⟨by first | omega | exact Nat.le_refl _⟩, ⟨by (with_reducible repeat (first | refine blk_drewN ?_ _ | refine blk_drew ?_ | refine blk_alloc ?_ _)); refine blk_far ?_ NB176_179.out _; (with_reducible repeat (first | refine blk_drewN ?_ _ | refine blk_drew ?_ | refine blk_alloc ?_ _)); refine blk_far ?_ NB176_179.out _; (with_reducible repeat (first | refine blk_drewN ?_ _ | refine blk_drew ?_ | refine blk_alloc ?_ _)); refine blk_far ?_ NB176_179.out _; (with_reducible repeat (first | refine blk_drewN ?_ _ | refine blk_drew ?_ | refine blk_alloc ?_ _)); refine blk_far ?_ NB176_179.out _; (with_reducible repeat (first | refine blk_drewN ?_ _ | refine blk_drew ?_ | refine blk_alloc ?_ _)); exact BK176.out⟩, ⟨by (with_reducible repeat (first | refine blk_drewN ?_ _ | refine blk_drew ?_ | refine blk_alloc ?_ _)); refine blk_far ?_ NB177_179.out _; (with_reducible repeat (first | refine blk_drewN ?_ _ | refine blk_drew ?_ | refine blk_alloc ?_ _)); refine blk_far ?_ NB177_179.out _; (with_reducible repeat (first | refine blk_drewN ?_ _ | refine blk_drew ?_ | refine blk_alloc ?_ _)); refine blk_far ?_ NB177_179.out _; (with_reducible repeat (first | refine blk_drewN ?_ _ | refine blk_drew ?_ | refine blk_alloc ?_ _)); refine blk_far ?_ NB177_179.out _; (with_reducible repeat (first | refine blk_drewN ?_ _ | refine blk_drew ?_ | refine blk_alloc ?_ _)); exact BK177.out⟩, ⟨by (with_reducible repeat (first | refine blk_drewN ?_ _ | refine blk_drew ?_ | refine blk_alloc ?_ _)); refine blk_far ?_ NB178_179.out _; (with_reducible repeat (first | refine blk_drewN ?_ _ | refine blk_drew ?_ | refine blk_alloc ?_ _)); refine blk_far ?_ NB178_179.out _; (with_reducible repeat (first | refine blk_drewN ?_ _ | refine blk_drew ?_ | refine blk_alloc ?_ _)); refine blk_far ?_ NB178_179.out _; (with_reducible repeat (first | refine blk_drewN ?_ _ | refine blk_drew ?_ | refine blk_alloc ?_ _)); refine blk_far ?_ NB178_179.out _; (with_reducible repeat (first | refine blk_drewN ?_ _ | refine blk_drew ?_ | refine blk_alloc ?_ _)); exact BK178.out⟩, ⟨by (with_reducible repeat (first | refine blk_drewN ?_ _ | refine blk_drew ?_ | refine blk_alloc ?_ _)); refine blk_put (cs := #[.bool a0_0, .bool a0_1, .int .i64 a0_2, .int .i64 0]) ?_ 3 _ rfl; (with_reducible repeat (first | refine blk_drewN ?_ _ | refine blk_drew ?_ | refine blk_alloc ?_ _)); refine blk_put (cs := #[.bool a0_0, .bool a0_1, .int .i64 0, .int .i64 0]) ?_ 2 _ rfl; (with_reducible repeat (first | refine blk_drewN ?_ _ | refine blk_drew ?_ | refine blk_alloc ?_ _)); refine blk_put (cs := #[.bool a0_0, .bool false, .int .i64 0, .int .i64 0]) ?_ 1 _ rfl; (with_reducible repeat (first | refine blk_drewN ?_ _ | refine blk_drew ?_ | refine blk_alloc ?_ _)); refine blk_put (cs := #[.bool false, .bool false, .int .i64 0, .int .i64 0]) ?_ 0 _ rfl; (with_reducible repeat (first | refine blk_drewN ?_ _ | refine blk_drew ?_ | refine blk_alloc ?_ _)); exact BK179.out⟩, ⟨pw⟩⟩
  replace c15 := Bool.eq_false_iff.mpr c15
  subst c15
  have H1 : (if a0_0 = true then (R2_MetOf.j0 k true a0_0 a0_1 a0_2 a0_3 false a1_1 a1_2 a1_3 a0_0 a0_1 a0_2 a0_3) else (R2_MetOf.j0 k (decide (a1_2 > a0_2)) a0_0 a0_1 a0_2 a0_3 false a1_1 a1_2 a1_3 a0_0 a0_1 a0_2 a0_3)) = some (r1, r2, r3, r4, r5) := by rw [if_neg (show ¬ (false = true) by decide)] at H; exact H
  clear H
  have H := H1
  clear H1
  by_cases c20 : a0_0 = true
  ·subst c20
   have H1 : (R2_MetOf.j0 k true true a0_1 a0_2 a0_3 false a1_1 a1_2 a1_3 true a0_1 a0_2 a0_3) = some (r1, r2, r3, r4, r5) := by rw [if_pos rfl] at H; exact H
   clear H
   have H := H1
   clear H1
   have H' := am H
   clear H
   have hnb21 := NB177_176.out
   have hnc21 := NB176_177.out
   have hnb22 := NB177_178.out
   have hnc22 := NB178_177.out
   have hnb23 := NB177_179.out
   have hnc23 := NB179_177.out
   have hcz24_0 : w10.cell? ⟨gb177, 0, none⟩ = some (.bool false) := bc BK177 0
   have hcz24_1 : w10.cell? ⟨gb177, 1, none⟩ = some (.bool a1_1) := bc BK177 1
   have hcz24_2 : w10.cell? ⟨gb177, 2, none⟩ = some (.int .i64 a1_2) := bc BK177 2
   have hcz24_3 : w10.cell? ⟨gb177, 3, none⟩ = some (.int .i64 a1_3) := bc BK177 3
   have hfz24_0 := blk_frozen BK177.out 0
   have hfz24_1 := blk_frozen BK177.out 1
   have hfz24_2 := blk_frozen BK177.out 2
   have hfz24_3 := blk_frozen BK177.out 3
   have hnb25 := NB176_178.out
   have hnc25 := NB178_176.out
   have hnb26 := NB176_179.out
   have hnc26 := NB179_176.out
   have hcz27_0 : w10.cell? ⟨gb176, 0, none⟩ = some (.bool true) := bc BK176 0
   have hcz27_1 : w10.cell? ⟨gb176, 1, none⟩ = some (.bool a0_1) := bc BK176 1
   have hcz27_2 : w10.cell? ⟨gb176, 2, none⟩ = some (.int .i64 a0_2) := bc BK176 2
   have hcz27_3 : w10.cell? ⟨gb176, 3, none⟩ = some (.int .i64 a0_3) := bc BK176 3
   have hfz27_0 := blk_frozen BK176.out 0
   have hfz27_1 := blk_frozen BK176.out 1
   have hfz27_2 := blk_frozen BK176.out 2
   have hfz27_3 := blk_frozen BK176.out 3
   go_wp2
   go_meet
   case rel => exact ⟨_, (true), pr, H', ⟨by first | omega | exact Nat.le_refl _⟩, ⟨by (with_reducible repeat (first | refine blk_drewN ?_ _ | refine blk_drew ?_ | refine blk_alloc ?_ _)); refine blk_far ?_ NB176_179.out _; (with_reducible repeat (first | refine blk_drewN ?_ _ | refine blk_drew ?_ | refine blk_alloc ?_ _)); refine blk_far ?_ NB176_179.out _; (with_reducible repeat (first | refine blk_drewN ?_ _ | refine blk_drew ?_ | refine blk_alloc ?_ _)); refine blk_far ?_ NB176_179.out _; (with_reducible repeat (first | refine blk_drewN ?_ _ | refine blk_drew ?_ | refine blk_alloc ?_ _)); refine blk_far ?_ NB176_179.out _; (with_reducible repeat (first | refine blk_drewN ?_ _ | refine blk_drew ?_ | refine blk_alloc ?_ _)); exact BK176.out⟩, ⟨by (with_reducible repeat (first | refine blk_drewN ?_ _ | refine blk_drew ?_ | refine blk_alloc ?_ _)); refine blk_far ?_ NB177_179.out _; (with_reducible repeat (first | refine blk_drewN ?_ _ | refine blk_drew ?_ | refine blk_alloc ?_ _)); refine blk_far ?_ NB177_179.out _; (with_reducible repeat (first | refine blk_drewN ?_ _ | refine blk_drew ?_ | refine blk_alloc ?_ _)); refine blk_far ?_ NB177_179.out _; (with_reducible repeat (first | refine blk_drewN ?_ _ | refine blk_drew ?_ | refine blk_alloc ?_ _)); refine blk_far ?_ NB177_179.out _; (with_reducible repeat (first | refine blk_drewN ?_ _ | refine blk_drew ?_ | refine blk_alloc ?_ _)); exact BK177.out⟩, ⟨by (with_reducible repeat (first | refine blk_drewN ?_ _ | refine blk_drew ?_ | refine blk_alloc ?_ _)); refine blk_far ?_ NB178_179.out _; (with_reducible repeat (first | refine blk_drewN ?_ _ | refine blk_drew ?_ | refine blk_alloc ?_ _)); refine blk_far ?_ NB178_179.out _; (with_reducible repeat (first | refine blk_drewN ?_ _ | refine blk_drew ?_ | refine blk_alloc ?_ _)); refine blk_far ?_ NB178_179.out _; (with_reducible repeat (first | refine blk_drewN ?_ _ | refine blk_drew ?_ | refine blk_alloc ?_ _)); refine blk_far ?_ NB178_179.out _; (with_reducible repeat (first | refine blk_drewN ?_ _ | refine blk_drew ?_ | refine blk_alloc ?_ _)); exact BK178.out⟩, ⟨by (with_reducible repeat (first | refine blk_drewN ?_ _ | refine blk_drew ?_ | refine blk_alloc ?_ _)); refine blk_put (cs := #[.bool true, .bool a0_1, .int .i64 a0_2, .int .i64 0]) ?_ 3 _ rfl; (with_reducible repeat (first | refine blk_drewN ?_ _ | refine blk_drew ?_ | refine blk_alloc ?_ _)); refine blk_put (cs := #[.bool true, .bool a0_1, .int .i64 0, .int .i64 0]) ?_ 2 _ rfl; (with_reducible repeat (first | refine blk_drewN ?_ _ | refine blk_drew ?_ | refine blk_alloc ?_ _)); refine blk_put (cs := #[.bool true, .bool false, .int .i64 0, .int .i64 0]) ?_ 1 _ rfl; (with_reducible repeat (first | refine blk_drewN ?_ _ | refine blk_drew ?_ | refine blk_alloc ?_ _)); refine blk_put (cs := #[.bool false, .bool false, .int .i64 0, .int .i64 0]) ?_ 0 _ rfl; (with_reducible repeat (first | refine blk_drewN ?_ _ | refine blk_drew ?_ | refine blk_alloc ?_ _)); exact BK179.out⟩, ⟨pw⟩⟩
  replace c20 := Bool.eq_false_iff.mpr c20
  subst c20
  have H1 : (R2_MetOf.j0 k (decide (a1_2 > a0_2)) false a0_1 a0_2 a0_3 false a1_1 a1_2 a1_3 false a0_1 a0_2 a0_3) = some (r1, r2, r3, r4, r5) := by rw [if_neg (show ¬ (false = true) by decide)] at H; exact H
  clear H
  have H := H1
  clear H1
  have H' := am H
  clear H
  have hnb28 := NB177_176.out
  have hnc28 := NB176_177.out
  have hnb29 := NB177_178.out
  have hnc29 := NB178_177.out
  have hnb30 := NB177_179.out
  have hnc30 := NB179_177.out
  have hcz31_0 : w10.cell? ⟨gb177, 0, none⟩ = some (.bool false) := bc BK177 0
  have hcz31_1 : w10.cell? ⟨gb177, 1, none⟩ = some (.bool a1_1) := bc BK177 1
  have hcz31_2 : w10.cell? ⟨gb177, 2, none⟩ = some (.int .i64 a1_2) := bc BK177 2
  have hcz31_3 : w10.cell? ⟨gb177, 3, none⟩ = some (.int .i64 a1_3) := bc BK177 3
  have hfz31_0 := blk_frozen BK177.out 0
  have hfz31_1 := blk_frozen BK177.out 1
  have hfz31_2 := blk_frozen BK177.out 2
  have hfz31_3 := blk_frozen BK177.out 3
  have hnb32 := NB176_178.out
  have hnc32 := NB178_176.out
  have hnb33 := NB176_179.out
  have hnc33 := NB179_176.out
  have hcz34_0 : w10.cell? ⟨gb176, 0, none⟩ = some (.bool false) := bc BK176 0
  have hcz34_1 : w10.cell? ⟨gb176, 1, none⟩ = some (.bool a0_1) := bc BK176 1
  have hcz34_2 : w10.cell? ⟨gb176, 2, none⟩ = some (.int .i64 a0_2) := bc BK176 2
  have hcz34_3 : w10.cell? ⟨gb176, 3, none⟩ = some (.int .i64 a0_3) := bc BK176 3
  have hfz34_0 := blk_frozen BK176.out 0
  have hfz34_1 := blk_frozen BK176.out 1
  have hfz34_2 := blk_frozen BK176.out 2
  have hfz34_3 := blk_frozen BK176.out 3
  go_wp2
  go_meet
  case rel => exact ⟨_, (decide (a1_2 > a0_2)), pr, H', ⟨by first | omega | exact Nat.le_refl _⟩, ⟨by (with_reducible repeat (first | refine blk_drewN ?_ _ | refine blk_drew ?_ | refine blk_alloc ?_ _)); refine blk_far ?_ NB176_179.out _; (with_reducible repeat (first | refine blk_drewN ?_ _ | refine blk_drew ?_ | refine blk_alloc ?_ _)); refine blk_far ?_ NB176_179.out _; (with_reducible repeat (first | refine blk_drewN ?_ _ | refine blk_drew ?_ | refine blk_alloc ?_ _)); refine blk_far ?_ NB176_179.out _; (with_reducible repeat (first | refine blk_drewN ?_ _ | refine blk_drew ?_ | refine blk_alloc ?_ _)); refine blk_far ?_ NB176_179.out _; (with_reducible repeat (first | refine blk_drewN ?_ _ | refine blk_drew ?_ | refine blk_alloc ?_ _)); exact BK176.out⟩, ⟨by (with_reducible repeat (first | refine blk_drewN ?_ _ | refine blk_drew ?_ | refine blk_alloc ?_ _)); refine blk_far ?_ NB177_179.out _; (with_reducible repeat (first | refine blk_drewN ?_ _ | refine blk_drew ?_ | refine blk_alloc ?_ _)); refine blk_far ?_ NB177_179.out _; (with_reducible repeat (first | refine blk_drewN ?_ _ | refine blk_drew ?_ | refine blk_alloc ?_ _)); refine blk_far ?_ NB177_179.out _; (with_reducible repeat (first | refine blk_drewN ?_ _ | refine blk_drew ?_ | refine blk_alloc ?_ _)); refine blk_far ?_ NB177_179.out _; (with_reducible repeat (first | refine blk_drewN ?_ _ | refine blk_drew ?_ | refine blk_alloc ?_ _)); exact BK177.out⟩, ⟨by (with_reducible repeat (first | refine blk_drewN ?_ _ | refine blk_drew ?_ | refine blk_alloc ?_ _)); refine blk_far ?_ NB178_179.out _; (with_reducible repeat (first | refine blk_drewN ?_ _ | refine blk_drew ?_ | refine blk_alloc ?_ _)); refine blk_far ?_ NB178_179.out _; (with_reducible repeat (first | refine blk_drewN ?_ _ | refine blk_drew ?_ | refine blk_alloc ?_ _)); refine blk_far ?_ NB178_179.out _; (with_reducible repeat (first | refine blk_drewN ?_ _ | refine blk_drew ?_ | refine blk_alloc ?_ _)); refine blk_far ?_ NB178_179.out _; (with_reducible repeat (first | refine blk_drewN ?_ _ | refine blk_drew ?_ | refine blk_alloc ?_ _)); exact BK178.out⟩, ⟨by (with_reducible repeat (first | refine blk_drewN ?_ _ | refine blk_drew ?_ | refine blk_alloc ?_ _)); refine blk_put (cs := #[.bool false, .bool a0_1, .int .i64 a0_2, .int .i64 0]) ?_ 3 _ rfl; (with_reducible repeat (first | refine blk_drewN ?_ _ | refine blk_drew ?_ | refine blk_alloc ?_ _)); refine blk_put (cs := #[.bool false, .bool a0_1, .int .i64 0, .int .i64 0]) ?_ 2 _ rfl; (with_reducible repeat (first | refine blk_drewN ?_ _ | refine blk_drew ?_ | refine blk_alloc ?_ _)); refine blk_put (cs := #[.bool false, .bool false, .int .i64 0, .int .i64 0]) ?_ 1 _ rfl; (with_reducible repeat (first | refine blk_drewN ?_ _ | refine blk_drew ?_ | refine blk_alloc ?_ _)); refine blk_put (cs := #[.bool false, .bool false, .int .i64 0, .int .i64 0]) ?_ 0 _ rfl; (with_reducible repeat (first | refine blk_drewN ?_ _ | refine blk_drew ?_ | refine blk_alloc ?_ _)); exact BK179.out⟩, ⟨pw⟩⟩
 clear HC3
 try clear c1
 try clear c2
 try clear p2
 try clear c3
 try clear c7
 try clear c8
 try clear c11
 try clear c12
 try clear c13
 try clear c15
 try clear c16
 try clear c17
 try clear c18
 try clear c20
 try clear c21
 try clear c22
 try clear c23
 try clear c25
 try clear c26
 try clear c28
 try clear c29
 try clear c30
 try clear c32
 try clear c33
 try clear hcz14_0
 try clear hcz14_1
 try clear hcz14_2
 try clear hcz14_3
 try clear hcz19_0
 try clear hcz19_1
 try clear hcz19_2
 try clear hcz19_3
 try clear hcz24_0
 try clear hcz24_1
 try clear hcz24_2
 try clear hcz24_3
 try clear hcz27_0
 try clear hcz27_1
 try clear hcz27_2
 try clear hcz27_3
 try clear hcz31_0
 try clear hcz31_1
 try clear hcz31_2
 try clear hcz31_3
 try clear hcz34_0
 try clear hcz34_1
 try clear hcz34_2
 try clear hcz34_3
 try clear hcz9_0
 try clear hcz9_1
 try clear hcz9_2
 try clear hcz9_3
 try clear hfz14_0
 try clear hfz14_1
 try clear hfz14_2
 try clear hfz14_3
 try clear hfz19_0
 try clear hfz19_1
 try clear hfz19_2
 try clear hfz19_3
 try clear hfz24_0
 try clear hfz24_1
 try clear hfz24_2
 try clear hfz24_3
 try clear hfz27_0
 try clear hfz27_1
 try clear hfz27_2
 try clear hfz27_3
 try clear hfz31_0
 try clear hfz31_1
 try clear hfz31_2
 try clear hfz31_3
 try clear hfz34_0
 try clear hfz34_1
 try clear hfz34_2
 try clear hfz34_3
 try clear hfz9_0
 try clear hfz9_1
 try clear hfz9_2
 try clear hfz9_3
 obtain ⟨kq, x21_2, rfl, HA, HJ2, BK176, BK177, BK178, BK179, HB⟩ := hcut
 cases kq with
 | zero => exact absurd HA.out (by simp [R2_MetOf.j0])
 | succ kj2 =>
  have H := HA.out
  clear HA
  simp only [R2_MetOf.j0] at H
  have HC35 := am H
  clear H
  go_upto_if 21 with (fail)
  go_cut [] (fun wc => ∃ (kq : Nat) (x180000_34 : Bool) (x180002_34 : Int), Aside0 (R2_MetOf.j1 kq a0_0 a0_1 a0_2 a0_3 a1_0 a1_1 a1_2 a1_3 x180000_34 a0_1 x180002_34 a0_3 = some (r1, r2, r3, r4, r5)) ∧ Aside0 (kq ≤ kj2) ∧ Aside0 (wc.heap[gb176]? = some (.cells #[.bool a0_0, .bool a0_1, .int .i64 a0_2, .int .i64 a0_3] 23 (0, 0))) ∧ Aside0 (wc.heap[gb177]? = some (.cells #[.bool a1_0, .bool a1_1, .int .i64 a1_2, .int .i64 a1_3] 23 (0, 0))) ∧ Aside0 (wc.heap[gb178]? = some (.cells #[.bool false, .bool false, .int .i64 0, .int .i64 0] 23 (0, 0))) ∧ Aside0 (wc.heap[gb179]? = some (.cells #[.bool x180000_34, .bool a0_1, .int .i64 x180002_34, .int .i64 a0_3] 23 (0, 0))) ∧ Aside0 (Below w.heap.size w wc))
  case first =>
   have H := HC35.out
   clear HC35
   by_cases c36 : x21_2 = true
   ·subst c36
    have H1 : (R2_MetOf.j1 kj2 a0_0 a0_1 a0_2 a0_3 a1_0 a1_1 a1_2 a1_3 false a0_1 a1_2 a0_3) = some (r1, r2, r3, r4, r5) := by rw [if_pos rfl] at H; exact H
    clear H
    have H := H1
    clear H1
    have H' := am H
    clear H
    have hnb37 := NB179_176.out
    have hnc37 := NB176_179.out
    have hnb38 := NB179_177.out
    have hnc38 := NB177_179.out
    have hnb39 := NB179_178.out
    have hnc39 := NB178_179.out
    have hcz40_0 : wc.cell? ⟨gb179, 0, none⟩ = some (.bool a0_0) := bc BK179 0
    have hcz40_1 : wc.cell? ⟨gb179, 1, none⟩ = some (.bool a0_1) := bc BK179 1
    have hcz40_2 : wc.cell? ⟨gb179, 2, none⟩ = some (.int .i64 a0_2) := bc BK179 2
    have hcz40_3 : wc.cell? ⟨gb179, 3, none⟩ = some (.int .i64 a0_3) := bc BK179 3
    have hfz40_0 := blk_frozen BK179.out 0
    have hfz40_1 := blk_frozen BK179.out 1
    have hfz40_2 := blk_frozen BK179.out 2
    have hfz40_3 := blk_frozen BK179.out 3
    have hnb41 := NB177_176.out
    have hnc41 := NB176_177.out
    have hnb42 := NB177_178.out
    have hnc42 := NB178_177.out
    have hcz43_0 : wc.cell? ⟨gb177, 0, none⟩ = some (.bool a1_0) := bc BK177 0
    have hcz43_1 : wc.cell? ⟨gb177, 1, none⟩ = some (.bool a1_1) := bc BK177 1
    have hcz43_2 : wc.cell? ⟨gb177, 2, none⟩ = some (.int .i64 a1_2) := bc BK177 2
    have hcz43_3 : wc.cell? ⟨gb177, 3, none⟩ = some (.int .i64 a1_3) := bc BK177 3
    have hfz43_0 := blk_frozen BK177.out 0
    have hfz43_1 := blk_frozen BK177.out 1
    have hfz43_2 := blk_frozen BK177.out 2
    have hfz43_3 := blk_frozen BK177.out 3
    go_wp2
    go_meet
    case rel => exact ⟨_, (false), (a1_2), H', ⟨by have := HJ2.out; first | omega | exact Nat.le_refl _⟩, ⟨by (with_reducible repeat (first | refine blk_drewN ?_ _ | refine blk_drew ?_ | refine blk_alloc ?_ _)); refine blk_far ?_ NB176_179.out _; (with_reducible repeat (first | refine blk_drewN ?_ _ | refine blk_drew ?_ | refine blk_alloc ?_ _)); refine blk_far ?_ NB176_179.out _; (with_reducible repeat (first | refine blk_drewN ?_ _ | refine blk_drew ?_ | refine blk_alloc ?_ _)); exact BK176.out⟩, ⟨by (with_reducible repeat (first | refine blk_drewN ?_ _ | refine blk_drew ?_ | refine blk_alloc ?_ _)); refine blk_far ?_ NB177_179.out _; (with_reducible repeat (first | refine blk_drewN ?_ _ | refine blk_drew ?_ | refine blk_alloc ?_ _)); refine blk_far ?_ NB177_179.out _; (with_reducible repeat (first | refine blk_drewN ?_ _ | refine blk_drew ?_ | refine blk_alloc ?_ _)); exact BK177.out⟩, ⟨by (with_reducible repeat (first | refine blk_drewN ?_ _ | refine blk_drew ?_ | refine blk_alloc ?_ _)); refine blk_far ?_ NB178_179.out _; (with_reducible repeat (first | refine blk_drewN ?_ _ | refine blk_drew ?_ | refine blk_alloc ?_ _)); refine blk_far ?_ NB178_179.out _; (with_reducible repeat (first | refine blk_drewN ?_ _ | refine blk_drew ?_ | refine blk_alloc ?_ _)); exact BK178.out⟩, ⟨by (with_reducible repeat (first | refine blk_drewN ?_ _ | refine blk_drew ?_ | refine blk_alloc ?_ _)); refine blk_put (cs := #[.bool false, .bool a0_1, .int .i64 a0_2, .int .i64 a0_3]) ?_ 2 _ rfl; (with_reducible repeat (first | refine blk_drewN ?_ _ | refine blk_drew ?_ | refine blk_alloc ?_ _)); refine blk_put (cs := #[.bool a0_0, .bool a0_1, .int .i64 a0_2, .int .i64 a0_3]) ?_ 0 _ rfl; (with_reducible repeat (first | refine blk_drewN ?_ _ | refine blk_drew ?_ | refine blk_alloc ?_ _)); exact BK179.out⟩, ⟨pw⟩⟩
   replace c36 := Bool.eq_false_iff.mpr c36
   subst c36
   have H1 : (R2_MetOf.j1 kj2 a0_0 a0_1 a0_2 a0_3 a1_0 a1_1 a1_2 a1_3 a0_0 a0_1 a0_2 a0_3) = some (r1, r2, r3, r4, r5) := by rw [if_neg (show ¬ (false = true) by decide)] at H; exact H
   clear H
   have H := H1
   clear H1
   have H' := am H
   clear H
   go_wp2
   go_meet
   case rel => exact ⟨_, (a0_0), (a0_2), H', ⟨by have := HJ2.out; first | omega | exact Nat.le_refl _⟩, ⟨by (with_reducible repeat (first | refine blk_drewN ?_ _ | refine blk_drew ?_ | refine blk_alloc ?_ _)); exact BK176.out⟩, ⟨by (with_reducible repeat (first | refine blk_drewN ?_ _ | refine blk_drew ?_ | refine blk_alloc ?_ _)); exact BK177.out⟩, ⟨by (with_reducible repeat (first | refine blk_drewN ?_ _ | refine blk_drew ?_ | refine blk_alloc ?_ _)); exact BK178.out⟩, ⟨by (with_reducible repeat (first | refine blk_drewN ?_ _ | refine blk_drew ?_ | refine blk_alloc ?_ _)); exact BK179.out⟩, ⟨pw⟩⟩
  clear HC35
  try clear c1
  try clear c2
  try clear p2
  try clear c3
  try clear c4
  try clear c7
  try clear c8
  try clear c11
  try clear c12
  try clear c13
  try clear c15
  try clear c16
  try clear c17
  try clear c18
  try clear c20
  try clear c21
  try clear c22
  try clear c23
  try clear c25
  try clear c26
  try clear c28
  try clear c29
  try clear c30
  try clear c32
  try clear c33
  try clear c36
  try clear c37
  try clear c38
  try clear c39
  try clear c41
  try clear c42
  try clear hcz14_0
  try clear hcz14_1
  try clear hcz14_2
  try clear hcz14_3
  try clear hcz19_0
  try clear hcz19_1
  try clear hcz19_2
  try clear hcz19_3
  try clear hcz24_0
  try clear hcz24_1
  try clear hcz24_2
  try clear hcz24_3
  try clear hcz27_0
  try clear hcz27_1
  try clear hcz27_2
  try clear hcz27_3
  try clear hcz31_0
  try clear hcz31_1
  try clear hcz31_2
  try clear hcz31_3
  try clear hcz34_0
  try clear hcz34_1
  try clear hcz34_2
  try clear hcz34_3
  try clear hcz40_0
  try clear hcz40_1
  try clear hcz40_2
  try clear hcz40_3
  try clear hcz43_0
  try clear hcz43_1
  try clear hcz43_2
  try clear hcz43_3
  try clear hcz9_0
  try clear hcz9_1
  try clear hcz9_2
  try clear hcz9_3
  try clear hfz14_0
  try clear hfz14_1
  try clear hfz14_2
  try clear hfz14_3
  try clear hfz19_0
  try clear hfz19_1
  try clear hfz19_2
  try clear hfz19_3
  try clear hfz24_0
  try clear hfz24_1
  try clear hfz24_2
  try clear hfz24_3
  try clear hfz27_0
  try clear hfz27_1
  try clear hfz27_2
  try clear hfz27_3
  try clear hfz31_0
  try clear hfz31_1
  try clear hfz31_2
  try clear hfz31_3
  try clear hfz34_0
  try clear hfz34_1
  try clear hfz34_2
  try clear hfz34_3
  try clear hfz40_0
  try clear hfz40_1
  try clear hfz40_2
  try clear hfz40_3
  try clear hfz43_0
  try clear hfz43_1
  try clear hfz43_2
  try clear hfz43_3
  try clear hfz9_0
  try clear hfz9_1
  try clear hfz9_2
  try clear hfz9_3
  try clear p2
  obtain ⟨kq, x180000_34, x180002_34, HA, HJ34, BK176, BK177, BK178, BK179, HB⟩ := hcut
  cases kq with
  | zero => exact absurd HA.out (by simp [R2_MetOf.j1])
  | succ kj34 =>
   have H := HA.out
   clear HA
   simp only [R2_MetOf.j1] at H
   have HC44 := am H
   clear H
   go_upto_region 5 with (fail)
   go_cut [39] (fun v39 wc => ∃ (kq : Nat) (x39_43 : Bool), v39 = .bool x39_43 ∧ Aside0 (R2_MetOf.j2 kq x39_43 a1_0 a1_1 a1_2 a1_3 x180000_34 a0_1 x180002_34 a0_3 = some (r1, r2, r3, r4, r5)) ∧ Aside0 (kq ≤ kj34) ∧ Aside0 (wc.heap[gb176]? = some (.cells #[.bool a0_0, .bool a0_1, .int .i64 a0_2, .int .i64 a0_3] 23 (0, 0))) ∧ Aside0 (wc.heap[gb177]? = some (.cells #[.bool a1_0, .bool a1_1, .int .i64 a1_2, .int .i64 a1_3] 23 (0, 0))) ∧ Aside0 (wc.heap[gb178]? = some (.cells #[.bool false, .bool false, .int .i64 0, .int .i64 0] 23 (0, 0))) ∧ Aside0 (wc.heap[gb179]? = some (.cells #[.bool x180000_34, .bool a0_1, .int .i64 x180002_34, .int .i64 a0_3] 23 (0, 0))) ∧ Aside0 (Below w.heap.size w wc))
   case first =>
    have H := HC44.out
    clear HC44
    by_cases c45 : a1_1 = true
    ·subst c45
     have H1 : (R2_MetOf.j2 kj34 false a1_0 true a1_2 a1_3 x180000_34 a0_1 x180002_34 a0_3) = some (r1, r2, r3, r4, r5) := by rw [if_pos rfl] at H; exact H
     clear H
     have H := H1
     clear H1
     have H' := am H
     clear H
     have hnb46 := NB177_176.out
     have hnc46 := NB176_177.out
     have hnb47 := NB177_178.out
     have hnc47 := NB178_177.out
     have hnb48 := NB177_179.out
     have hnc48 := NB179_177.out
     have hcz49_0 : wc.cell? ⟨gb177, 0, none⟩ = some (.bool a1_0) := bc BK177 0
     have hcz49_1 : wc.cell? ⟨gb177, 1, none⟩ = some (.bool true) := bc BK177 1
     have hcz49_2 : wc.cell? ⟨gb177, 2, none⟩ = some (.int .i64 a1_2) := bc BK177 2
     have hcz49_3 : wc.cell? ⟨gb177, 3, none⟩ = some (.int .i64 a1_3) := bc BK177 3
     have hfz49_0 := blk_frozen BK177.out 0
     have hfz49_1 := blk_frozen BK177.out 1
     have hfz49_2 := blk_frozen BK177.out 2
     have hfz49_3 := blk_frozen BK177.out 3
     go_wp2
     go_meet
     case rel => exact ⟨_, (false), pr, H', ⟨by have := HJ2.out; have := HJ34.out; first | omega | exact Nat.le_refl _⟩, ⟨by (with_reducible repeat (first | refine blk_drewN ?_ _ | refine blk_drew ?_ | refine blk_alloc ?_ _)); exact BK176.out⟩, ⟨by (with_reducible repeat (first | refine blk_drewN ?_ _ | refine blk_drew ?_ | refine blk_alloc ?_ _)); exact BK177.out⟩, ⟨by (with_reducible repeat (first | refine blk_drewN ?_ _ | refine blk_drew ?_ | refine blk_alloc ?_ _)); exact BK178.out⟩, ⟨by (with_reducible repeat (first | refine blk_drewN ?_ _ | refine blk_drew ?_ | refine blk_alloc ?_ _)); exact BK179.out⟩, ⟨pw⟩⟩
    replace c45 := Bool.eq_false_iff.mpr c45
    subst c45
    have H1 : (if a0_1 = true then (R2_MetOf.j2 kj34 true a1_0 false a1_2 a1_3 x180000_34 a0_1 x180002_34 a0_3) else (R2_MetOf.j2 kj34 (decide (a1_3 < a0_3)) a1_0 false a1_2 a1_3 x180000_34 a0_1 x180002_34 a0_3)) = some (r1, r2, r3, r4, r5) := by rw [if_neg (show ¬ (false = true) by decide)] at H; exact H
    clear H
    have H := H1
    clear H1
    by_cases c50 : a0_1 = true
    ·subst c50
     have H1 : (R2_MetOf.j2 kj34 true a1_0 false a1_2 a1_3 x180000_34 true x180002_34 a0_3) = some (r1, r2, r3, r4, r5) := by rw [if_pos rfl] at H; exact H
     clear H
     have H := H1
     clear H1
     have H' := am H
     clear H
     have hnb51 := NB177_176.out
     have hnc51 := NB176_177.out
     have hnb52 := NB177_178.out
     have hnc52 := NB178_177.out
     have hnb53 := NB177_179.out
     have hnc53 := NB179_177.out
     have hcz54_0 : wc.cell? ⟨gb177, 0, none⟩ = some (.bool a1_0) := bc BK177 0
     have hcz54_1 : wc.cell? ⟨gb177, 1, none⟩ = some (.bool false) := bc BK177 1
     have hcz54_2 : wc.cell? ⟨gb177, 2, none⟩ = some (.int .i64 a1_2) := bc BK177 2
     have hcz54_3 : wc.cell? ⟨gb177, 3, none⟩ = some (.int .i64 a1_3) := bc BK177 3
     have hfz54_0 := blk_frozen BK177.out 0
     have hfz54_1 := blk_frozen BK177.out 1
     have hfz54_2 := blk_frozen BK177.out 2
     have hfz54_3 := blk_frozen BK177.out 3
     have hnb55 := NB176_178.out
     have hnc55 := NB178_176.out
     have hnb56 := NB176_179.out
     have hnc56 := NB179_176.out
     have hcz57_0 : wc.cell? ⟨gb176, 0, none⟩ = some (.bool a0_0) := bc BK176 0
     have hcz57_1 : wc.cell? ⟨gb176, 1, none⟩ = some (.bool true) := bc BK176 1
     have hcz57_2 : wc.cell? ⟨gb176, 2, none⟩ = some (.int .i64 a0_2) := bc BK176 2
     have hcz57_3 : wc.cell? ⟨gb176, 3, none⟩ = some (.int .i64 a0_3) := bc BK176 3
     have hfz57_0 := blk_frozen BK176.out 0
     have hfz57_1 := blk_frozen BK176.out 1
     have hfz57_2 := blk_frozen BK176.out 2
     have hfz57_3 := blk_frozen BK176.out 3
     go_wp2
     go_meet
     case rel => exact ⟨_, (true), pr, H', ⟨by have := HJ2.out; have := HJ34.out; first | omega | exact Nat.le_refl _⟩, ⟨by (with_reducible repeat (first | refine blk_drewN ?_ _ | refine blk_drew ?_ | refine blk_alloc ?_ _)); exact BK176.out⟩, ⟨by (with_reducible repeat (first | refine blk_drewN ?_ _ | refine blk_drew ?_ | refine blk_alloc ?_ _)); exact BK177.out⟩, ⟨by (with_reducible repeat (first | refine blk_drewN ?_ _ | refine blk_drew ?_ | refine blk_alloc ?_ _)); exact BK178.out⟩, ⟨by (with_reducible repeat (first | refine blk_drewN ?_ _ | refine blk_drew ?_ | refine blk_alloc ?_ _)); exact BK179.out⟩, ⟨pw⟩⟩
    replace c50 := Bool.eq_false_iff.mpr c50
    subst c50
    have H1 : (R2_MetOf.j2 kj34 (decide (a1_3 < a0_3)) a1_0 false a1_2 a1_3 x180000_34 false x180002_34 a0_3) = some (r1, r2, r3, r4, r5) := by rw [if_neg (show ¬ (false = true) by decide)] at H; exact H
    clear H
    have H := H1
    clear H1
    have H' := am H
    clear H
    have hnb58 := NB177_176.out
    have hnc58 := NB176_177.out
    have hnb59 := NB177_178.out
    have hnc59 := NB178_177.out
    have hnb60 := NB177_179.out
    have hnc60 := NB179_177.out
    have hcz61_0 : wc.cell? ⟨gb177, 0, none⟩ = some (.bool a1_0) := bc BK177 0
    have hcz61_1 : wc.cell? ⟨gb177, 1, none⟩ = some (.bool false) := bc BK177 1
    have hcz61_2 : wc.cell? ⟨gb177, 2, none⟩ = some (.int .i64 a1_2) := bc BK177 2
    have hcz61_3 : wc.cell? ⟨gb177, 3, none⟩ = some (.int .i64 a1_3) := bc BK177 3
    have hfz61_0 := blk_frozen BK177.out 0
    have hfz61_1 := blk_frozen BK177.out 1
    have hfz61_2 := blk_frozen BK177.out 2
    have hfz61_3 := blk_frozen BK177.out 3
    have hnb62 := NB176_178.out
    have hnc62 := NB178_176.out
    have hnb63 := NB176_179.out
    have hnc63 := NB179_176.out
    have hcz64_0 : wc.cell? ⟨gb176, 0, none⟩ = some (.bool a0_0) := bc BK176 0
    have hcz64_1 : wc.cell? ⟨gb176, 1, none⟩ = some (.bool false) := bc BK176 1
    have hcz64_2 : wc.cell? ⟨gb176, 2, none⟩ = some (.int .i64 a0_2) := bc BK176 2
    have hcz64_3 : wc.cell? ⟨gb176, 3, none⟩ = some (.int .i64 a0_3) := bc BK176 3
    have hfz64_0 := blk_frozen BK176.out 0
    have hfz64_1 := blk_frozen BK176.out 1
    have hfz64_2 := blk_frozen BK176.out 2
    have hfz64_3 := blk_frozen BK176.out 3
    go_wp2
    go_meet
    case rel => exact ⟨_, (decide (a1_3 < a0_3)), pr, H', ⟨by have := HJ2.out; have := HJ34.out; first | omega | exact Nat.le_refl _⟩, ⟨by (with_reducible repeat (first | refine blk_drewN ?_ _ | refine blk_drew ?_ | refine blk_alloc ?_ _)); exact BK176.out⟩, ⟨by (with_reducible repeat (first | refine blk_drewN ?_ _ | refine blk_drew ?_ | refine blk_alloc ?_ _)); exact BK177.out⟩, ⟨by (with_reducible repeat (first | refine blk_drewN ?_ _ | refine blk_drew ?_ | refine blk_alloc ?_ _)); exact BK178.out⟩, ⟨by (with_reducible repeat (first | refine blk_drewN ?_ _ | refine blk_drew ?_ | refine blk_alloc ?_ _)); exact BK179.out⟩, ⟨pw⟩⟩
   clear HC44
   try clear c1
   try clear c2
   try clear p2
   try clear c3
   try clear c4
   try clear c5
   try clear c6
   try clear c7
   try clear c8
   try clear c11
   try clear c12
   try clear c13
   try clear c15
   try clear c16
   try clear c17
   try clear c18
   try clear c20
   try clear c21
   try clear c22
   try clear c23
   try clear c25
   try clear c26
   try clear c28
   try clear c29
   try clear c30
   try clear c32
   try clear c33
   try clear c36
   try clear c37
   try clear c38
   try clear c39
   try clear c41
   try clear c42
   try clear c45
   try clear c46
   try clear c47
   try clear c48
   try clear c50
   try clear c51
   try clear c52
   try clear c53
   try clear c55
   try clear c56
   try clear c58
   try clear c59
   try clear c60
   try clear c62
   try clear c63
   try clear hcz14_0
   try clear hcz14_1
   try clear hcz14_2
   try clear hcz14_3
   try clear hcz19_0
   try clear hcz19_1
   try clear hcz19_2
   try clear hcz19_3
   try clear hcz24_0
   try clear hcz24_1
   try clear hcz24_2
   try clear hcz24_3
   try clear hcz27_0
   try clear hcz27_1
   try clear hcz27_2
   try clear hcz27_3
   try clear hcz31_0
   try clear hcz31_1
   try clear hcz31_2
   try clear hcz31_3
   try clear hcz34_0
   try clear hcz34_1
   try clear hcz34_2
   try clear hcz34_3
   try clear hcz40_0
   try clear hcz40_1
   try clear hcz40_2
   try clear hcz40_3
   try clear hcz43_0
   try clear hcz43_1
   try clear hcz43_2
   try clear hcz43_3
   try clear hcz49_0
   try clear hcz49_1
   try clear hcz49_2
   try clear hcz49_3
   try clear hcz54_0
   try clear hcz54_1
   try clear hcz54_2
   try clear hcz54_3
   try clear hcz57_0
   try clear hcz57_1
   try clear hcz57_2
   try clear hcz57_3
   try clear hcz61_0
   try clear hcz61_1
   try clear hcz61_2
   try clear hcz61_3
   try clear hcz64_0
   try clear hcz64_1
   try clear hcz64_2
   try clear hcz64_3
   try clear hcz9_0
   try clear hcz9_1
   try clear hcz9_2
   try clear hcz9_3
   try clear hfz14_0
   try clear hfz14_1
   try clear hfz14_2
   try clear hfz14_3
   try clear hfz19_0
   try clear hfz19_1
   try clear hfz19_2
   try clear hfz19_3
   try clear hfz24_0
   try clear hfz24_1
   try clear hfz24_2
   try clear hfz24_3
   try clear hfz27_0
   try clear hfz27_1
   try clear hfz27_2
   try clear hfz27_3
   try clear hfz31_0
   try clear hfz31_1
   try clear hfz31_2
   try clear hfz31_3
   try clear hfz34_0
   try clear hfz34_1
   try clear hfz34_2
   try clear hfz34_3
   try clear hfz40_0
   try clear hfz40_1
   try clear hfz40_2
   try clear hfz40_3
   try clear hfz43_0
   try clear hfz43_1
   try clear hfz43_2
   try clear hfz43_3
   try clear hfz49_0
   try clear hfz49_1
   try clear hfz49_2
   try clear hfz49_3
   try clear hfz54_0
   try clear hfz54_1
   try clear hfz54_2
   try clear hfz54_3
   try clear hfz57_0
   try clear hfz57_1
   try clear hfz57_2
   try clear hfz57_3
   try clear hfz61_0
   try clear hfz61_1
   try clear hfz61_2
   try clear hfz61_3
   try clear hfz64_0
   try clear hfz64_1
   try clear hfz64_2
   try clear hfz64_3
   try clear hfz9_0
   try clear hfz9_1
   try clear hfz9_2
   try clear hfz9_3
   try clear p2
   obtain ⟨kq, x39_43, rfl, HA, HJ43, BK176, BK177, BK178, BK179, HB⟩ := hcut
   cases kq with
   | zero => exact absurd HA.out (by simp [R2_MetOf.j2])
   | succ kj43 =>
    have H := HA.out
    clear HA
    simp only [R2_MetOf.j2] at H
    by_cases c65 : x39_43 = true
    ·subst c65
     have H1 : (if x180000_34 = true then (some (x180000_34, false, x180002_34, a1_3, true)) else (if x180002_34 > a1_3 then (some (false, false, 0, 0, false)) else (some (x180000_34, false, x180002_34, a1_3, true)))) = some (r1, r2, r3, r4, r5) := by rw [if_pos rfl] at H; exact H
     clear H
     have H := H1
     clear H1
     by_cases c66 : x180000_34 = true
     ·subst c66
      have H1 : (some (true, false, x180002_34, a1_3, true)) = some (r1, r2, r3, r4, r5) := by rw [if_pos rfl] at H; exact H
      clear H
      have H := H1
      clear H1
      simp only [Option.some.injEq, Prod.mk.injEq] at H
      obtain ⟨rfl, rfl, rfl, rfl, rfl⟩ := H
      have hnb67 := NB179_176.out
      have hnc67 := NB176_179.out
      have hnb68 := NB179_177.out
      have hnc68 := NB177_179.out
      have hnb69 := NB179_178.out
      have hnc69 := NB178_179.out
      have hcz70_0 : wc.cell? ⟨gb179, 0, none⟩ = some (.bool true) := bc BK179 0
      have hcz70_1 : wc.cell? ⟨gb179, 1, none⟩ = some (.bool a0_1) := bc BK179 1
      have hcz70_2 : wc.cell? ⟨gb179, 2, none⟩ = some (.int .i64 x180002_34) := bc BK179 2
      have hcz70_3 : wc.cell? ⟨gb179, 3, none⟩ = some (.int .i64 a0_3) := bc BK179 3
      have hfz70_0 := blk_frozen BK179.out 0
      have hfz70_1 := blk_frozen BK179.out 1
      have hfz70_2 := blk_frozen BK179.out 2
      have hfz70_3 := blk_frozen BK179.out 3
      have hnb71 := NB177_176.out
      have hnc71 := NB176_177.out
      have hnb72 := NB177_178.out
      have hnc72 := NB178_177.out
      have hcz73_0 : wc.cell? ⟨gb177, 0, none⟩ = some (.bool a1_0) := bc BK177 0
      have hcz73_1 : wc.cell? ⟨gb177, 1, none⟩ = some (.bool a1_1) := bc BK177 1
      have hcz73_2 : wc.cell? ⟨gb177, 2, none⟩ = some (.int .i64 a1_2) := bc BK177 2
      have hcz73_3 : wc.cell? ⟨gb177, 3, none⟩ = some (.int .i64 a1_3) := bc BK177 3
      have hfz73_0 := blk_frozen BK177.out 0
      have hfz73_1 := blk_frozen BK177.out 1
      have hfz73_2 := blk_frozen BK177.out 2
      have hfz73_3 := blk_frozen BK177.out 3
      have hnb74 := NB178_176.out
      have hnc74 := NB176_178.out
      have hcz75_0 : wc.cell? ⟨gb178, 0, none⟩ = some (.bool false) := bc BK178 0
      have hcz75_1 : wc.cell? ⟨gb178, 1, none⟩ = some (.bool false) := bc BK178 1
      have hcz75_2 : wc.cell? ⟨gb178, 2, none⟩ = some (.int .i64 0) := bc BK178 2
      have hcz75_3 : wc.cell? ⟨gb178, 3, none⟩ = some (.int .i64 0) := bc BK178 3
      have hfz75_0 := blk_frozen BK178.out 0
      have hfz75_1 := blk_frozen BK178.out 1
      have hfz75_2 := blk_frozen BK178.out 2
      have hfz75_3 := blk_frozen BK178.out 3
      go_wp2
      refine bodyPost_ret (results_ct rfl _ _ gb178 23 #[.bool true, .bool false, .int .i64 x180002_34, .int .i64 a1_3] (0, 0) _ rfl (by (with_reducible repeat (first | refine blk_drewN ?_ _ | refine blk_drew ?_ | refine blk_alloc ?_ _)); refine blk_put (cs := #[.bool true, .bool false, .int .i64 x180002_34, .int .i64 0]) ?_ 3 _ rfl; (with_reducible repeat (first | refine blk_drewN ?_ _ | refine blk_drew ?_ | refine blk_alloc ?_ _)); refine blk_put (cs := #[.bool true, .bool false, .int .i64 0, .int .i64 0]) ?_ 2 _ rfl; (with_reducible repeat (first | refine blk_drewN ?_ _ | refine blk_drew ?_ | refine blk_alloc ?_ _)); refine blk_put (cs := #[.bool true, .bool false, .int .i64 0, .int .i64 0]) ?_ 1 _ rfl; (with_reducible repeat (first | refine blk_drewN ?_ _ | refine blk_drew ?_ | refine blk_alloc ?_ _)); refine blk_put (cs := #[.bool false, .bool false, .int .i64 0, .int .i64 0]) ?_ 0 _ rfl; (with_reducible repeat (first | refine blk_drewN ?_ _ | refine blk_drew ?_ | refine blk_alloc ?_ _)); refine blk_far ?_ NB178_179.out _; (with_reducible repeat (first | refine blk_drewN ?_ _ | refine blk_drew ?_ | refine blk_alloc ?_ _)); refine blk_far ?_ NB178_179.out _; (with_reducible repeat (first | refine blk_drewN ?_ _ | refine blk_drew ?_ | refine blk_alloc ?_ _)); exact BK178.out) Tryd.underlying23 rfl kk) rfl ?_
      exact ⟨pe, pw⟩
     replace c66 := Bool.eq_false_iff.mpr c66
     subst c66
     have H1 : (if x180002_34 > a1_3 then (some (false, false, 0, 0, false)) else (some (false, false, x180002_34, a1_3, true))) = some (r1, r2, r3, r4, r5) := by rw [if_neg (show ¬ (false = true) by decide)] at H; exact H
     clear H
     have H := H1
     clear H1
     by_cases c76 : x180002_34 > a1_3
     ·rw [if_pos c76] at H
      have c76b0 : decide (a1_3 < x180002_34) = true := decide_eq_true c76
      clear c76
      simp only [Option.some.injEq, Prod.mk.injEq] at H
      obtain ⟨rfl, rfl, rfl, rfl, rfl⟩ := H
      have hnb77 := NB179_176.out
      have hnc77 := NB176_179.out
      have hnb78 := NB179_177.out
      have hnc78 := NB177_179.out
      have hnb79 := NB179_178.out
      have hnc79 := NB178_179.out
      have hcz80_0 : wc.cell? ⟨gb179, 0, none⟩ = some (.bool false) := bc BK179 0
      have hcz80_1 : wc.cell? ⟨gb179, 1, none⟩ = some (.bool a0_1) := bc BK179 1
      have hcz80_2 : wc.cell? ⟨gb179, 2, none⟩ = some (.int .i64 x180002_34) := bc BK179 2
      have hcz80_3 : wc.cell? ⟨gb179, 3, none⟩ = some (.int .i64 a0_3) := bc BK179 3
      have hfz80_0 := blk_frozen BK179.out 0
      have hfz80_1 := blk_frozen BK179.out 1
      have hfz80_2 := blk_frozen BK179.out 2
      have hfz80_3 := blk_frozen BK179.out 3
      have hnb81 := NB177_176.out
      have hnc81 := NB176_177.out
      have hnb82 := NB177_178.out
      have hnc82 := NB178_177.out
      have hcz83_0 : wc.cell? ⟨gb177, 0, none⟩ = some (.bool a1_0) := bc BK177 0
      have hcz83_1 : wc.cell? ⟨gb177, 1, none⟩ = some (.bool a1_1) := bc BK177 1
      have hcz83_2 : wc.cell? ⟨gb177, 2, none⟩ = some (.int .i64 a1_2) := bc BK177 2
      have hcz83_3 : wc.cell? ⟨gb177, 3, none⟩ = some (.int .i64 a1_3) := bc BK177 3
      have hfz83_0 := blk_frozen BK177.out 0
      have hfz83_1 := blk_frozen BK177.out 1
      have hfz83_2 := blk_frozen BK177.out 2
      have hfz83_3 := blk_frozen BK177.out 3
      have hnb84 := NB178_176.out
      have hnc84 := NB176_178.out
      have hcz85_0 : wc.cell? ⟨gb178, 0, none⟩ = some (.bool false) := bc BK178 0
      have hcz85_1 : wc.cell? ⟨gb178, 1, none⟩ = some (.bool false) := bc BK178 1
      have hcz85_2 : wc.cell? ⟨gb178, 2, none⟩ = some (.int .i64 0) := bc BK178 2
      have hcz85_3 : wc.cell? ⟨gb178, 3, none⟩ = some (.int .i64 0) := bc BK178 3
      have hfz85_0 := blk_frozen BK178.out 0
      have hfz85_1 := blk_frozen BK178.out 1
      have hfz85_2 := blk_frozen BK178.out 2
      have hfz85_3 := blk_frozen BK178.out 3
      go_wp2
      refine bodyPost_ret (results_ct rfl _ _ gb178 23 #[.bool false, .bool false, .int .i64 0, .int .i64 0] (0, 0) _ rfl (by (with_reducible repeat (first | refine blk_drewN ?_ _ | refine blk_drew ?_ | refine blk_alloc ?_ _)); refine blk_put (cs := #[.bool false, .bool false, .int .i64 0, .int .i64 0]) ?_ 3 _ rfl; (with_reducible repeat (first | refine blk_drewN ?_ _ | refine blk_drew ?_ | refine blk_alloc ?_ _)); refine blk_put (cs := #[.bool false, .bool false, .int .i64 0, .int .i64 0]) ?_ 2 _ rfl; (with_reducible repeat (first | refine blk_drewN ?_ _ | refine blk_drew ?_ | refine blk_alloc ?_ _)); refine blk_put (cs := #[.bool false, .bool false, .int .i64 0, .int .i64 0]) ?_ 1 _ rfl; (with_reducible repeat (first | refine blk_drewN ?_ _ | refine blk_drew ?_ | refine blk_alloc ?_ _)); refine blk_put (cs := #[.bool false, .bool false, .int .i64 0, .int .i64 0]) ?_ 0 _ rfl; (with_reducible repeat (first | refine blk_drewN ?_ _ | refine blk_drew ?_ | refine blk_alloc ?_ _)); refine blk_far ?_ NB178_179.out _; (with_reducible repeat (first | refine blk_drewN ?_ _ | refine blk_drew ?_ | refine blk_alloc ?_ _)); refine blk_far ?_ NB178_179.out _; (with_reducible repeat (first | refine blk_drewN ?_ _ | refine blk_drew ?_ | refine blk_alloc ?_ _)); exact BK178.out) Tryd.underlying23 rfl kk) rfl ?_
      exact ⟨pe, pw⟩
     rw [if_neg c76] at H
     have c76b0 : decide (a1_3 < x180002_34) = false := decide_eq_false c76
     clear c76
     simp only [Option.some.injEq, Prod.mk.injEq] at H
     obtain ⟨rfl, rfl, rfl, rfl, rfl⟩ := H
     have hnb86 := NB179_176.out
     have hnc86 := NB176_179.out
     have hnb87 := NB179_177.out
     have hnc87 := NB177_179.out
     have hnb88 := NB179_178.out
     have hnc88 := NB178_179.out
     have hcz89_0 : wc.cell? ⟨gb179, 0, none⟩ = some (.bool false) := bc BK179 0
     have hcz89_1 : wc.cell? ⟨gb179, 1, none⟩ = some (.bool a0_1) := bc BK179 1
     have hcz89_2 : wc.cell? ⟨gb179, 2, none⟩ = some (.int .i64 x180002_34) := bc BK179 2
     have hcz89_3 : wc.cell? ⟨gb179, 3, none⟩ = some (.int .i64 a0_3) := bc BK179 3
     have hfz89_0 := blk_frozen BK179.out 0
     have hfz89_1 := blk_frozen BK179.out 1
     have hfz89_2 := blk_frozen BK179.out 2
     have hfz89_3 := blk_frozen BK179.out 3
     have hnb90 := NB177_176.out
     have hnc90 := NB176_177.out
     have hnb91 := NB177_178.out
     have hnc91 := NB178_177.out
     have hcz92_0 : wc.cell? ⟨gb177, 0, none⟩ = some (.bool a1_0) := bc BK177 0
     have hcz92_1 : wc.cell? ⟨gb177, 1, none⟩ = some (.bool a1_1) := bc BK177 1
     have hcz92_2 : wc.cell? ⟨gb177, 2, none⟩ = some (.int .i64 a1_2) := bc BK177 2
     have hcz92_3 : wc.cell? ⟨gb177, 3, none⟩ = some (.int .i64 a1_3) := bc BK177 3
     have hfz92_0 := blk_frozen BK177.out 0
     have hfz92_1 := blk_frozen BK177.out 1
     have hfz92_2 := blk_frozen BK177.out 2
     have hfz92_3 := blk_frozen BK177.out 3
     have hnb93 := NB178_176.out
     have hnc93 := NB176_178.out
     have hcz94_0 : wc.cell? ⟨gb178, 0, none⟩ = some (.bool false) := bc BK178 0
     have hcz94_1 : wc.cell? ⟨gb178, 1, none⟩ = some (.bool false) := bc BK178 1
     have hcz94_2 : wc.cell? ⟨gb178, 2, none⟩ = some (.int .i64 0) := bc BK178 2
     have hcz94_3 : wc.cell? ⟨gb178, 3, none⟩ = some (.int .i64 0) := bc BK178 3
     have hfz94_0 := blk_frozen BK178.out 0
     have hfz94_1 := blk_frozen BK178.out 1
     have hfz94_2 := blk_frozen BK178.out 2
     have hfz94_3 := blk_frozen BK178.out 3
     go_wp2
     refine bodyPost_ret (results_ct rfl _ _ gb178 23 #[.bool false, .bool false, .int .i64 x180002_34, .int .i64 a1_3] (0, 0) _ rfl (by (with_reducible repeat (first | refine blk_drewN ?_ _ | refine blk_drew ?_ | refine blk_alloc ?_ _)); refine blk_put (cs := #[.bool false, .bool false, .int .i64 x180002_34, .int .i64 0]) ?_ 3 _ rfl; (with_reducible repeat (first | refine blk_drewN ?_ _ | refine blk_drew ?_ | refine blk_alloc ?_ _)); refine blk_put (cs := #[.bool false, .bool false, .int .i64 0, .int .i64 0]) ?_ 2 _ rfl; (with_reducible repeat (first | refine blk_drewN ?_ _ | refine blk_drew ?_ | refine blk_alloc ?_ _)); refine blk_put (cs := #[.bool false, .bool false, .int .i64 0, .int .i64 0]) ?_ 1 _ rfl; (with_reducible repeat (first | refine blk_drewN ?_ _ | refine blk_drew ?_ | refine blk_alloc ?_ _)); refine blk_put (cs := #[.bool false, .bool false, .int .i64 0, .int .i64 0]) ?_ 0 _ rfl; (with_reducible repeat (first | refine blk_drewN ?_ _ | refine blk_drew ?_ | refine blk_alloc ?_ _)); refine blk_far ?_ NB178_179.out _; (with_reducible repeat (first | refine blk_drewN ?_ _ | refine blk_drew ?_ | refine blk_alloc ?_ _)); refine blk_far ?_ NB178_179.out _; (with_reducible repeat (first | refine blk_drewN ?_ _ | refine blk_drew ?_ | refine blk_alloc ?_ _)); exact BK178.out) Tryd.underlying23 rfl kk) rfl ?_
     exact ⟨pe, pw⟩
    replace c65 := Bool.eq_false_iff.mpr c65
    subst c65
    have H1 : (if x180000_34 = true then (some (x180000_34, a0_1, x180002_34, a0_3, true)) else (if a0_1 = true then (some (x180000_34, a0_1, x180002_34, a0_3, true)) else (if x180002_34 > a0_3 then (some (false, false, 0, 0, false)) else (some (x180000_34, a0_1, x180002_34, a0_3, true))))) = some (r1, r2, r3, r4, r5) := by rw [if_neg (show ¬ (false = true) by decide)] at H; exact H
    clear H
    have H := H1
    clear H1
    by_cases c95 : x180000_34 = true
    ·subst c95
     have H1 : (some (true, a0_1, x180002_34, a0_3, true)) = some (r1, r2, r3, r4, r5) := by rw [if_pos rfl] at H; exact H
     clear H
     have H := H1
     clear H1
     simp only [Option.some.injEq, Prod.mk.injEq] at H
     obtain ⟨rfl, rfl, rfl, rfl, rfl⟩ := H
     have hnb96 := NB179_176.out
     have hnc96 := NB176_179.out
     have hnb97 := NB179_177.out
     have hnc97 := NB177_179.out
     have hnb98 := NB179_178.out
     have hnc98 := NB178_179.out
     have hcz99_0 : wc.cell? ⟨gb179, 0, none⟩ = some (.bool true) := bc BK179 0
     have hcz99_1 : wc.cell? ⟨gb179, 1, none⟩ = some (.bool a0_1) := bc BK179 1
     have hcz99_2 : wc.cell? ⟨gb179, 2, none⟩ = some (.int .i64 x180002_34) := bc BK179 2
     have hcz99_3 : wc.cell? ⟨gb179, 3, none⟩ = some (.int .i64 a0_3) := bc BK179 3
     have hfz99_0 := blk_frozen BK179.out 0
     have hfz99_1 := blk_frozen BK179.out 1
     have hfz99_2 := blk_frozen BK179.out 2
     have hfz99_3 := blk_frozen BK179.out 3
     have hnb100 := NB178_176.out
     have hnc100 := NB176_178.out
     have hnb101 := NB178_177.out
     have hnc101 := NB177_178.out
     have hcz102_0 : wc.cell? ⟨gb178, 0, none⟩ = some (.bool false) := bc BK178 0
     have hcz102_1 : wc.cell? ⟨gb178, 1, none⟩ = some (.bool false) := bc BK178 1
     have hcz102_2 : wc.cell? ⟨gb178, 2, none⟩ = some (.int .i64 0) := bc BK178 2
     have hcz102_3 : wc.cell? ⟨gb178, 3, none⟩ = some (.int .i64 0) := bc BK178 3
     have hfz102_0 := blk_frozen BK178.out 0
     have hfz102_1 := blk_frozen BK178.out 1
     have hfz102_2 := blk_frozen BK178.out 2
     have hfz102_3 := blk_frozen BK178.out 3
     go_wp2
     refine bodyPost_ret (results_ct rfl _ _ gb178 23 #[.bool true, .bool a0_1, .int .i64 x180002_34, .int .i64 a0_3] (0, 0) _ rfl (by (with_reducible repeat (first | refine blk_drewN ?_ _ | refine blk_drew ?_ | refine blk_alloc ?_ _)); refine blk_put (cs := #[.bool true, .bool a0_1, .int .i64 x180002_34, .int .i64 0]) ?_ 3 _ rfl; (with_reducible repeat (first | refine blk_drewN ?_ _ | refine blk_drew ?_ | refine blk_alloc ?_ _)); refine blk_put (cs := #[.bool true, .bool a0_1, .int .i64 0, .int .i64 0]) ?_ 2 _ rfl; (with_reducible repeat (first | refine blk_drewN ?_ _ | refine blk_drew ?_ | refine blk_alloc ?_ _)); refine blk_put (cs := #[.bool true, .bool false, .int .i64 0, .int .i64 0]) ?_ 1 _ rfl; (with_reducible repeat (first | refine blk_drewN ?_ _ | refine blk_drew ?_ | refine blk_alloc ?_ _)); refine blk_put (cs := #[.bool false, .bool false, .int .i64 0, .int .i64 0]) ?_ 0 _ rfl; (with_reducible repeat (first | refine blk_drewN ?_ _ | refine blk_drew ?_ | refine blk_alloc ?_ _)); exact BK178.out) Tryd.underlying23 rfl kk) rfl ?_
     exact ⟨pe, pw⟩
    replace c95 := Bool.eq_false_iff.mpr c95
    subst c95
    have H1 : (if a0_1 = true then (some (false, a0_1, x180002_34, a0_3, true)) else (if x180002_34 > a0_3 then (some (false, false, 0, 0, false)) else (some (false, a0_1, x180002_34, a0_3, true)))) = some (r1, r2, r3, r4, r5) := by rw [if_neg (show ¬ (false = true) by decide)] at H; exact H
    clear H
    have H := H1
    clear H1
    by_cases c103 : a0_1 = true
    ·subst c103
     have H1 : (some (false, true, x180002_34, a0_3, true)) = some (r1, r2, r3, r4, r5) := by rw [if_pos rfl] at H; exact H
     clear H
     have H := H1
     clear H1
     simp only [Option.some.injEq, Prod.mk.injEq] at H
     obtain ⟨rfl, rfl, rfl, rfl, rfl⟩ := H
     have hnb104 := NB179_176.out
     have hnc104 := NB176_179.out
     have hnb105 := NB179_177.out
     have hnc105 := NB177_179.out
     have hnb106 := NB179_178.out
     have hnc106 := NB178_179.out
     have hcz107_0 : wc.cell? ⟨gb179, 0, none⟩ = some (.bool false) := bc BK179 0
     have hcz107_1 : wc.cell? ⟨gb179, 1, none⟩ = some (.bool true) := bc BK179 1
     have hcz107_2 : wc.cell? ⟨gb179, 2, none⟩ = some (.int .i64 x180002_34) := bc BK179 2
     have hcz107_3 : wc.cell? ⟨gb179, 3, none⟩ = some (.int .i64 a0_3) := bc BK179 3
     have hfz107_0 := blk_frozen BK179.out 0
     have hfz107_1 := blk_frozen BK179.out 1
     have hfz107_2 := blk_frozen BK179.out 2
     have hfz107_3 := blk_frozen BK179.out 3
     have hnb108 := NB178_176.out
     have hnc108 := NB176_178.out
     have hnb109 := NB178_177.out
     have hnc109 := NB177_178.out
     have hcz110_0 : wc.cell? ⟨gb178, 0, none⟩ = some (.bool false) := bc BK178 0
     have hcz110_1 : wc.cell? ⟨gb178, 1, none⟩ = some (.bool false) := bc BK178 1
     have hcz110_2 : wc.cell? ⟨gb178, 2, none⟩ = some (.int .i64 0) := bc BK178 2
     have hcz110_3 : wc.cell? ⟨gb178, 3, none⟩ = some (.int .i64 0) := bc BK178 3
     have hfz110_0 := blk_frozen BK178.out 0
     have hfz110_1 := blk_frozen BK178.out 1
     have hfz110_2 := blk_frozen BK178.out 2
     have hfz110_3 := blk_frozen BK178.out 3
     go_wp2
     refine bodyPost_ret (results_ct rfl _ _ gb178 23 #[.bool false, .bool true, .int .i64 x180002_34, .int .i64 a0_3] (0, 0) _ rfl (by (with_reducible repeat (first | refine blk_drewN ?_ _ | refine blk_drew ?_ | refine blk_alloc ?_ _)); refine blk_put (cs := #[.bool false, .bool true, .int .i64 x180002_34, .int .i64 0]) ?_ 3 _ rfl; (with_reducible repeat (first | refine blk_drewN ?_ _ | refine blk_drew ?_ | refine blk_alloc ?_ _)); refine blk_put (cs := #[.bool false, .bool true, .int .i64 0, .int .i64 0]) ?_ 2 _ rfl; (with_reducible repeat (first | refine blk_drewN ?_ _ | refine blk_drew ?_ | refine blk_alloc ?_ _)); refine blk_put (cs := #[.bool false, .bool false, .int .i64 0, .int .i64 0]) ?_ 1 _ rfl; (with_reducible repeat (first | refine blk_drewN ?_ _ | refine blk_drew ?_ | refine blk_alloc ?_ _)); refine blk_put (cs := #[.bool false, .bool false, .int .i64 0, .int .i64 0]) ?_ 0 _ rfl; (with_reducible repeat (first | refine blk_drewN ?_ _ | refine blk_drew ?_ | refine blk_alloc ?_ _)); exact BK178.out) Tryd.underlying23 rfl kk) rfl ?_
     exact ⟨pe, pw⟩
    replace c103 := Bool.eq_false_iff.mpr c103
    subst c103
    have H1 : (if x180002_34 > a0_3 then (some (false, false, 0, 0, false)) else (some (false, false, x180002_34, a0_3, true))) = some (r1, r2, r3, r4, r5) := by rw [if_neg (show ¬ (false = true) by decide)] at H; exact H
    clear H
    have H := H1
    clear H1
    by_cases c111 : x180002_34 > a0_3
    ·rw [if_pos c111] at H
     have c111b0 : decide (a0_3 < x180002_34) = true := decide_eq_true c111
     clear c111
     simp only [Option.some.injEq, Prod.mk.injEq] at H
     obtain ⟨rfl, rfl, rfl, rfl, rfl⟩ := H
     have hnb112 := NB179_176.out
     have hnc112 := NB176_179.out
     have hnb113 := NB179_177.out
     have hnc113 := NB177_179.out
     have hnb114 := NB179_178.out
     have hnc114 := NB178_179.out
     have hcz115_0 : wc.cell? ⟨gb179, 0, none⟩ = some (.bool false) := bc BK179 0
     have hcz115_1 : wc.cell? ⟨gb179, 1, none⟩ = some (.bool false) := bc BK179 1
     have hcz115_2 : wc.cell? ⟨gb179, 2, none⟩ = some (.int .i64 x180002_34) := bc BK179 2
     have hcz115_3 : wc.cell? ⟨gb179, 3, none⟩ = some (.int .i64 a0_3) := bc BK179 3
     have hfz115_0 := blk_frozen BK179.out 0
     have hfz115_1 := blk_frozen BK179.out 1
     have hfz115_2 := blk_frozen BK179.out 2
     have hfz115_3 := blk_frozen BK179.out 3
     have hnb116 := NB178_176.out
     have hnc116 := NB176_178.out
     have hnb117 := NB178_177.out
     have hnc117 := NB177_178.out
     have hcz118_0 : wc.cell? ⟨gb178, 0, none⟩ = some (.bool false) := bc BK178 0
     have hcz118_1 : wc.cell? ⟨gb178, 1, none⟩ = some (.bool false) := bc BK178 1
     have hcz118_2 : wc.cell? ⟨gb178, 2, none⟩ = some (.int .i64 0) := bc BK178 2
     have hcz118_3 : wc.cell? ⟨gb178, 3, none⟩ = some (.int .i64 0) := bc BK178 3
     have hfz118_0 := blk_frozen BK178.out 0
     have hfz118_1 := blk_frozen BK178.out 1
     have hfz118_2 := blk_frozen BK178.out 2
     have hfz118_3 := blk_frozen BK178.out 3
     go_wp2
     refine bodyPost_ret (results_ct rfl _ _ gb178 23 #[.bool false, .bool false, .int .i64 0, .int .i64 0] (0, 0) _ rfl (by (with_reducible repeat (first | refine blk_drewN ?_ _ | refine blk_drew ?_ | refine blk_alloc ?_ _)); refine blk_put (cs := #[.bool false, .bool false, .int .i64 0, .int .i64 0]) ?_ 3 _ rfl; (with_reducible repeat (first | refine blk_drewN ?_ _ | refine blk_drew ?_ | refine blk_alloc ?_ _)); refine blk_put (cs := #[.bool false, .bool false, .int .i64 0, .int .i64 0]) ?_ 2 _ rfl; (with_reducible repeat (first | refine blk_drewN ?_ _ | refine blk_drew ?_ | refine blk_alloc ?_ _)); refine blk_put (cs := #[.bool false, .bool false, .int .i64 0, .int .i64 0]) ?_ 1 _ rfl; (with_reducible repeat (first | refine blk_drewN ?_ _ | refine blk_drew ?_ | refine blk_alloc ?_ _)); refine blk_put (cs := #[.bool false, .bool false, .int .i64 0, .int .i64 0]) ?_ 0 _ rfl; (with_reducible repeat (first | refine blk_drewN ?_ _ | refine blk_drew ?_ | refine blk_alloc ?_ _)); exact BK178.out) Tryd.underlying23 rfl kk) rfl ?_
     exact ⟨pe, pw⟩
    rw [if_neg c111] at H
    have c111b0 : decide (a0_3 < x180002_34) = false := decide_eq_false c111
    clear c111
    simp only [Option.some.injEq, Prod.mk.injEq] at H
    obtain ⟨rfl, rfl, rfl, rfl, rfl⟩ := H
    have hnb119 := NB179_176.out
    have hnc119 := NB176_179.out
    have hnb120 := NB179_177.out
    have hnc120 := NB177_179.out
    have hnb121 := NB179_178.out
    have hnc121 := NB178_179.out
    have hcz122_0 : wc.cell? ⟨gb179, 0, none⟩ = some (.bool false) := bc BK179 0
    have hcz122_1 : wc.cell? ⟨gb179, 1, none⟩ = some (.bool false) := bc BK179 1
    have hcz122_2 : wc.cell? ⟨gb179, 2, none⟩ = some (.int .i64 x180002_34) := bc BK179 2
    have hcz122_3 : wc.cell? ⟨gb179, 3, none⟩ = some (.int .i64 a0_3) := bc BK179 3
    have hfz122_0 := blk_frozen BK179.out 0
    have hfz122_1 := blk_frozen BK179.out 1
    have hfz122_2 := blk_frozen BK179.out 2
    have hfz122_3 := blk_frozen BK179.out 3
    have hnb123 := NB178_176.out
    have hnc123 := NB176_178.out
    have hnb124 := NB178_177.out
    have hnc124 := NB177_178.out
    have hcz125_0 : wc.cell? ⟨gb178, 0, none⟩ = some (.bool false) := bc BK178 0
    have hcz125_1 : wc.cell? ⟨gb178, 1, none⟩ = some (.bool false) := bc BK178 1
    have hcz125_2 : wc.cell? ⟨gb178, 2, none⟩ = some (.int .i64 0) := bc BK178 2
    have hcz125_3 : wc.cell? ⟨gb178, 3, none⟩ = some (.int .i64 0) := bc BK178 3
    have hfz125_0 := blk_frozen BK178.out 0
    have hfz125_1 := blk_frozen BK178.out 1
    have hfz125_2 := blk_frozen BK178.out 2
    have hfz125_3 := blk_frozen BK178.out 3
    go_wp2
    refine bodyPost_ret (results_ct rfl _ _ gb178 23 #[.bool false, .bool false, .int .i64 x180002_34, .int .i64 a0_3] (0, 0) _ rfl (by (with_reducible repeat (first | refine blk_drewN ?_ _ | refine blk_drew ?_ | refine blk_alloc ?_ _)); refine blk_put (cs := #[.bool false, .bool false, .int .i64 x180002_34, .int .i64 0]) ?_ 3 _ rfl; (with_reducible repeat (first | refine blk_drewN ?_ _ | refine blk_drew ?_ | refine blk_alloc ?_ _)); refine blk_put (cs := #[.bool false, .bool false, .int .i64 0, .int .i64 0]) ?_ 2 _ rfl; (with_reducible repeat (first | refine blk_drewN ?_ _ | refine blk_drew ?_ | refine blk_alloc ?_ _)); refine blk_put (cs := #[.bool false, .bool false, .int .i64 0, .int .i64 0]) ?_ 1 _ rfl; (with_reducible repeat (first | refine blk_drewN ?_ _ | refine blk_drew ?_ | refine blk_alloc ?_ _)); refine blk_put (cs := #[.bool false, .bool false, .int .i64 0, .int .i64 0]) ?_ 0 _ rfl; (with_reducible repeat (first | refine blk_drewN ?_ _ | refine blk_drew ?_ | refine blk_alloc ?_ _)); exact BK178.out) Tryd.underlying23 rfl kk) rfl ?_
    exact ⟨pe, pw⟩

end Go.Proofs.YtimgfgambeffeaaDoor.I
