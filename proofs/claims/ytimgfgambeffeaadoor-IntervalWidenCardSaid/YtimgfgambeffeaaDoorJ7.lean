-- Written by wip/xprint.py (the session's program over the kit's print).
import Derived.Test.YtimgfgambeffeaaDoorEb
import Derived.Test.YtimgfgambeffeaaDoorJ0
import Derived.Test.YtimgfgambeffeaaDoorJ2
namespace Go.Proofs.YtimgfgambeffeaaDoor.J
open Go.RowKit Go.Proofs.YtimgfgambeffeaaDoorW.PrintWords Go.Proofs.YtimgfgambeffeaaDoorW.PrintLast Go.Proofs.YtimgfgambeffeaaDoorW.PrintMore Go.Proofs.Rcg
attribute [local go_sem] max2_int min2_int max_two min_two max_three min_three max_four min_four   -- for this text's walks alone
set_option linter.unusedVariables false
set_option linter.unusedSimpArgs false

/-! ### interval_Narrow: function 42 -/
def interval_Narrow.j0 : Nat → Bool → Bool → Int → Int → Bool → Bool → Int → Int → Bool → Bool → Int → Int → Option (Bool × Bool × Int × Int × Option Int)
 | 0, _, _, _, _, _, _, _, _, _, _, _, _ => none
 | k + 1, x160000, x160001, x160002, x160003, x161000, x161001, x161002, x161003, x165000, x165001, x165002, x165003 => if x160001 = true then (if x165000 = true then (some (x165000, x161001, x165002, x161003, none)) else (if x161001 = true then (some (x165000, x161001, x165002, x161003, none)) else (if x165002 > x161003 then (some (false, false, 0, 0, some 4)) else (some (x165000, x161001, x165002, x161003, none))))) else (if x165000 = true then (some (x165000, x165001, x165002, x165003, none)) else (if x165001 = true then (some (x165000, x165001, x165002, x165003, none)) else (if x165002 > x165003 then (some (false, false, 0, 0, some 4)) else (some (x165000, x165001, x165002, x165003, none)))))
def interval_Narrow.f (k : Nat) (a0_0 : Bool) (a0_1 : Bool) (a0_2 : Int) (a0_3 : Int) (a1_0 : Bool) (a1_1 : Bool) (a1_2 : Int) (a1_3 : Int) : Option (Bool × Bool × Int × Int × Option Int) := (interval_two.f k a0_0 a0_1 a0_2 a0_3 a1_0 a1_1 a1_2 a1_3).bind fun t162 => (if t162.isNone = true then (if a0_0 = true then (interval_Narrow.j0 k a0_0 a0_1 a0_2 a0_3 a1_0 a1_1 a1_2 a1_3 a1_0 a0_1 a1_2 a0_3) else (interval_Narrow.j0 k a0_0 a0_1 a0_2 a0_3 a1_0 a1_1 a1_2 a1_3 a0_0 a0_1 a0_2 a0_3)) else (some (false, false, 0, 0, some (t162.getD 0))))
theorem interval_Narrow.mono_l : ∀ k, (∀ y0 y1 y2 y3 y4 y5 y6 y7 y8 y9 y10 y11, LeO (interval_Narrow.j0 k y0 y1 y2 y3 y4 y5 y6 y7 y8 y9 y10 y11) (interval_Narrow.j0 (k + 1) y0 y1 y2 y3 y4 y5 y6 y7 y8 y9 y10 y11))
 | 0 => fun _ _ _ _ _ _ _ _ _ _ _ _ r h => by simp [interval_Narrow.j0] at h
 | k + 1 => by
  have ih0 := interval_Narrow.mono_l k
  intro y0 y1 y2 y3 y4 y5 y6 y7 y8 y9 y10 y11
  unfold interval_Narrow.j0
  repeat' first
  | (with_reducible exact ih0 _ _ _ _ _ _ _ _ _ _ _ _)
  | (with_reducible exact interval_two.mono _ _ _ _ _ _ _ _ _)
  | (with_reducible exact LeO.refl _)
  | (with_reducible exact LeO.none _)
  | (with_reducible refine LeO.ite ?_ ?_)
  | (with_reducible refine LeO.bind ?_ (fun _ => ?_))
  | exact ih0 _ _ _ _ _ _ _ _ _ _ _ _
  | exact interval_two.mono _ _ _ _ _ _ _ _ _
  | exact LeO.none _
  | refine LeO.ite ?_ ?_
  | refine LeO.bind ?_ (fun _ => ?_)
theorem interval_Narrow.mono : ∀ a0 a1 a2 a3 a4 a5 a6 a7 k, LeO (interval_Narrow.f k a0 a1 a2 a3 a4 a5 a6 a7) (interval_Narrow.f (k + 1) a0 a1 a2 a3 a4 a5 a6 a7) := by
 intro a0 a1 a2 a3 a4 a5 a6 a7 k
 have ih0 := interval_Narrow.mono_l k
 unfold interval_Narrow.f
 repeat' first
   | (with_reducible exact ih0 _ _ _ _ _ _ _ _ _ _ _ _)
   | (with_reducible exact interval_two.mono _ _ _ _ _ _ _ _ _)
   | (with_reducible exact LeO.refl _)
   | (with_reducible exact LeO.none _)
   | (with_reducible refine LeO.ite ?_ ?_)
   | (with_reducible refine LeO.bind ?_ (fun _ => ?_))
   | exact ih0 _ _ _ _ _ _ _ _ _ _ _ _
   | exact interval_two.mono _ _ _ _ _ _ _ _ _
   | exact LeO.none _
   | refine LeO.ite ?_ ?_
   | refine LeO.bind ?_ (fun _ => ?_)
def interval_Narrow.T6 : Bool × List (List Nat × List Nat) := (true, [([], []), ([0], [0]), ([], []), ([2], [2]), ([0, 1], []), ([4, 1, 0, 1], [1, 4]), ([0, 1, 2, 3, 4, 5], []), ([6, 3, 5, 0, 1, 2, 3, 4, 5], [3, 6])])
def interval_Narrow.B6 : List Nat := [0, 1, 0, 4, 3, 19, 63, 127]
theorem interval_Narrow.tab6 : rtab .any (opsOf Tryd.f42 6) = interval_Narrow.T6 := by kernel_rfl
theorem interval_Narrow.bits6 : waitsOk interval_Narrow.T6.2 interval_Narrow.B6 = true := by kernel_rfl
def interval_Narrow.T8 : Bool × List (List Nat × List Nat) := (true, [([], []), ([0], [0]), ([], []), ([2], [2]), ([0, 1], []), ([4, 1, 0, 1], [1, 4]), ([0, 1, 2, 3, 4, 5], []), ([6, 3, 5, 0, 1, 2, 3, 4, 5], [3, 6])])
def interval_Narrow.B8 : List Nat := [0, 1, 0, 4, 3, 19, 63, 127]
theorem interval_Narrow.tab8 : rtab .any (opsOf Tryd.f42 8) = interval_Narrow.T8 := by kernel_rfl
theorem interval_Narrow.bits8 : waitsOk interval_Narrow.T8.2 interval_Narrow.B8 = true := by kernel_rfl
set_option maxHeartbeats 8000000 in
set_option maxRecDepth 100000 in
theorem interval_Narrow.calls [EA] (k : Nat) (a0_0 : Bool) (a0_1 : Bool) (a0_2 : Int) (a0_3 : Int) (a1_0 : Bool) (a1_1 : Bool) (a1_2 : Int) (a1_3 : Int) (r1 : Bool) (r2 : Bool) (r3 : Int) (r4 : Int) (r5 : Option Int) (w : World) (h : interval_Narrow.f k a0_0 a0_1 a0_2 a0_3 a1_0 a1_1 a1_2 a1_3 = some (r1, r2, r3, r4, r5)) (h2_ : ErrAt 2 1 w) (h3_ : ErrAt 3 0 w) (h4_ : ErrAt 4 2 w) :
  Calls Tryd.prog 42 #[.agg #[.bool a0_0, .bool a0_1, .int .i64 a0_2, .int .i64 a0_3], .agg #[.bool a1_0, .bool a1_1, .int .i64 a1_2, .int .i64 a1_3]] w fun e w' => e = .returned (.tuple #[.agg #[.bool r1, .bool r2, .int .i64 r3, .int .i64 r4], errW r5]) ∧ Below w.heap.size w w' := by
 have hE2 := am h2_
 clear h2_
 have hE3 := am h3_
 clear h3_
 have hE4 := am h4_
 clear h4_
 have hu23 := Tryd.underlying23
 have hu28 := Tryd.underlying28
 have HB := am (Below.refl w.heap.size w)
 have H : ((interval_two.f k a0_0 a0_1 a0_2 a0_3 a1_0 a1_1 a1_2 a1_3).bind fun t162 => (if t162.isNone = true then (if a0_0 = true then (interval_Narrow.j0 k a0_0 a0_1 a0_2 a0_3 a1_0 a1_1 a1_2 a1_3 a1_0 a0_1 a1_2 a0_3) else (interval_Narrow.j0 k a0_0 a0_1 a0_2 a0_3 a1_0 a1_1 a1_2 a1_3 a0_0 a0_1 a0_2 a0_3)) else (some (false, false, 0, 0, some (t162.getD 0))))) = some (r1, r2, r3, r4, r5) := h
 clear h
 replace H := Option.bind_eq_some_iff.mp H
 obtain ⟨t162, A30, H⟩ := H
 replace H : (if t162.isNone = true then (if a0_0 = true then (interval_Narrow.j0 k a0_0 a0_1 a0_2 a0_3 a1_0 a1_1 a1_2 a1_3 a1_0 a0_1 a1_2 a0_3) else (interval_Narrow.j0 k a0_0 a0_1 a0_2 a0_3 a1_0 a1_1 a1_2 a1_3 a0_0 a0_1 a0_2 a0_3)) else (some (false, false, 0, 0, some (t162.getD 0)))) = some (r1, r2, r3, r4, r5) := H
 have A3 := am A30
 clear A30
 rcases t162 with _ | q163
 ·have H1 : (if a0_0 = true then (interval_Narrow.j0 k a0_0 a0_1 a0_2 a0_3 a1_0 a1_1 a1_2 a1_3 a1_0 a0_1 a1_2 a0_3) else (interval_Narrow.j0 k a0_0 a0_1 a0_2 a0_3 a1_0 a1_1 a1_2 a1_3 a0_0 a0_1 a0_2 a0_3)) = some (r1, r2, r3, r4, r5) := by rw [if_pos (show (none : Option Int).isNone = true by rfl)] at H; exact H
  clear H
  have H := H1
  clear H1
  try simp only [errW_none, errW_some]
  have HC4 := am H
  clear H
  go_enter Tryd.func42, Tryd.ntmps42
  go_upto_if 17 with (first | ((with_reducible refine gate_dst (N := 2) rfl ?_); refine box_event ?hg (N := 2) ?hd (cs := #[.bool a0_0, .bool a0_1, .int .i64 a0_2, .int .i64 a0_3]) (t := 23) ?hr ?_; (case hd => rfl); (case hg => rfl); (case hr => first | (go_simp; done) | (go_simp; rfl)); intro gb159 hg w5 hbox hb; have n0_ := am (below_step pw hb); have n1_ := am (hbox); have n2_ := am ((by rw [hg]; exact (below_size pw) : w.heap.size ≤ gb159)); have n3_ := am ((by rw [hg]; exact (below_size pw) : w.heap.size ≤ gb159)); clear HB; have HB := n0_; have BK159 := n1_; have GW159 := n2_; have GE159 := n3_; clear n0_ n1_ n2_ n3_; clear hb hbox hg) | ((with_reducible refine gate_dst (N := 3) rfl ?_); refine box_event ?hg (N := 3) ?hd (cs := #[.bool a1_0, .bool a1_1, .int .i64 a1_2, .int .i64 a1_3]) (t := 23) ?hr ?_; (case hd => rfl); (case hg => rfl); (case hr => first | (go_simp; done) | (go_simp; rfl)); intro gb160 hg w6 hbox hb; have n0_ := bb BK159 hb; have n1_ := am (below_step pw hb); have n2_ := am (hbox); have n3_ := am ((by rw [hg]; exact (below_size pw) : w.heap.size ≤ gb160)); have n4_ := am ((by rw [hg]; exact (below_size pw) : w.heap.size ≤ gb160)); have n5_ := am ((by rw [hg]; exact Nat.ne_of_lt (blk_lt pk) : gb159 ≠ gb160)); have n6_ := am ((by rw [hg]; exact Nat.ne_of_gt (blk_lt pk) : gb160 ≠ gb159)); clear BK159; clear HB; have BK159 := n0_; have HB := n1_; have BK160 := n2_; have GW160 := n3_; have GE160 := n4_; have NB159_160 := n5_; have NB160_159 := n6_; clear n0_ n1_ n2_ n3_ n4_ n5_ n6_; clear hb hbox hg) | ((with_reducible refine gate_dst (N := 4) rfl ?_); refine box_event ?hg (N := 4) ?hd (cs := #[.bool false, .bool false, .int .i64 0, .int .i64 0]) (t := 23) ?hr ?_; (case hd => rfl); (case hg => rfl); (case hr => first | (go_simp; done) | (go_simp; rfl)); intro gb161 hg w7 hbox hb; have n0_ := bb BK159 hb; have n1_ := bb BK160 hb; have n2_ := am (below_step pw hb); have n3_ := am (hbox); have n4_ := am ((by rw [hg]; exact (below_size pw) : w.heap.size ≤ gb161)); have n5_ := am ((by rw [hg]; exact (below_size pw) : w.heap.size ≤ gb161)); have n6_ := am ((by rw [hg]; exact Nat.ne_of_lt (blk_lt pk) : gb159 ≠ gb161)); have n7_ := am ((by rw [hg]; exact Nat.ne_of_gt (blk_lt pk) : gb161 ≠ gb159)); have n8_ := am ((by rw [hg]; exact Nat.ne_of_lt (blk_lt pk) : gb160 ≠ gb161)); have n9_ := am ((by rw [hg]; exact Nat.ne_of_gt (blk_lt pk) : gb161 ≠ gb160)); clear BK159; clear BK160; clear HB; have BK159 := n0_; have BK160 := n1_; have HB := n2_; have BK161 := n3_; have GW161 := n4_; have GE161 := n5_; have NB159_161 := n6_; have NB161_159 := n7_; have NB160_161 := n8_; have NB161_160 := n9_; clear n0_ n1_ n2_ n3_ n4_ n5_ n6_ n7_ n8_ n9_; clear hb hbox hg; have hnb8 := NB159_160.out; have hnc8 := NB160_159.out; have hnb9 := NB159_161.out; have hnc9 := NB161_159.out; have hcz10_0 : w7.cell? ⟨gb159, 0, none⟩ = some (.bool a0_0) := bc BK159 0; have hcz10_1 : w7.cell? ⟨gb159, 1, none⟩ = some (.bool a0_1) := bc BK159 1; have hcz10_2 : w7.cell? ⟨gb159, 2, none⟩ = some (.int .i64 a0_2) := bc BK159 2; have hcz10_3 : w7.cell? ⟨gb159, 3, none⟩ = some (.int .i64 a0_3) := bc BK159 3; have hfz10_0 := blk_frozen BK159.out 0; have hfz10_1 := blk_frozen BK159.out 1; have hfz10_2 := blk_frozen BK159.out 2; have hfz10_3 := blk_frozen BK159.out 3; have hnb11 := NB160_161.out; have hnc11 := NB161_160.out; have hcz12_0 : w7.cell? ⟨gb160, 0, none⟩ = some (.bool a1_0) := bc BK160 0; have hcz12_1 : w7.cell? ⟨gb160, 1, none⟩ = some (.bool a1_1) := bc BK160 1; have hcz12_2 : w7.cell? ⟨gb160, 2, none⟩ = some (.int .i64 a1_2) := bc BK160 2; have hcz12_3 : w7.cell? ⟨gb160, 3, none⟩ = some (.int .i64 a1_3) := bc BK160 3; have hfz12_0 := blk_frozen BK160.out 0; have hfz12_1 := blk_frozen BK160.out 1; have hfz12_2 := blk_frozen BK160.out 2; have hfz12_3 := blk_frozen BK160.out 3) | ((with_reducible refine gate_callee (f := 62) rfl ?_); refine goesL_ (some 10) rfl rfl Tryd.func62 kk rfl #[.agg #[.bool a0_0, .bool a0_1, .int .i64 a0_2, .int .i64 a0_3], .agg #[.bool a1_0, .bool a1_1, .int .i64 a1_2, .int .i64 a1_3]] rfl (by (try simp only [List.map_toArray, List.map_cons, List.map_nil]); first | done | rfl | (simp only [List.length_drop, List.length_take]; rfl)) ?_; (with_reducible refine (interval_two.calls k a0_0 a0_1 a0_2 a0_3 a1_0 a1_1 a1_2 a1_3 none _ A3.out (am (ErrAt.below hE2.out pw)).out (am (ErrAt.below hE3.out pw)).out).mono ?_); rintro e w13 ⟨rfl, hb⟩; refine ⟨_, rfl, ?_⟩; have n0_ := bb BK159 hb; have n1_ := bb BK160 hb; have n2_ := bb BK161 hb; have n3_ := am (below_step pw hb); clear BK159; clear BK160; clear BK161; clear HB; have BK159 := n0_; have BK160 := n1_; have BK161 := n2_; have HB := n3_; clear n0_ n1_ n2_ n3_; (try clear hb); (try clear hb2); (try clear hk); (try clear hi); (try simp only [errW_none, errW_some]); have hcz14_0 : w13.cell? ⟨gb159, 0, none⟩ = some (.bool a0_0) := bc BK159 0; have hcz14_1 : w13.cell? ⟨gb159, 1, none⟩ = some (.bool a0_1) := bc BK159 1; have hcz14_2 : w13.cell? ⟨gb159, 2, none⟩ = some (.int .i64 a0_2) := bc BK159 2; have hcz14_3 : w13.cell? ⟨gb159, 3, none⟩ = some (.int .i64 a0_3) := bc BK159 3; have hfz14_0 := blk_frozen BK159.out 0; have hfz14_1 := blk_frozen BK159.out 1; have hfz14_2 := blk_frozen BK159.out 2; have hfz14_3 := blk_frozen BK159.out 3) | ((with_reducible refine gate_dst (N := 7) rfl ?_); refine box_event ?hg (N := 7) ?hd (cs := #[.bool false, .bool false, .int .i64 0, .int .i64 0]) (t := 23) ?hr ?_; (case hd => rfl); (case hg => rfl); (case hr => first | (go_simp; done) | (go_simp; rfl)); intro gb164 hg w15 hbox hb; have n0_ := bb BK159 hb; have n1_ := bb BK160 hb; have n2_ := bb BK161 hb; have n3_ := am (below_step pw hb); have n4_ := am (hbox); have n5_ := am ((by rw [hg]; exact (below_size pw) : w.heap.size ≤ gb164)); have n6_ := am ((by rw [hg]; exact (below_size pw) : w.heap.size ≤ gb164)); have n7_ := am ((by rw [hg]; exact Nat.ne_of_lt (blk_lt pk) : gb159 ≠ gb164)); have n8_ := am ((by rw [hg]; exact Nat.ne_of_gt (blk_lt pk) : gb164 ≠ gb159)); have n9_ := am ((by rw [hg]; exact Nat.ne_of_lt (blk_lt pk) : gb160 ≠ gb164)); have n10_ := am ((by rw [hg]; exact Nat.ne_of_gt (blk_lt pk) : gb164 ≠ gb160)); have n11_ := am ((by rw [hg]; exact Nat.ne_of_lt (blk_lt pk) : gb161 ≠ gb164)); have n12_ := am ((by rw [hg]; exact Nat.ne_of_gt (blk_lt pk) : gb164 ≠ gb161)); clear BK159; clear BK160; clear BK161; clear HB; have BK159 := n0_; have BK160 := n1_; have BK161 := n2_; have HB := n3_; have BK164 := n4_; have GW164 := n5_; have GE164 := n6_; have NB159_164 := n7_; have NB164_159 := n8_; have NB160_164 := n9_; have NB164_160 := n10_; have NB161_164 := n11_; have NB164_161 := n12_; clear n0_ n1_ n2_ n3_ n4_ n5_ n6_ n7_ n8_ n9_ n10_ n11_ n12_; clear hb hbox hg; have hnb16 := NB164_159.out; have hnc16 := NB159_164.out; have hnb17 := NB164_160.out; have hnc17 := NB160_164.out; have hnb18 := NB164_161.out; have hnc18 := NB161_164.out; have hcz19_0 : w15.cell? ⟨gb164, 0, none⟩ = some (.bool false) := bc BK164 0; have hcz19_1 : w15.cell? ⟨gb164, 1, none⟩ = some (.bool false) := bc BK164 1; have hcz19_2 : w15.cell? ⟨gb164, 2, none⟩ = some (.int .i64 0) := bc BK164 2; have hcz19_3 : w15.cell? ⟨gb164, 3, none⟩ = some (.int .i64 0) := bc BK164 3; have hfz19_0 := blk_frozen BK164.out 0; have hfz19_1 := blk_frozen BK164.out 1; have hfz19_2 := blk_frozen BK164.out 2; have hfz19_3 := blk_frozen BK164.out 3; have hcz20_0 : w15.cell? ⟨gb159, 0, none⟩ = some (.bool a0_0) := bc BK159 0; have hcz20_1 : w15.cell? ⟨gb159, 1, none⟩ = some (.bool a0_1) := bc BK159 1; have hcz20_2 : w15.cell? ⟨gb159, 2, none⟩ = some (.int .i64 a0_2) := bc BK159 2; have hcz20_3 : w15.cell? ⟨gb159, 3, none⟩ = some (.int .i64 a0_3) := bc BK159 3; have hfz20_0 := blk_frozen BK159.out 0; have hfz20_1 := blk_frozen BK159.out 1; have hfz20_2 := blk_frozen BK159.out 2; have hfz20_3 := blk_frozen BK159.out 3))
  (try simp only [Act.put, List.setIfInBounds_toArray, List.set_cons_zero, List.set_cons_succ])
  go_cut [] (fun wc => ∃ (kq : Nat) (x165000_3 : Bool) (x165002_3 : Int), Aside0 (interval_Narrow.j0 kq a0_0 a0_1 a0_2 a0_3 a1_0 a1_1 a1_2 a1_3 x165000_3 a0_1 x165002_3 a0_3 = some (r1, r2, r3, r4, r5)) ∧ Aside0 (kq ≤ k) ∧ Aside0 (wc.heap[gb159]? = some (.cells #[.bool a0_0, .bool a0_1, .int .i64 a0_2, .int .i64 a0_3] 23 (0, 0))) ∧ Aside0 (wc.heap[gb160]? = some (.cells #[.bool a1_0, .bool a1_1, .int .i64 a1_2, .int .i64 a1_3] 23 (0, 0))) ∧ Aside0 (wc.heap[gb161]? = some (.cells #[.bool false, .bool false, .int .i64 0, .int .i64 0] 23 (0, 0))) ∧ Aside0 (wc.heap[gb164]? = some (.cells #[.bool x165000_3, .bool a0_1, .int .i64 x165002_3, .int .i64 a0_3] 23 (0, 0))) ∧ Aside0 (Below w.heap.size w wc))
  case first =>
   have H := HC4.out
   clear HC4
   by_cases c21 : a0_0 = true
   ·subst c21
    have H1 : (interval_Narrow.j0 k true a0_1 a0_2 a0_3 a1_0 a1_1 a1_2 a1_3 a1_0 a0_1 a1_2 a0_3) = some (r1, r2, r3, r4, r5) := by rw [if_pos rfl] at H; exact H
    clear H
    have H := H1
    clear H1
    have H' := am H
    clear H
    try go_wp2
    have n0_ : Aside0 (((((w15.setCell ⟨gb164, 0, none⟩ (.bool true)).setCell ⟨gb164, 1, none⟩ (.bool a0_1)).setCell ⟨gb164, 2, none⟩ (.int .i64 a0_2)).setCell ⟨gb164, 3, none⟩ (.int .i64 a0_3)).heap[gb159]? = some (.cells #[.bool true, .bool a0_1, .int .i64 a0_2, .int .i64 a0_3] 23 (0, 0))) := ⟨by (with_reducible repeat (first | refine blk_drewN ?_ _ | refine blk_drew ?_ | refine blk_alloc ?_ _)); refine blk_far ?_ NB159_164.out _; (with_reducible repeat (first | refine blk_drewN ?_ _ | refine blk_drew ?_ | refine blk_alloc ?_ _)); refine blk_far ?_ NB159_164.out _; (with_reducible repeat (first | refine blk_drewN ?_ _ | refine blk_drew ?_ | refine blk_alloc ?_ _)); refine blk_far ?_ NB159_164.out _; (with_reducible repeat (first | refine blk_drewN ?_ _ | refine blk_drew ?_ | refine blk_alloc ?_ _)); refine blk_far ?_ NB159_164.out _; (with_reducible repeat (first | refine blk_drewN ?_ _ | refine blk_drew ?_ | refine blk_alloc ?_ _)); exact BK159.out⟩
    have n1_ : Aside0 (((((w15.setCell ⟨gb164, 0, none⟩ (.bool true)).setCell ⟨gb164, 1, none⟩ (.bool a0_1)).setCell ⟨gb164, 2, none⟩ (.int .i64 a0_2)).setCell ⟨gb164, 3, none⟩ (.int .i64 a0_3)).heap[gb160]? = some (.cells #[.bool a1_0, .bool a1_1, .int .i64 a1_2, .int .i64 a1_3] 23 (0, 0))) := ⟨by (with_reducible repeat (first | refine blk_drewN ?_ _ | refine blk_drew ?_ | refine blk_alloc ?_ _)); refine blk_far ?_ NB160_164.out _; (with_reducible repeat (first | refine blk_drewN ?_ _ | refine blk_drew ?_ | refine blk_alloc ?_ _)); refine blk_far ?_ NB160_164.out _; (with_reducible repeat (first | refine blk_drewN ?_ _ | refine blk_drew ?_ | refine blk_alloc ?_ _)); refine blk_far ?_ NB160_164.out _; (with_reducible repeat (first | refine blk_drewN ?_ _ | refine blk_drew ?_ | refine blk_alloc ?_ _)); refine blk_far ?_ NB160_164.out _; (with_reducible repeat (first | refine blk_drewN ?_ _ | refine blk_drew ?_ | refine blk_alloc ?_ _)); exact BK160.out⟩
    have n2_ : Aside0 (((((w15.setCell ⟨gb164, 0, none⟩ (.bool true)).setCell ⟨gb164, 1, none⟩ (.bool a0_1)).setCell ⟨gb164, 2, none⟩ (.int .i64 a0_2)).setCell ⟨gb164, 3, none⟩ (.int .i64 a0_3)).heap[gb161]? = some (.cells #[.bool false, .bool false, .int .i64 0, .int .i64 0] 23 (0, 0))) := ⟨by (with_reducible repeat (first | refine blk_drewN ?_ _ | refine blk_drew ?_ | refine blk_alloc ?_ _)); refine blk_far ?_ NB161_164.out _; (with_reducible repeat (first | refine blk_drewN ?_ _ | refine blk_drew ?_ | refine blk_alloc ?_ _)); refine blk_far ?_ NB161_164.out _; (with_reducible repeat (first | refine blk_drewN ?_ _ | refine blk_drew ?_ | refine blk_alloc ?_ _)); refine blk_far ?_ NB161_164.out _; (with_reducible repeat (first | refine blk_drewN ?_ _ | refine blk_drew ?_ | refine blk_alloc ?_ _)); refine blk_far ?_ NB161_164.out _; (with_reducible repeat (first | refine blk_drewN ?_ _ | refine blk_drew ?_ | refine blk_alloc ?_ _)); exact BK161.out⟩
    have n3_ : Aside0 (((((w15.setCell ⟨gb164, 0, none⟩ (.bool true)).setCell ⟨gb164, 1, none⟩ (.bool a0_1)).setCell ⟨gb164, 2, none⟩ (.int .i64 a0_2)).setCell ⟨gb164, 3, none⟩ (.int .i64 a0_3)).heap[gb164]? = some (.cells #[.bool true, .bool a0_1, .int .i64 a0_2, .int .i64 a0_3] 23 (0, 0))) := ⟨by (with_reducible repeat (first | refine blk_drewN ?_ _ | refine blk_drew ?_ | refine blk_alloc ?_ _)); refine blk_put (cs := #[.bool true, .bool a0_1, .int .i64 a0_2, .int .i64 0]) ?_ 3 _ rfl; (with_reducible repeat (first | refine blk_drewN ?_ _ | refine blk_drew ?_ | refine blk_alloc ?_ _)); refine blk_put (cs := #[.bool true, .bool a0_1, .int .i64 0, .int .i64 0]) ?_ 2 _ rfl; (with_reducible repeat (first | refine blk_drewN ?_ _ | refine blk_drew ?_ | refine blk_alloc ?_ _)); refine blk_put (cs := #[.bool true, .bool false, .int .i64 0, .int .i64 0]) ?_ 1 _ rfl; (with_reducible repeat (first | refine blk_drewN ?_ _ | refine blk_drew ?_ | refine blk_alloc ?_ _)); refine blk_put (cs := #[.bool false, .bool false, .int .i64 0, .int .i64 0]) ?_ 0 _ rfl; (with_reducible repeat (first | refine blk_drewN ?_ _ | refine blk_drew ?_ | refine blk_alloc ?_ _)); exact BK164.out⟩
    have n4_ : Aside0 (Below w.heap.size w ((((w15.setCell ⟨gb164, 0, none⟩ (.bool true)).setCell ⟨gb164, 1, none⟩ (.bool a0_1)).setCell ⟨gb164, 2, none⟩ (.int .i64 a0_2)).setCell ⟨gb164, 3, none⟩ (.int .i64 a0_3))) := ⟨pw⟩
    (try clear BK159)
    (try clear BK160)
    (try clear BK161)
    (try clear BK164)
    (try clear HB)
    generalize ((((w15.setCell ⟨gb164, 0, none⟩ (.bool true)).setCell ⟨gb164, 1, none⟩ (.bool a0_1)).setCell ⟨gb164, 2, none⟩ (.int .i64 a0_2)).setCell ⟨gb164, 3, none⟩ (.int .i64 a0_3)) = w22 at n0_ n1_ n2_ n3_ n4_ ⊢
    revert n0_ n1_ n2_ n3_ n4_
    intro BK159 BK160 BK161 BK164 HB
    have n0_ := am (blk_drew BK159.out)
    have n1_ := am (blk_drew BK160.out)
    have n2_ := am (blk_drew BK161.out)
    have n3_ := am (blk_drew BK164.out)
    have n4_ := am (below_drew1 HB.out)
    clear BK159 BK160 BK161 BK164 HB
    revert n0_ n1_ n2_ n3_ n4_
    intro BK159 BK160 BK161 BK164 HB
    refine start_ (n := 8) (S := fun w' => w'.cell? ⟨gb160, 0, none⟩ = some (.bool a1_0) ∧ w'.cell? ⟨gb160, 1, none⟩ = some (.bool a1_1) ∧ w'.cell? ⟨gb160, 2, none⟩ = some (.int .i64 a1_2) ∧ w'.cell? ⟨gb160, 3, none⟩ = some (.int .i64 a1_3)) (ds := []) #[false, false, false, false, false, false, false, false] kk rfl rfl ⟨bc BK160 0, bc BK160 1, bc BK160 2, bc BK160 3⟩ (fun hHeld => ?_); refine with_tabW interval_Narrow.tab6 interval_Narrow.bits6 (fun HT_ HW_ => ?_)
    generalize w22.drew = w23 at BK159 BK160 BK161 BK164 HB hHeld ⊢
    refine pure_ (i := 0) (N := some 18) (v := ?_) (a' := ?_) #[true, false, false, false, false, false, false, false] rfl rfl (any_of HT_.out kk) (fun _ _ _ h => h) (Or.inl ⟨by rfl, ?_⟩) ?_ ?_
    rotate_left
    ·intro w'
     go_simp
     with_reducible rfl
    rotate_left
    ·simp only [Act.put, List.setIfInBounds_toArray, List.set_cons_zero, List.set_cons_succ, i64_w, i32_w]
     rfl
    refine pure_ (i := 2) (N := some 20) (v := ?_) (a' := ?_) #[true, false, true, false, false, false, false, false] rfl rfl (any_of HT_.out kk) (fun _ _ _ h => h) (Or.inl ⟨by rfl, ?_⟩) ?_ ?_
    rotate_left
    ·intro w'
     go_simp
     with_reducible rfl
    rotate_left
    ·simp only [Act.put, List.setIfInBounds_toArray, List.set_cons_zero, List.set_cons_succ, i64_w, i32_w]
     rfl
    refine take_ (i := 1) (N := some 19) (v := ?_) (a' := ?_) #[true, true, true, false, false, false, false, false] rfl rfl (take_ofW HT_.out HW_.out kk) (fun _ _ _ h => h) (Or.inl ⟨by rfl, ?_⟩) hHeld ?_ ?_
    rotate_left
    ·rintro w' ⟨s0, s1, s2, s3⟩
     go_simp
     with_reducible rfl
    rotate_left
    ·simp only [Act.put, List.setIfInBounds_toArray, List.set_cons_zero, List.set_cons_succ, i64_w, i32_w]
     rfl
    refine pure_ (i := 4) (N := some 22) (v := ?_) (a' := ?_) #[true, true, true, false, true, false, false, false] rfl rfl (any_of HT_.out kk) (fun _ _ _ h => h) (Or.inl ⟨by rfl, ?_⟩) ?_ ?_
    rotate_left
    ·intro w'
     go_simp
     with_reducible rfl
    rotate_left
    ·simp only [Act.put, List.setIfInBounds_toArray, List.set_cons_zero, List.set_cons_succ, i64_w, i32_w]
     rfl
    refine take_ (i := 3) (N := some 21) (v := ?_) (a' := ?_) #[true, true, true, true, true, false, false, false] rfl rfl (take_ofW HT_.out HW_.out kk) (fun _ _ _ h => h) (Or.inl ⟨by rfl, ?_⟩) hHeld ?_ ?_
    rotate_left
    ·rintro w' ⟨s0, s1, s2, s3⟩
     go_simp
     with_reducible rfl
    rotate_left
    ·simp only [Act.put, List.setIfInBounds_toArray, List.set_cons_zero, List.set_cons_succ, i64_w, i32_w]
     rfl
    refine one_ (i := 5) (N := none) #[true, true, true, true, true, true, false, false] rfl rfl (one_of HT_.out kk) (by decide) (fun K hK => ?_)
    have hs24 : w23.cell? ⟨gb164, 0, none⟩ = some (.bool true) := bc BK164 0
    have hfs24 := blk_frozen BK164.out 0
    have hns24_0 := NB159_164.out
    have hns24_1 := NB160_164.out
    have hns24_2 := NB161_164.out
    have hms24_0 := NB164_159.out
    have hms24_1 := NB164_160.out
    have hms24_2 := NB164_161.out
    refine skip_ (w1 := ?_) (by rfl) rfl ?_ ?_
    rotate_left
    ·go_simp
     rfl
    refine hK.out _ _ ⟨((cell_far (p := ⟨gb164, _, none⟩) NB160_164.out _).trans (hHeld.1)), ((cell_far (p := ⟨gb164, _, none⟩) NB160_164.out _).trans (hHeld.2.1)), ((cell_far (p := ⟨gb164, _, none⟩) NB160_164.out _).trans (hHeld.2.2.1)), ((cell_far (p := ⟨gb164, _, none⟩) NB160_164.out _).trans (hHeld.2.2.2))⟩ (fun hHeld => ?_)
    clear hK K
    refine pure_ (i := 6) (N := some 23) (v := ?_) (a' := ?_) #[true, true, true, true, true, true, true, false] rfl rfl (any_of HT_.out kk) (fun _ _ _ h => h) (Or.inl ⟨by rfl, ?_⟩) ?_ ?_
    rotate_left
    ·intro w'
     go_simp
     with_reducible rfl
    rotate_left
    ·simp only [Act.put, List.setIfInBounds_toArray, List.set_cons_zero, List.set_cons_succ, i64_w, i32_w]
     rfl
    refine one_ (i := 7) (N := none) #[true, true, true, true, true, true, true, true] rfl rfl (one_of HT_.out kk) (by decide) (fun K hK => ?_)
    have hs25 : w23.cell? ⟨gb164, 2, none⟩ = some (.int .i64 a0_2) := bc BK164 2
    have hfs25 := blk_frozen BK164.out 2
    have hns25_0 := NB159_164.out
    have hns25_1 := NB160_164.out
    have hns25_2 := NB161_164.out
    have hms25_0 := NB164_159.out
    have hms25_1 := NB164_160.out
    have hms25_2 := NB164_161.out
    refine skip_ (w1 := ?_) (by rfl) rfl ?_ ?_
    rotate_left
    ·go_simp
     rfl
    refine hK.out _ _ ⟨((cell_far (p := ⟨gb164, _, none⟩) NB160_164.out _).trans (hHeld.1)), ((cell_far (p := ⟨gb164, _, none⟩) NB160_164.out _).trans (hHeld.2.1)), ((cell_far (p := ⟨gb164, _, none⟩) NB160_164.out _).trans (hHeld.2.2.1)), ((cell_far (p := ⟨gb164, _, none⟩) NB160_164.out _).trans (hHeld.2.2.2))⟩ (fun hHeld => ?_)
    clear hK K
    refine done_ (done_of HT_.out kk) ?_
    try go_wp2
    go_meet
    case rel => exact ⟨_, (a1_0), (a1_2), H', ⟨by first | omega | exact Nat.le_refl _⟩, ⟨by (with_reducible repeat (first | refine blk_drewN ?_ _ | refine blk_drew ?_ | refine blk_alloc ?_ _)); refine blk_far ?_ NB159_164.out _; (with_reducible repeat (first | refine blk_drewN ?_ _ | refine blk_drew ?_ | refine blk_alloc ?_ _)); refine blk_far ?_ NB159_164.out _; (with_reducible repeat (first | refine blk_drewN ?_ _ | refine blk_drew ?_ | refine blk_alloc ?_ _)); exact BK159.out⟩, ⟨by (with_reducible repeat (first | refine blk_drewN ?_ _ | refine blk_drew ?_ | refine blk_alloc ?_ _)); refine blk_far ?_ NB160_164.out _; (with_reducible repeat (first | refine blk_drewN ?_ _ | refine blk_drew ?_ | refine blk_alloc ?_ _)); refine blk_far ?_ NB160_164.out _; (with_reducible repeat (first | refine blk_drewN ?_ _ | refine blk_drew ?_ | refine blk_alloc ?_ _)); exact BK160.out⟩, ⟨by (with_reducible repeat (first | refine blk_drewN ?_ _ | refine blk_drew ?_ | refine blk_alloc ?_ _)); refine blk_far ?_ NB161_164.out _; (with_reducible repeat (first | refine blk_drewN ?_ _ | refine blk_drew ?_ | refine blk_alloc ?_ _)); refine blk_far ?_ NB161_164.out _; (with_reducible repeat (first | refine blk_drewN ?_ _ | refine blk_drew ?_ | refine blk_alloc ?_ _)); exact BK161.out⟩, ⟨by (with_reducible repeat (first | refine blk_drewN ?_ _ | refine blk_drew ?_ | refine blk_alloc ?_ _)); refine blk_put (cs := #[.bool a1_0, .bool a0_1, .int .i64 a0_2, .int .i64 a0_3]) ?_ 2 _ rfl; (with_reducible repeat (first | refine blk_drewN ?_ _ | refine blk_drew ?_ | refine blk_alloc ?_ _)); refine blk_put (cs := #[.bool true, .bool a0_1, .int .i64 a0_2, .int .i64 a0_3]) ?_ 0 _ rfl; (with_reducible repeat (first | refine blk_drewN ?_ _ | refine blk_drew ?_ | refine blk_alloc ?_ _)); exact BK164.out⟩, ⟨pw⟩⟩
   replace c21 := Bool.eq_false_iff.mpr c21
   subst c21
   have H1 : (interval_Narrow.j0 k false a0_1 a0_2 a0_3 a1_0 a1_1 a1_2 a1_3 false a0_1 a0_2 a0_3) = some (r1, r2, r3, r4, r5) := by rw [if_neg (show ¬ (false = true) by decide)] at H; exact H
   clear H
   have H := H1
   clear H1
   have H' := am H
   clear H
   go_wp2
   go_meet
   case rel => exact ⟨_, (false), (a0_2), H', ⟨by first | omega | exact Nat.le_refl _⟩, ⟨by (with_reducible repeat (first | refine blk_drewN ?_ _ | refine blk_drew ?_ | refine blk_alloc ?_ _)); refine blk_far ?_ NB159_164.out _; (with_reducible repeat (first | refine blk_drewN ?_ _ | refine blk_drew ?_ | refine blk_alloc ?_ _)); refine blk_far ?_ NB159_164.out _; (with_reducible repeat (first | refine blk_drewN ?_ _ | refine blk_drew ?_ | refine blk_alloc ?_ _)); refine blk_far ?_ NB159_164.out _; (with_reducible repeat (first | refine blk_drewN ?_ _ | refine blk_drew ?_ | refine blk_alloc ?_ _)); refine blk_far ?_ NB159_164.out _; (with_reducible repeat (first | refine blk_drewN ?_ _ | refine blk_drew ?_ | refine blk_alloc ?_ _)); exact BK159.out⟩, ⟨by (with_reducible repeat (first | refine blk_drewN ?_ _ | refine blk_drew ?_ | refine blk_alloc ?_ _)); refine blk_far ?_ NB160_164.out _; (with_reducible repeat (first | refine blk_drewN ?_ _ | refine blk_drew ?_ | refine blk_alloc ?_ _)); refine blk_far ?_ NB160_164.out _; (with_reducible repeat (first | refine blk_drewN ?_ _ | refine blk_drew ?_ | refine blk_alloc ?_ _)); refine blk_far ?_ NB160_164.out _; (with_reducible repeat (first | refine blk_drewN ?_ _ | refine blk_drew ?_ | refine blk_alloc ?_ _)); refine blk_far ?_ NB160_164.out _; (with_reducible repeat (first | refine blk_drewN ?_ _ | refine blk_drew ?_ | refine blk_alloc ?_ _)); exact BK160.out⟩, ⟨by (with_reducible repeat (first | refine blk_drewN ?_ _ | refine blk_drew ?_ | refine blk_alloc ?_ _)); refine blk_far ?_ NB161_164.out _; (with_reducible repeat (first | refine blk_drewN ?_ _ | refine blk_drew ?_ | refine blk_alloc ?_ _)); refine blk_far ?_ NB161_164.out _; (with_reducible repeat (first | refine blk_drewN ?_ _ | refine blk_drew ?_ | refine blk_alloc ?_ _)); refine blk_far ?_ NB161_164.out _; (with_reducible repeat (first | refine blk_drewN ?_ _ | refine blk_drew ?_ | refine blk_alloc ?_ _)); refine blk_far ?_ NB161_164.out _; (with_reducible repeat (first | refine blk_drewN ?_ _ | refine blk_drew ?_ | refine blk_alloc ?_ _)); exact BK161.out⟩, ⟨by (with_reducible repeat (first | refine blk_drewN ?_ _ | refine blk_drew ?_ | refine blk_alloc ?_ _)); refine blk_put (cs := #[.bool false, .bool a0_1, .int .i64 a0_2, .int .i64 0]) ?_ 3 _ rfl; (with_reducible repeat (first | refine blk_drewN ?_ _ | refine blk_drew ?_ | refine blk_alloc ?_ _)); refine blk_put (cs := #[.bool false, .bool a0_1, .int .i64 0, .int .i64 0]) ?_ 2 _ rfl; (with_reducible repeat (first | refine blk_drewN ?_ _ | refine blk_drew ?_ | refine blk_alloc ?_ _)); refine blk_put (cs := #[.bool false, .bool false, .int .i64 0, .int .i64 0]) ?_ 1 _ rfl; (with_reducible repeat (first | refine blk_drewN ?_ _ | refine blk_drew ?_ | refine blk_alloc ?_ _)); refine blk_put (cs := #[.bool false, .bool false, .int .i64 0, .int .i64 0]) ?_ 0 _ rfl; (with_reducible repeat (first | refine blk_drewN ?_ _ | refine blk_drew ?_ | refine blk_alloc ?_ _)); exact BK164.out⟩, ⟨pw⟩⟩
  clear HC4
  try clear c1
  try clear q1
  try clear c2
  try clear p2
  try clear c4
  try clear c6
  try clear c8
  try clear c9
  try clear c11
  try clear c16
  try clear q16
  try clear c17
  try clear c18
  try clear c21
  try clear hcz10_0
  try clear hcz10_1
  try clear hcz10_2
  try clear hcz10_3
  try clear hcz12_0
  try clear hcz12_1
  try clear hcz12_2
  try clear hcz12_3
  try clear hcz14_0
  try clear hcz14_1
  try clear hcz14_2
  try clear hcz14_3
  try clear hcz19_0
  try clear hcz19_1
  try clear hcz19_2
  try clear hcz19_3
  try clear hcz20_0
  try clear hcz20_1
  try clear hcz20_2
  try clear hcz20_3
  try clear hfz10_0
  try clear hfz10_1
  try clear hfz10_2
  try clear hfz10_3
  try clear hfz12_0
  try clear hfz12_1
  try clear hfz12_2
  try clear hfz12_3
  try clear hfz14_0
  try clear hfz14_1
  try clear hfz14_2
  try clear hfz14_3
  try clear hfz19_0
  try clear hfz19_1
  try clear hfz19_2
  try clear hfz19_3
  try clear hfz20_0
  try clear hfz20_1
  try clear hfz20_2
  try clear hfz20_3
  try clear q163
  obtain ⟨kq, x165000_3, x165002_3, HA, HJ3, BK159, BK160, BK161, BK164, HB⟩ := hcut
  cases kq with
  | zero => exact absurd HA.out (by simp [interval_Narrow.j0])
  | succ kj3 =>
   have H := HA.out
   clear HA
   simp only [interval_Narrow.j0] at H
   by_cases c26 : a0_1 = true
   ·subst c26
    have H1 : (if x165000_3 = true then (some (x165000_3, a1_1, x165002_3, a1_3, none)) else (if a1_1 = true then (some (x165000_3, a1_1, x165002_3, a1_3, none)) else (if x165002_3 > a1_3 then (some (false, false, 0, 0, some 4)) else (some (x165000_3, a1_1, x165002_3, a1_3, none))))) = some (r1, r2, r3, r4, r5) := by rw [if_pos rfl] at H; exact H
    clear H
    have H := H1
    clear H1
    by_cases c27 : x165000_3 = true
    ·subst c27
     have H1 : (some (true, a1_1, x165002_3, a1_3, none)) = some (r1, r2, r3, r4, r5) := by rw [if_pos rfl] at H; exact H
     clear H
     have H := H1
     clear H1
     simp only [Option.some.injEq, Prod.mk.injEq] at H
     obtain ⟨rfl, rfl, rfl, rfl, rfl⟩ := H
     have hnb28 := NB159_160.out
     have hnc28 := NB160_159.out
     have hnb29 := NB159_161.out
     have hnc29 := NB161_159.out
     have hnb30 := NB159_164.out
     have hnc30 := NB164_159.out
     have hcz31_0 : wc.cell? ⟨gb159, 0, none⟩ = some (.bool a0_0) := bc BK159 0
     have hcz31_1 : wc.cell? ⟨gb159, 1, none⟩ = some (.bool true) := bc BK159 1
     have hcz31_2 : wc.cell? ⟨gb159, 2, none⟩ = some (.int .i64 a0_2) := bc BK159 2
     have hcz31_3 : wc.cell? ⟨gb159, 3, none⟩ = some (.int .i64 a0_3) := bc BK159 3
     have hfz31_0 := blk_frozen BK159.out 0
     have hfz31_1 := blk_frozen BK159.out 1
     have hfz31_2 := blk_frozen BK159.out 2
     have hfz31_3 := blk_frozen BK159.out 3
     try go_wp2
     have n0_ := am (blk_drew BK159.out)
     have n1_ := am (blk_drew BK160.out)
     have n2_ := am (blk_drew BK161.out)
     have n3_ := am (blk_drew BK164.out)
     have n4_ := am (below_drew1 HB.out)
     clear BK159 BK160 BK161 BK164 HB
     revert n0_ n1_ n2_ n3_ n4_
     intro BK159 BK160 BK161 BK164 HB
     refine start_ (n := 8) (S := fun w' => w'.cell? ⟨gb160, 0, none⟩ = some (.bool a1_0) ∧ w'.cell? ⟨gb160, 1, none⟩ = some (.bool a1_1) ∧ w'.cell? ⟨gb160, 2, none⟩ = some (.int .i64 a1_2) ∧ w'.cell? ⟨gb160, 3, none⟩ = some (.int .i64 a1_3)) (ds := []) #[false, false, false, false, false, false, false, false] kk rfl rfl ⟨bc BK160 0, bc BK160 1, bc BK160 2, bc BK160 3⟩ (fun hHeld => ?_); refine with_tabW interval_Narrow.tab8 interval_Narrow.bits8 (fun HT_ HW_ => ?_)
     generalize wc.drew = w32 at BK159 BK160 BK161 BK164 HB hHeld ⊢
     refine pure_ (i := 0) (N := some 26) (v := ?_) (a' := ?_) #[true, false, false, false, false, false, false, false] rfl rfl (any_of HT_.out kk) (fun _ _ _ h => h) (Or.inl ⟨by rfl, ?_⟩) ?_ ?_
     rotate_left
     ·intro w'
      go_simp
      with_reducible rfl
     rotate_left
     ·simp only [Act.put, List.setIfInBounds_toArray, List.set_cons_zero, List.set_cons_succ, i64_w, i32_w]
      rfl
     refine pure_ (i := 2) (N := some 28) (v := ?_) (a' := ?_) #[true, false, true, false, false, false, false, false] rfl rfl (any_of HT_.out kk) (fun _ _ _ h => h) (Or.inl ⟨by rfl, ?_⟩) ?_ ?_
     rotate_left
     ·intro w'
      go_simp
      with_reducible rfl
     rotate_left
     ·simp only [Act.put, List.setIfInBounds_toArray, List.set_cons_zero, List.set_cons_succ, i64_w, i32_w]
      rfl
     refine take_ (i := 1) (N := some 27) (v := ?_) (a' := ?_) #[true, true, true, false, false, false, false, false] rfl rfl (take_ofW HT_.out HW_.out kk) (fun _ _ _ h => h) (Or.inl ⟨by rfl, ?_⟩) hHeld ?_ ?_
     rotate_left
     ·rintro w' ⟨s0, s1, s2, s3⟩
      go_simp
      with_reducible rfl
     rotate_left
     ·simp only [Act.put, List.setIfInBounds_toArray, List.set_cons_zero, List.set_cons_succ, i64_w, i32_w]
      rfl
     refine pure_ (i := 4) (N := some 30) (v := ?_) (a' := ?_) #[true, true, true, false, true, false, false, false] rfl rfl (any_of HT_.out kk) (fun _ _ _ h => h) (Or.inl ⟨by rfl, ?_⟩) ?_ ?_
     rotate_left
     ·intro w'
      go_simp
      with_reducible rfl
     rotate_left
     ·simp only [Act.put, List.setIfInBounds_toArray, List.set_cons_zero, List.set_cons_succ, i64_w, i32_w]
      rfl
     refine take_ (i := 3) (N := some 29) (v := ?_) (a' := ?_) #[true, true, true, true, true, false, false, false] rfl rfl (take_ofW HT_.out HW_.out kk) (fun _ _ _ h => h) (Or.inl ⟨by rfl, ?_⟩) hHeld ?_ ?_
     rotate_left
     ·rintro w' ⟨s0, s1, s2, s3⟩
      go_simp
      with_reducible rfl
     rotate_left
     ·simp only [Act.put, List.setIfInBounds_toArray, List.set_cons_zero, List.set_cons_succ, i64_w, i32_w]
      rfl
     refine one_ (i := 5) (N := none) #[true, true, true, true, true, true, false, false] rfl rfl (one_of HT_.out kk) (by decide) (fun K hK => ?_)
     have hs33 : w32.cell? ⟨gb164, 1, none⟩ = some (.bool true) := bc BK164 1
     have hfs33 := blk_frozen BK164.out 1
     have hns33_0 := NB159_164.out
     have hns33_1 := NB160_164.out
     have hns33_2 := NB161_164.out
     have hms33_0 := NB164_159.out
     have hms33_1 := NB164_160.out
     have hms33_2 := NB164_161.out
     refine skip_ (w1 := ?_) (by rfl) rfl ?_ ?_
     rotate_left
     ·go_simp
      rfl
     refine hK.out _ _ ⟨((cell_far (p := ⟨gb164, _, none⟩) NB160_164.out _).trans (hHeld.1)), ((cell_far (p := ⟨gb164, _, none⟩) NB160_164.out _).trans (hHeld.2.1)), ((cell_far (p := ⟨gb164, _, none⟩) NB160_164.out _).trans (hHeld.2.2.1)), ((cell_far (p := ⟨gb164, _, none⟩) NB160_164.out _).trans (hHeld.2.2.2))⟩ (fun hHeld => ?_)
     clear hK K
     refine pure_ (i := 6) (N := some 31) (v := ?_) (a' := ?_) #[true, true, true, true, true, true, true, false] rfl rfl (any_of HT_.out kk) (fun _ _ _ h => h) (Or.inl ⟨by rfl, ?_⟩) ?_ ?_
     rotate_left
     ·intro w'
      go_simp
      with_reducible rfl
     rotate_left
     ·simp only [Act.put, List.setIfInBounds_toArray, List.set_cons_zero, List.set_cons_succ, i64_w, i32_w]
      rfl
     refine one_ (i := 7) (N := none) #[true, true, true, true, true, true, true, true] rfl rfl (one_of HT_.out kk) (by decide) (fun K hK => ?_)
     have hs34 : w32.cell? ⟨gb164, 3, none⟩ = some (.int .i64 a0_3) := bc BK164 3
     have hfs34 := blk_frozen BK164.out 3
     have hns34_0 := NB159_164.out
     have hns34_1 := NB160_164.out
     have hns34_2 := NB161_164.out
     have hms34_0 := NB164_159.out
     have hms34_1 := NB164_160.out
     have hms34_2 := NB164_161.out
     refine skip_ (w1 := ?_) (by rfl) rfl ?_ ?_
     rotate_left
     ·go_simp
      rfl
     refine hK.out _ _ ⟨((cell_far (p := ⟨gb164, _, none⟩) NB160_164.out _).trans (hHeld.1)), ((cell_far (p := ⟨gb164, _, none⟩) NB160_164.out _).trans (hHeld.2.1)), ((cell_far (p := ⟨gb164, _, none⟩) NB160_164.out _).trans (hHeld.2.2.1)), ((cell_far (p := ⟨gb164, _, none⟩) NB160_164.out _).trans (hHeld.2.2.2))⟩ (fun hHeld => ?_)
     clear hK K
     refine done_ (done_of HT_.out kk) ?_
     have hnb35 := NB164_160.out
     have hnc35 := NB160_164.out
     have hnb36 := NB164_161.out
     have hnc36 := NB161_164.out
     have hcz37_0 : w32.cell? ⟨gb164, 0, none⟩ = some (.bool true) := bc BK164 0
     have hcz37_1 : w32.cell? ⟨gb164, 1, none⟩ = some (.bool true) := bc BK164 1
     have hcz37_2 : w32.cell? ⟨gb164, 2, none⟩ = some (.int .i64 x165002_3) := bc BK164 2
     have hcz37_3 : w32.cell? ⟨gb164, 3, none⟩ = some (.int .i64 a0_3) := bc BK164 3
     have hfz37_0 := blk_frozen BK164.out 0
     have hfz37_1 := blk_frozen BK164.out 1
     have hfz37_2 := blk_frozen BK164.out 2
     have hfz37_3 := blk_frozen BK164.out 3
     have hnb38 := NB161_160.out
     have hnc38 := NB160_161.out
     have hcz39_0 : w32.cell? ⟨gb161, 0, none⟩ = some (.bool false) := bc BK161 0
     have hcz39_1 : w32.cell? ⟨gb161, 1, none⟩ = some (.bool false) := bc BK161 1
     have hcz39_2 : w32.cell? ⟨gb161, 2, none⟩ = some (.int .i64 0) := bc BK161 2
     have hcz39_3 : w32.cell? ⟨gb161, 3, none⟩ = some (.int .i64 0) := bc BK161 3
     have hfz39_0 := blk_frozen BK161.out 0
     have hfz39_1 := blk_frozen BK161.out 1
     have hfz39_2 := blk_frozen BK161.out 2
     have hfz39_3 := blk_frozen BK161.out 3
     try go_wp2
     refine bodyPost_ret (results_ct rfl _ _ gb161 23 #[.bool true, .bool a1_1, .int .i64 x165002_3, .int .i64 a1_3] (0, 0) _ rfl (by (with_reducible repeat (first | refine blk_drewN ?_ _ | refine blk_drew ?_ | refine blk_alloc ?_ _)); refine blk_put (cs := #[.bool true, .bool a1_1, .int .i64 x165002_3, .int .i64 0]) ?_ 3 _ rfl; (with_reducible repeat (first | refine blk_drewN ?_ _ | refine blk_drew ?_ | refine blk_alloc ?_ _)); refine blk_put (cs := #[.bool true, .bool a1_1, .int .i64 0, .int .i64 0]) ?_ 2 _ rfl; (with_reducible repeat (first | refine blk_drewN ?_ _ | refine blk_drew ?_ | refine blk_alloc ?_ _)); refine blk_put (cs := #[.bool true, .bool false, .int .i64 0, .int .i64 0]) ?_ 1 _ rfl; (with_reducible repeat (first | refine blk_drewN ?_ _ | refine blk_drew ?_ | refine blk_alloc ?_ _)); refine blk_put (cs := #[.bool false, .bool false, .int .i64 0, .int .i64 0]) ?_ 0 _ rfl; (with_reducible repeat (first | refine blk_drewN ?_ _ | refine blk_drew ?_ | refine blk_alloc ?_ _)); refine blk_far ?_ NB161_164.out _; (with_reducible repeat (first | refine blk_drewN ?_ _ | refine blk_drew ?_ | refine blk_alloc ?_ _)); refine blk_far ?_ NB161_164.out _; (with_reducible repeat (first | refine blk_drewN ?_ _ | refine blk_drew ?_ | refine blk_alloc ?_ _)); exact BK161.out) Tryd.underlying23 rfl kk) rfl ?_
     exact ⟨pe, pw⟩
    replace c27 := Bool.eq_false_iff.mpr c27
    subst c27
    have H1 : (if a1_1 = true then (some (false, a1_1, x165002_3, a1_3, none)) else (if x165002_3 > a1_3 then (some (false, false, 0, 0, some 4)) else (some (false, a1_1, x165002_3, a1_3, none)))) = some (r1, r2, r3, r4, r5) := by rw [if_neg (show ¬ (false = true) by decide)] at H; exact H
    clear H
    have H := H1
    clear H1
    by_cases c40 : a1_1 = true
    ·subst c40
     have H1 : (some (false, true, x165002_3, a1_3, none)) = some (r1, r2, r3, r4, r5) := by rw [if_pos rfl] at H; exact H
     clear H
     have H := H1
     clear H1
     simp only [Option.some.injEq, Prod.mk.injEq] at H
     obtain ⟨rfl, rfl, rfl, rfl, rfl⟩ := H
     have hnb41 := NB159_160.out
     have hnc41 := NB160_159.out
     have hnb42 := NB159_161.out
     have hnc42 := NB161_159.out
     have hnb43 := NB159_164.out
     have hnc43 := NB164_159.out
     have hcz44_0 : wc.cell? ⟨gb159, 0, none⟩ = some (.bool a0_0) := bc BK159 0
     have hcz44_1 : wc.cell? ⟨gb159, 1, none⟩ = some (.bool true) := bc BK159 1
     have hcz44_2 : wc.cell? ⟨gb159, 2, none⟩ = some (.int .i64 a0_2) := bc BK159 2
     have hcz44_3 : wc.cell? ⟨gb159, 3, none⟩ = some (.int .i64 a0_3) := bc BK159 3
     have hfz44_0 := blk_frozen BK159.out 0
     have hfz44_1 := blk_frozen BK159.out 1
     have hfz44_2 := blk_frozen BK159.out 2
     have hfz44_3 := blk_frozen BK159.out 3
     try go_wp2
     have n0_ := am (blk_drew BK159.out)
     have n1_ := am (blk_drew BK160.out)
     have n2_ := am (blk_drew BK161.out)
     have n3_ := am (blk_drew BK164.out)
     have n4_ := am (below_drew1 HB.out)
     clear BK159 BK160 BK161 BK164 HB
     revert n0_ n1_ n2_ n3_ n4_
     intro BK159 BK160 BK161 BK164 HB
     refine start_ (n := 8) (S := fun w' => w'.cell? ⟨gb160, 0, none⟩ = some (.bool a1_0) ∧ w'.cell? ⟨gb160, 1, none⟩ = some (.bool true) ∧ w'.cell? ⟨gb160, 2, none⟩ = some (.int .i64 a1_2) ∧ w'.cell? ⟨gb160, 3, none⟩ = some (.int .i64 a1_3)) (ds := []) #[false, false, false, false, false, false, false, false] kk rfl rfl ⟨bc BK160 0, bc BK160 1, bc BK160 2, bc BK160 3⟩ (fun hHeld => ?_); refine with_tabW interval_Narrow.tab8 interval_Narrow.bits8 (fun HT_ HW_ => ?_)
     generalize wc.drew = w45 at BK159 BK160 BK161 BK164 HB hHeld ⊢
     refine pure_ (i := 0) (N := some 26) (v := ?_) (a' := ?_) #[true, false, false, false, false, false, false, false] rfl rfl (any_of HT_.out kk) (fun _ _ _ h => h) (Or.inl ⟨by rfl, ?_⟩) ?_ ?_
     rotate_left
     ·intro w'
      go_simp
      with_reducible rfl
     rotate_left
     ·simp only [Act.put, List.setIfInBounds_toArray, List.set_cons_zero, List.set_cons_succ, i64_w, i32_w]
      rfl
     refine pure_ (i := 2) (N := some 28) (v := ?_) (a' := ?_) #[true, false, true, false, false, false, false, false] rfl rfl (any_of HT_.out kk) (fun _ _ _ h => h) (Or.inl ⟨by rfl, ?_⟩) ?_ ?_
     rotate_left
     ·intro w'
      go_simp
      with_reducible rfl
     rotate_left
     ·simp only [Act.put, List.setIfInBounds_toArray, List.set_cons_zero, List.set_cons_succ, i64_w, i32_w]
      rfl
     refine take_ (i := 1) (N := some 27) (v := ?_) (a' := ?_) #[true, true, true, false, false, false, false, false] rfl rfl (take_ofW HT_.out HW_.out kk) (fun _ _ _ h => h) (Or.inl ⟨by rfl, ?_⟩) hHeld ?_ ?_
     rotate_left
     ·rintro w' ⟨s0, s1, s2, s3⟩
      go_simp
      with_reducible rfl
     rotate_left
     ·simp only [Act.put, List.setIfInBounds_toArray, List.set_cons_zero, List.set_cons_succ, i64_w, i32_w]
      rfl
     refine pure_ (i := 4) (N := some 30) (v := ?_) (a' := ?_) #[true, true, true, false, true, false, false, false] rfl rfl (any_of HT_.out kk) (fun _ _ _ h => h) (Or.inl ⟨by rfl, ?_⟩) ?_ ?_
     rotate_left
     ·intro w'
      go_simp
      with_reducible rfl
     rotate_left
     ·simp only [Act.put, List.setIfInBounds_toArray, List.set_cons_zero, List.set_cons_succ, i64_w, i32_w]
      rfl
     refine take_ (i := 3) (N := some 29) (v := ?_) (a' := ?_) #[true, true, true, true, true, false, false, false] rfl rfl (take_ofW HT_.out HW_.out kk) (fun _ _ _ h => h) (Or.inl ⟨by rfl, ?_⟩) hHeld ?_ ?_
     rotate_left
     ·rintro w' ⟨s0, s1, s2, s3⟩
      go_simp
      with_reducible rfl
     rotate_left
     ·simp only [Act.put, List.setIfInBounds_toArray, List.set_cons_zero, List.set_cons_succ, i64_w, i32_w]
      rfl
     refine one_ (i := 5) (N := none) #[true, true, true, true, true, true, false, false] rfl rfl (one_of HT_.out kk) (by decide) (fun K hK => ?_)
     have hs46 : w45.cell? ⟨gb164, 1, none⟩ = some (.bool true) := bc BK164 1
     have hfs46 := blk_frozen BK164.out 1
     have hns46_0 := NB159_164.out
     have hns46_1 := NB160_164.out
     have hns46_2 := NB161_164.out
     have hms46_0 := NB164_159.out
     have hms46_1 := NB164_160.out
     have hms46_2 := NB164_161.out
     refine skip_ (w1 := ?_) (by rfl) rfl ?_ ?_
     rotate_left
     ·go_simp
      rfl
     refine hK.out _ _ ⟨((cell_far (p := ⟨gb164, _, none⟩) NB160_164.out _).trans (hHeld.1)), ((cell_far (p := ⟨gb164, _, none⟩) NB160_164.out _).trans (hHeld.2.1)), ((cell_far (p := ⟨gb164, _, none⟩) NB160_164.out _).trans (hHeld.2.2.1)), ((cell_far (p := ⟨gb164, _, none⟩) NB160_164.out _).trans (hHeld.2.2.2))⟩ (fun hHeld => ?_)
     clear hK K
     refine pure_ (i := 6) (N := some 31) (v := ?_) (a' := ?_) #[true, true, true, true, true, true, true, false] rfl rfl (any_of HT_.out kk) (fun _ _ _ h => h) (Or.inl ⟨by rfl, ?_⟩) ?_ ?_
     rotate_left
     ·intro w'
      go_simp
      with_reducible rfl
     rotate_left
     ·simp only [Act.put, List.setIfInBounds_toArray, List.set_cons_zero, List.set_cons_succ, i64_w, i32_w]
      rfl
     refine one_ (i := 7) (N := none) #[true, true, true, true, true, true, true, true] rfl rfl (one_of HT_.out kk) (by decide) (fun K hK => ?_)
     have hs47 : w45.cell? ⟨gb164, 3, none⟩ = some (.int .i64 a0_3) := bc BK164 3
     have hfs47 := blk_frozen BK164.out 3
     have hns47_0 := NB159_164.out
     have hns47_1 := NB160_164.out
     have hns47_2 := NB161_164.out
     have hms47_0 := NB164_159.out
     have hms47_1 := NB164_160.out
     have hms47_2 := NB164_161.out
     refine skip_ (w1 := ?_) (by rfl) rfl ?_ ?_
     rotate_left
     ·go_simp
      rfl
     refine hK.out _ _ ⟨((cell_far (p := ⟨gb164, _, none⟩) NB160_164.out _).trans (hHeld.1)), ((cell_far (p := ⟨gb164, _, none⟩) NB160_164.out _).trans (hHeld.2.1)), ((cell_far (p := ⟨gb164, _, none⟩) NB160_164.out _).trans (hHeld.2.2.1)), ((cell_far (p := ⟨gb164, _, none⟩) NB160_164.out _).trans (hHeld.2.2.2))⟩ (fun hHeld => ?_)
     clear hK K
     refine done_ (done_of HT_.out kk) ?_
     have hnb48 := NB164_160.out
     have hnc48 := NB160_164.out
     have hnb49 := NB164_161.out
     have hnc49 := NB161_164.out
     have hcz50_0 : w45.cell? ⟨gb164, 0, none⟩ = some (.bool false) := bc BK164 0
     have hcz50_1 : w45.cell? ⟨gb164, 1, none⟩ = some (.bool true) := bc BK164 1
     have hcz50_2 : w45.cell? ⟨gb164, 2, none⟩ = some (.int .i64 x165002_3) := bc BK164 2
     have hcz50_3 : w45.cell? ⟨gb164, 3, none⟩ = some (.int .i64 a0_3) := bc BK164 3
     have hfz50_0 := blk_frozen BK164.out 0
     have hfz50_1 := blk_frozen BK164.out 1
     have hfz50_2 := blk_frozen BK164.out 2
     have hfz50_3 := blk_frozen BK164.out 3
     have hnb51 := NB161_160.out
     have hnc51 := NB160_161.out
     have hcz52_0 : w45.cell? ⟨gb161, 0, none⟩ = some (.bool false) := bc BK161 0
     have hcz52_1 : w45.cell? ⟨gb161, 1, none⟩ = some (.bool false) := bc BK161 1
     have hcz52_2 : w45.cell? ⟨gb161, 2, none⟩ = some (.int .i64 0) := bc BK161 2
     have hcz52_3 : w45.cell? ⟨gb161, 3, none⟩ = some (.int .i64 0) := bc BK161 3
     have hfz52_0 := blk_frozen BK161.out 0
     have hfz52_1 := blk_frozen BK161.out 1
     have hfz52_2 := blk_frozen BK161.out 2
     have hfz52_3 := blk_frozen BK161.out 3
     try go_wp2
     refine bodyPost_ret (results_ct rfl _ _ gb161 23 #[.bool false, .bool true, .int .i64 x165002_3, .int .i64 a1_3] (0, 0) _ rfl (by (with_reducible repeat (first | refine blk_drewN ?_ _ | refine blk_drew ?_ | refine blk_alloc ?_ _)); refine blk_put (cs := #[.bool false, .bool true, .int .i64 x165002_3, .int .i64 0]) ?_ 3 _ rfl; (with_reducible repeat (first | refine blk_drewN ?_ _ | refine blk_drew ?_ | refine blk_alloc ?_ _)); refine blk_put (cs := #[.bool false, .bool true, .int .i64 0, .int .i64 0]) ?_ 2 _ rfl; (with_reducible repeat (first | refine blk_drewN ?_ _ | refine blk_drew ?_ | refine blk_alloc ?_ _)); refine blk_put (cs := #[.bool false, .bool false, .int .i64 0, .int .i64 0]) ?_ 1 _ rfl; (with_reducible repeat (first | refine blk_drewN ?_ _ | refine blk_drew ?_ | refine blk_alloc ?_ _)); refine blk_put (cs := #[.bool false, .bool false, .int .i64 0, .int .i64 0]) ?_ 0 _ rfl; (with_reducible repeat (first | refine blk_drewN ?_ _ | refine blk_drew ?_ | refine blk_alloc ?_ _)); refine blk_far ?_ NB161_164.out _; (with_reducible repeat (first | refine blk_drewN ?_ _ | refine blk_drew ?_ | refine blk_alloc ?_ _)); refine blk_far ?_ NB161_164.out _; (with_reducible repeat (first | refine blk_drewN ?_ _ | refine blk_drew ?_ | refine blk_alloc ?_ _)); exact BK161.out) Tryd.underlying23 rfl kk) rfl ?_
     exact ⟨pe, pw⟩
    replace c40 := Bool.eq_false_iff.mpr c40
    subst c40
    have H1 : (if x165002_3 > a1_3 then (some (false, false, 0, 0, some 4)) else (some (false, false, x165002_3, a1_3, none))) = some (r1, r2, r3, r4, r5) := by rw [if_neg (show ¬ (false = true) by decide)] at H; exact H
    clear H
    have H := H1
    clear H1
    by_cases c53 : x165002_3 > a1_3
    ·rw [if_pos c53] at H
     have c53b0 : decide (a1_3 < x165002_3) = true := decide_eq_true c53
     clear c53
     simp only [Option.some.injEq, Prod.mk.injEq] at H
     obtain ⟨rfl, rfl, rfl, rfl, rfl⟩ := H
     have hnb54 := NB159_160.out
     have hnc54 := NB160_159.out
     have hnb55 := NB159_161.out
     have hnc55 := NB161_159.out
     have hnb56 := NB159_164.out
     have hnc56 := NB164_159.out
     have hcz57_0 : wc.cell? ⟨gb159, 0, none⟩ = some (.bool a0_0) := bc BK159 0
     have hcz57_1 : wc.cell? ⟨gb159, 1, none⟩ = some (.bool true) := bc BK159 1
     have hcz57_2 : wc.cell? ⟨gb159, 2, none⟩ = some (.int .i64 a0_2) := bc BK159 2
     have hcz57_3 : wc.cell? ⟨gb159, 3, none⟩ = some (.int .i64 a0_3) := bc BK159 3
     have hfz57_0 := blk_frozen BK159.out 0
     have hfz57_1 := blk_frozen BK159.out 1
     have hfz57_2 := blk_frozen BK159.out 2
     have hfz57_3 := blk_frozen BK159.out 3
     try go_wp2
     have n0_ := am (blk_drew BK159.out)
     have n1_ := am (blk_drew BK160.out)
     have n2_ := am (blk_drew BK161.out)
     have n3_ := am (blk_drew BK164.out)
     have n4_ := am (below_drew1 HB.out)
     clear BK159 BK160 BK161 BK164 HB
     revert n0_ n1_ n2_ n3_ n4_
     intro BK159 BK160 BK161 BK164 HB
     refine start_ (n := 8) (S := fun w' => w'.cell? ⟨gb160, 0, none⟩ = some (.bool a1_0) ∧ w'.cell? ⟨gb160, 1, none⟩ = some (.bool false) ∧ w'.cell? ⟨gb160, 2, none⟩ = some (.int .i64 a1_2) ∧ w'.cell? ⟨gb160, 3, none⟩ = some (.int .i64 a1_3)) (ds := []) #[false, false, false, false, false, false, false, false] kk rfl rfl ⟨bc BK160 0, bc BK160 1, bc BK160 2, bc BK160 3⟩ (fun hHeld => ?_); refine with_tabW interval_Narrow.tab8 interval_Narrow.bits8 (fun HT_ HW_ => ?_)
     generalize wc.drew = w58 at BK159 BK160 BK161 BK164 HB hHeld ⊢
     refine pure_ (i := 0) (N := some 26) (v := ?_) (a' := ?_) #[true, false, false, false, false, false, false, false] rfl rfl (any_of HT_.out kk) (fun _ _ _ h => h) (Or.inl ⟨by rfl, ?_⟩) ?_ ?_
     rotate_left
     ·intro w'
      go_simp
      with_reducible rfl
     rotate_left
     ·simp only [Act.put, List.setIfInBounds_toArray, List.set_cons_zero, List.set_cons_succ, i64_w, i32_w]
      rfl
     refine pure_ (i := 2) (N := some 28) (v := ?_) (a' := ?_) #[true, false, true, false, false, false, false, false] rfl rfl (any_of HT_.out kk) (fun _ _ _ h => h) (Or.inl ⟨by rfl, ?_⟩) ?_ ?_
     rotate_left
     ·intro w'
      go_simp
      with_reducible rfl
     rotate_left
     ·simp only [Act.put, List.setIfInBounds_toArray, List.set_cons_zero, List.set_cons_succ, i64_w, i32_w]
      rfl
     refine take_ (i := 1) (N := some 27) (v := ?_) (a' := ?_) #[true, true, true, false, false, false, false, false] rfl rfl (take_ofW HT_.out HW_.out kk) (fun _ _ _ h => h) (Or.inl ⟨by rfl, ?_⟩) hHeld ?_ ?_
     rotate_left
     ·rintro w' ⟨s0, s1, s2, s3⟩
      go_simp
      with_reducible rfl
     rotate_left
     ·simp only [Act.put, List.setIfInBounds_toArray, List.set_cons_zero, List.set_cons_succ, i64_w, i32_w]
      rfl
     refine pure_ (i := 4) (N := some 30) (v := ?_) (a' := ?_) #[true, true, true, false, true, false, false, false] rfl rfl (any_of HT_.out kk) (fun _ _ _ h => h) (Or.inl ⟨by rfl, ?_⟩) ?_ ?_
     rotate_left
     ·intro w'
      go_simp
      with_reducible rfl
     rotate_left
     ·simp only [Act.put, List.setIfInBounds_toArray, List.set_cons_zero, List.set_cons_succ, i64_w, i32_w]
      rfl
     refine take_ (i := 3) (N := some 29) (v := ?_) (a' := ?_) #[true, true, true, true, true, false, false, false] rfl rfl (take_ofW HT_.out HW_.out kk) (fun _ _ _ h => h) (Or.inl ⟨by rfl, ?_⟩) hHeld ?_ ?_
     rotate_left
     ·rintro w' ⟨s0, s1, s2, s3⟩
      go_simp
      with_reducible rfl
     rotate_left
     ·simp only [Act.put, List.setIfInBounds_toArray, List.set_cons_zero, List.set_cons_succ, i64_w, i32_w]
      rfl
     refine one_ (i := 5) (N := none) #[true, true, true, true, true, true, false, false] rfl rfl (one_of HT_.out kk) (by decide) (fun K hK => ?_)
     have hs59 : w58.cell? ⟨gb164, 1, none⟩ = some (.bool true) := bc BK164 1
     have hfs59 := blk_frozen BK164.out 1
     have hns59_0 := NB159_164.out
     have hns59_1 := NB160_164.out
     have hns59_2 := NB161_164.out
     have hms59_0 := NB164_159.out
     have hms59_1 := NB164_160.out
     have hms59_2 := NB164_161.out
     refine skip_ (w1 := ?_) (by rfl) rfl ?_ ?_
     rotate_left
     ·go_simp
      rfl
     refine hK.out _ _ ⟨((cell_far (p := ⟨gb164, _, none⟩) NB160_164.out _).trans (hHeld.1)), ((cell_far (p := ⟨gb164, _, none⟩) NB160_164.out _).trans (hHeld.2.1)), ((cell_far (p := ⟨gb164, _, none⟩) NB160_164.out _).trans (hHeld.2.2.1)), ((cell_far (p := ⟨gb164, _, none⟩) NB160_164.out _).trans (hHeld.2.2.2))⟩ (fun hHeld => ?_)
     clear hK K
     refine pure_ (i := 6) (N := some 31) (v := ?_) (a' := ?_) #[true, true, true, true, true, true, true, false] rfl rfl (any_of HT_.out kk) (fun _ _ _ h => h) (Or.inl ⟨by rfl, ?_⟩) ?_ ?_
     rotate_left
     ·intro w'
      go_simp
      with_reducible rfl
     rotate_left
     ·simp only [Act.put, List.setIfInBounds_toArray, List.set_cons_zero, List.set_cons_succ, i64_w, i32_w]
      rfl
     refine one_ (i := 7) (N := none) #[true, true, true, true, true, true, true, true] rfl rfl (one_of HT_.out kk) (by decide) (fun K hK => ?_)
     have hs60 : w58.cell? ⟨gb164, 3, none⟩ = some (.int .i64 a0_3) := bc BK164 3
     have hfs60 := blk_frozen BK164.out 3
     have hns60_0 := NB159_164.out
     have hns60_1 := NB160_164.out
     have hns60_2 := NB161_164.out
     have hms60_0 := NB164_159.out
     have hms60_1 := NB164_160.out
     have hms60_2 := NB164_161.out
     refine skip_ (w1 := ?_) (by rfl) rfl ?_ ?_
     rotate_left
     ·go_simp
      rfl
     refine hK.out _ _ ⟨((cell_far (p := ⟨gb164, _, none⟩) NB160_164.out _).trans (hHeld.1)), ((cell_far (p := ⟨gb164, _, none⟩) NB160_164.out _).trans (hHeld.2.1)), ((cell_far (p := ⟨gb164, _, none⟩) NB160_164.out _).trans (hHeld.2.2.1)), ((cell_far (p := ⟨gb164, _, none⟩) NB160_164.out _).trans (hHeld.2.2.2))⟩ (fun hHeld => ?_)
     clear hK K
     refine done_ (done_of HT_.out kk) ?_
     have hnb61 := NB164_160.out
     have hnc61 := NB160_164.out
     have hnb62 := NB164_161.out
     have hnc62 := NB161_164.out
     have hcz63_0 : w58.cell? ⟨gb164, 0, none⟩ = some (.bool false) := bc BK164 0
     have hcz63_1 : w58.cell? ⟨gb164, 1, none⟩ = some (.bool true) := bc BK164 1
     have hcz63_2 : w58.cell? ⟨gb164, 2, none⟩ = some (.int .i64 x165002_3) := bc BK164 2
     have hcz63_3 : w58.cell? ⟨gb164, 3, none⟩ = some (.int .i64 a0_3) := bc BK164 3
     have hfz63_0 := blk_frozen BK164.out 0
     have hfz63_1 := blk_frozen BK164.out 1
     have hfz63_2 := blk_frozen BK164.out 2
     have hfz63_3 := blk_frozen BK164.out 3
     try go_wp2
     have n0_ : Aside0 (((w58.setCell ⟨gb164, 1, none⟩ (.bool false)).setCell ⟨gb164, 3, none⟩ (.int .i64 a1_3)).heap[gb159]? = some (.cells #[.bool a0_0, .bool true, .int .i64 a0_2, .int .i64 a0_3] 23 (0, 0))) := ⟨by (with_reducible repeat (first | refine blk_drewN ?_ _ | refine blk_drew ?_ | refine blk_alloc ?_ _)); refine blk_far ?_ NB159_164.out _; (with_reducible repeat (first | refine blk_drewN ?_ _ | refine blk_drew ?_ | refine blk_alloc ?_ _)); refine blk_far ?_ NB159_164.out _; (with_reducible repeat (first | refine blk_drewN ?_ _ | refine blk_drew ?_ | refine blk_alloc ?_ _)); exact BK159.out⟩
     have n1_ : Aside0 (((w58.setCell ⟨gb164, 1, none⟩ (.bool false)).setCell ⟨gb164, 3, none⟩ (.int .i64 a1_3)).heap[gb160]? = some (.cells #[.bool a1_0, .bool false, .int .i64 a1_2, .int .i64 a1_3] 23 (0, 0))) := ⟨by (with_reducible repeat (first | refine blk_drewN ?_ _ | refine blk_drew ?_ | refine blk_alloc ?_ _)); refine blk_far ?_ NB160_164.out _; (with_reducible repeat (first | refine blk_drewN ?_ _ | refine blk_drew ?_ | refine blk_alloc ?_ _)); refine blk_far ?_ NB160_164.out _; (with_reducible repeat (first | refine blk_drewN ?_ _ | refine blk_drew ?_ | refine blk_alloc ?_ _)); exact BK160.out⟩
     have n2_ : Aside0 (((w58.setCell ⟨gb164, 1, none⟩ (.bool false)).setCell ⟨gb164, 3, none⟩ (.int .i64 a1_3)).heap[gb161]? = some (.cells #[.bool false, .bool false, .int .i64 0, .int .i64 0] 23 (0, 0))) := ⟨by (with_reducible repeat (first | refine blk_drewN ?_ _ | refine blk_drew ?_ | refine blk_alloc ?_ _)); refine blk_far ?_ NB161_164.out _; (with_reducible repeat (first | refine blk_drewN ?_ _ | refine blk_drew ?_ | refine blk_alloc ?_ _)); refine blk_far ?_ NB161_164.out _; (with_reducible repeat (first | refine blk_drewN ?_ _ | refine blk_drew ?_ | refine blk_alloc ?_ _)); exact BK161.out⟩
     have n3_ : Aside0 (((w58.setCell ⟨gb164, 1, none⟩ (.bool false)).setCell ⟨gb164, 3, none⟩ (.int .i64 a1_3)).heap[gb164]? = some (.cells #[.bool false, .bool false, .int .i64 x165002_3, .int .i64 a1_3] 23 (0, 0))) := ⟨by (with_reducible repeat (first | refine blk_drewN ?_ _ | refine blk_drew ?_ | refine blk_alloc ?_ _)); refine blk_put (cs := #[.bool false, .bool false, .int .i64 x165002_3, .int .i64 a0_3]) ?_ 3 _ rfl; (with_reducible repeat (first | refine blk_drewN ?_ _ | refine blk_drew ?_ | refine blk_alloc ?_ _)); refine blk_put (cs := #[.bool false, .bool true, .int .i64 x165002_3, .int .i64 a0_3]) ?_ 1 _ rfl; (with_reducible repeat (first | refine blk_drewN ?_ _ | refine blk_drew ?_ | refine blk_alloc ?_ _)); exact BK164.out⟩
     have n4_ : Aside0 (Below w.heap.size w ((w58.setCell ⟨gb164, 1, none⟩ (.bool false)).setCell ⟨gb164, 3, none⟩ (.int .i64 a1_3))) := ⟨pw⟩
     (try clear BK159)
     (try clear BK160)
     (try clear BK161)
     (try clear BK164)
     (try clear HB)
     generalize ((w58.setCell ⟨gb164, 1, none⟩ (.bool false)).setCell ⟨gb164, 3, none⟩ (.int .i64 a1_3)) = w64 at n0_ n1_ n2_ n3_ n4_ ⊢
     revert n0_ n1_ n2_ n3_ n4_
     intro BK159 BK160 BK161 BK164 HB
     have n0_ := am (blk_drew BK159.out)
     have n1_ := am (blk_drew BK160.out)
     have n2_ := am (blk_drew BK161.out)
     have n3_ := am (blk_drew BK164.out)
     have n4_ := am (below_drew1 HB.out)
     clear BK159 BK160 BK161 BK164 HB
     revert n0_ n1_ n2_ n3_ n4_
     intro BK159 BK160 BK161 BK164 HB
     refine start_ (n := 4) (S := fun w' => w'.cell? ⟨2, 0, none⟩ = some (.iface 130 (.pointer (some (EA.adr 4))))) (ds := []) #[false, false, false, false] kk rfl rfl (((HB.out.cell (World.block_lt_of_cell? w _ hE4.out.cell)).trans hE4.out.cell)) (fun hHeld => ?_)
     generalize w64.drew = w65 at BK159 BK160 BK161 BK164 HB hHeld ⊢
     refine pure_ (i := 0) (N := some 47) (v := ?_) (a' := ?_) #[true, false, false, false] rfl rfl kk (fun _ _ _ h => h) (Or.inl ⟨by rfl, ?_⟩) ?_ ?_
     rotate_left
     ·intro w'
      go_simp
      with_reducible rfl
     rotate_left
     ·simp only [Act.put, List.setIfInBounds_toArray, List.set_cons_zero, List.set_cons_succ, i64_w, i32_w]
      rfl
     refine take_ (i := 1) (N := some 48) (v := ?_) (a' := ?_) #[true, true, false, false] rfl rfl kk (fun _ _ _ h => h) (Or.inl ⟨by rfl, ?_⟩) hHeld ?_ ?_
     rotate_left
     ·intro w' s0
      go_simp
      with_reducible rfl
     rotate_left
     ·simp only [Act.put, List.setIfInBounds_toArray, List.set_cons_zero, List.set_cons_succ, i64_w, i32_w]
      rfl
     refine one_ (i := 2) (N := none) #[true, true, true, false] rfl rfl kk (by decide) (fun K hK => ?_)
     have hs66 : w65.cell? ⟨gb161, 0, none⟩ = some (.bool false) := bc BK161 0
     have hfs66 := blk_frozen BK161.out 0
     have hns66_0 := NB159_161.out
     have hns66_1 := NB160_161.out
     have hns66_3 := NB164_161.out
     have hms66_0 := NB161_159.out
     have hms66_1 := NB161_160.out
     have hms66_3 := NB161_164.out
     have hs67 : w65.cell? ⟨gb161, 1, none⟩ = some (.bool false) := bc BK161 1
     have hfs67 := blk_frozen BK161.out 1
     have hns67_0 := NB159_161.out
     have hns67_1 := NB160_161.out
     have hns67_3 := NB164_161.out
     have hms67_0 := NB161_159.out
     have hms67_1 := NB161_160.out
     have hms67_3 := NB161_164.out
     have hs68 : w65.cell? ⟨gb161, 2, none⟩ = some (.int .i64 0) := bc BK161 2
     have hfs68 := blk_frozen BK161.out 2
     have hns68_0 := NB159_161.out
     have hns68_1 := NB160_161.out
     have hns68_3 := NB164_161.out
     have hms68_0 := NB161_159.out
     have hms68_1 := NB161_160.out
     have hms68_3 := NB161_164.out
     have hs69 : w65.cell? ⟨gb161, 3, none⟩ = some (.int .i64 0) := bc BK161 3
     have hfs69 := blk_frozen BK161.out 3
     have hns69_0 := NB159_161.out
     have hns69_1 := NB160_161.out
     have hns69_3 := NB164_161.out
     have hms69_0 := NB161_159.out
     have hms69_1 := NB161_160.out
     have hms69_3 := NB161_164.out
     refine skip_ (w1 := ?_) (by rfl) rfl ?_ ?_
     rotate_left
     ·go_simp
      rfl
     refine hK.out _ _ (((cell_far (p := ⟨gb161, _, none⟩) (by first | exact Nat.ne_of_lt (Nat.lt_of_lt_of_le (ErrAt.lt hE4.out) GW161.out) | (rw [add_block]; exact Nat.ne_of_lt (Nat.lt_of_lt_of_le (ErrAt.lt hE4.out) GW161.out)) | (show (Addr.add _ _).block ≠ _; rw [add_block]; exact Nat.ne_of_lt (Nat.lt_of_lt_of_le (ErrAt.lt hE4.out) GW161.out)) | (dsimp only; exact Nat.ne_of_lt (Nat.lt_of_lt_of_le (ErrAt.lt hE4.out) GW161.out))) _).trans (((cell_far (p := ⟨gb161, _, none⟩) (by first | exact Nat.ne_of_lt (Nat.lt_of_lt_of_le (ErrAt.lt hE4.out) GW161.out) | (rw [add_block]; exact Nat.ne_of_lt (Nat.lt_of_lt_of_le (ErrAt.lt hE4.out) GW161.out)) | (show (Addr.add _ _).block ≠ _; rw [add_block]; exact Nat.ne_of_lt (Nat.lt_of_lt_of_le (ErrAt.lt hE4.out) GW161.out)) | (dsimp only; exact Nat.ne_of_lt (Nat.lt_of_lt_of_le (ErrAt.lt hE4.out) GW161.out))) _).trans (((cell_far (p := ⟨gb161, _, none⟩) (by first | exact Nat.ne_of_lt (Nat.lt_of_lt_of_le (ErrAt.lt hE4.out) GW161.out) | (rw [add_block]; exact Nat.ne_of_lt (Nat.lt_of_lt_of_le (ErrAt.lt hE4.out) GW161.out)) | (show (Addr.add _ _).block ≠ _; rw [add_block]; exact Nat.ne_of_lt (Nat.lt_of_lt_of_le (ErrAt.lt hE4.out) GW161.out)) | (dsimp only; exact Nat.ne_of_lt (Nat.lt_of_lt_of_le (ErrAt.lt hE4.out) GW161.out))) _).trans (((cell_far (p := ⟨gb161, _, none⟩) (by first | exact Nat.ne_of_lt (Nat.lt_of_lt_of_le (ErrAt.lt hE4.out) GW161.out) | (rw [add_block]; exact Nat.ne_of_lt (Nat.lt_of_lt_of_le (ErrAt.lt hE4.out) GW161.out)) | (show (Addr.add _ _).block ≠ _; rw [add_block]; exact Nat.ne_of_lt (Nat.lt_of_lt_of_le (ErrAt.lt hE4.out) GW161.out)) | (dsimp only; exact Nat.ne_of_lt (Nat.lt_of_lt_of_le (ErrAt.lt hE4.out) GW161.out))) _).trans (hHeld))))))))) (fun hHeld => ?_)
     clear hK K
     refine pure_ (i := 3) (N := some 5) (v := ?_) (a' := ?_) #[true, true, true, true] rfl rfl kk (fun _ _ _ h => h) (Or.inl ⟨by rfl, ?_⟩) ?_ ?_
     rotate_left
     ·intro w'
      go_simp
      with_reducible rfl
     rotate_left
     ·simp only [Act.put, List.setIfInBounds_toArray, List.set_cons_zero, List.set_cons_succ, i64_w, i32_w]
      rfl
     refine done_ kk ?_
     try go_wp2
     refine bodyPost_ret (results_ct rfl _ _ gb161 23 #[.bool false, .bool false, .int .i64 0, .int .i64 0] (0, 0) _ rfl (by (with_reducible repeat (first | refine blk_drewN ?_ _ | refine blk_drew ?_ | refine blk_alloc ?_ _)); refine blk_put (cs := #[.bool false, .bool false, .int .i64 0, .int .i64 0]) ?_ 3 _ rfl; (with_reducible repeat (first | refine blk_drewN ?_ _ | refine blk_drew ?_ | refine blk_alloc ?_ _)); refine blk_put (cs := #[.bool false, .bool false, .int .i64 0, .int .i64 0]) ?_ 2 _ rfl; (with_reducible repeat (first | refine blk_drewN ?_ _ | refine blk_drew ?_ | refine blk_alloc ?_ _)); refine blk_put (cs := #[.bool false, .bool false, .int .i64 0, .int .i64 0]) ?_ 1 _ rfl; (with_reducible repeat (first | refine blk_drewN ?_ _ | refine blk_drew ?_ | refine blk_alloc ?_ _)); refine blk_put (cs := #[.bool false, .bool false, .int .i64 0, .int .i64 0]) ?_ 0 _ rfl; (with_reducible repeat (first | refine blk_drewN ?_ _ | refine blk_drew ?_ | refine blk_alloc ?_ _)); exact BK161.out) Tryd.underlying23 rfl kk) rfl ?_
     exact ⟨pe, pw⟩
    rw [if_neg c53] at H
    have c53b0 : decide (a1_3 < x165002_3) = false := decide_eq_false c53
    clear c53
    simp only [Option.some.injEq, Prod.mk.injEq] at H
    obtain ⟨rfl, rfl, rfl, rfl, rfl⟩ := H
    have hnb70 := NB159_160.out
    have hnc70 := NB160_159.out
    have hnb71 := NB159_161.out
    have hnc71 := NB161_159.out
    have hnb72 := NB159_164.out
    have hnc72 := NB164_159.out
    have hcz73_0 : wc.cell? ⟨gb159, 0, none⟩ = some (.bool a0_0) := bc BK159 0
    have hcz73_1 : wc.cell? ⟨gb159, 1, none⟩ = some (.bool true) := bc BK159 1
    have hcz73_2 : wc.cell? ⟨gb159, 2, none⟩ = some (.int .i64 a0_2) := bc BK159 2
    have hcz73_3 : wc.cell? ⟨gb159, 3, none⟩ = some (.int .i64 a0_3) := bc BK159 3
    have hfz73_0 := blk_frozen BK159.out 0
    have hfz73_1 := blk_frozen BK159.out 1
    have hfz73_2 := blk_frozen BK159.out 2
    have hfz73_3 := blk_frozen BK159.out 3
    try go_wp2
    have n0_ := am (blk_drew BK159.out)
    have n1_ := am (blk_drew BK160.out)
    have n2_ := am (blk_drew BK161.out)
    have n3_ := am (blk_drew BK164.out)
    have n4_ := am (below_drew1 HB.out)
    clear BK159 BK160 BK161 BK164 HB
    revert n0_ n1_ n2_ n3_ n4_
    intro BK159 BK160 BK161 BK164 HB
    refine start_ (n := 8) (S := fun w' => w'.cell? ⟨gb160, 0, none⟩ = some (.bool a1_0) ∧ w'.cell? ⟨gb160, 1, none⟩ = some (.bool false) ∧ w'.cell? ⟨gb160, 2, none⟩ = some (.int .i64 a1_2) ∧ w'.cell? ⟨gb160, 3, none⟩ = some (.int .i64 a1_3)) (ds := []) #[false, false, false, false, false, false, false, false] kk rfl rfl ⟨bc BK160 0, bc BK160 1, bc BK160 2, bc BK160 3⟩ (fun hHeld => ?_); refine with_tabW interval_Narrow.tab8 interval_Narrow.bits8 (fun HT_ HW_ => ?_)
    generalize wc.drew = w74 at BK159 BK160 BK161 BK164 HB hHeld ⊢
    refine pure_ (i := 0) (N := some 26) (v := ?_) (a' := ?_) #[true, false, false, false, false, false, false, false] rfl rfl (any_of HT_.out kk) (fun _ _ _ h => h) (Or.inl ⟨by rfl, ?_⟩) ?_ ?_
    rotate_left
    ·intro w'
     go_simp
     with_reducible rfl
    rotate_left
    ·simp only [Act.put, List.setIfInBounds_toArray, List.set_cons_zero, List.set_cons_succ, i64_w, i32_w]
     rfl
    refine pure_ (i := 2) (N := some 28) (v := ?_) (a' := ?_) #[true, false, true, false, false, false, false, false] rfl rfl (any_of HT_.out kk) (fun _ _ _ h => h) (Or.inl ⟨by rfl, ?_⟩) ?_ ?_
    rotate_left
    ·intro w'
     go_simp
     with_reducible rfl
    rotate_left
    ·simp only [Act.put, List.setIfInBounds_toArray, List.set_cons_zero, List.set_cons_succ, i64_w, i32_w]
     rfl
    refine take_ (i := 1) (N := some 27) (v := ?_) (a' := ?_) #[true, true, true, false, false, false, false, false] rfl rfl (take_ofW HT_.out HW_.out kk) (fun _ _ _ h => h) (Or.inl ⟨by rfl, ?_⟩) hHeld ?_ ?_
    rotate_left
    ·rintro w' ⟨s0, s1, s2, s3⟩
     go_simp
     with_reducible rfl
    rotate_left
    ·simp only [Act.put, List.setIfInBounds_toArray, List.set_cons_zero, List.set_cons_succ, i64_w, i32_w]
     rfl
    refine pure_ (i := 4) (N := some 30) (v := ?_) (a' := ?_) #[true, true, true, false, true, false, false, false] rfl rfl (any_of HT_.out kk) (fun _ _ _ h => h) (Or.inl ⟨by rfl, ?_⟩) ?_ ?_
    rotate_left
    ·intro w'
     go_simp
     with_reducible rfl
    rotate_left
    ·simp only [Act.put, List.setIfInBounds_toArray, List.set_cons_zero, List.set_cons_succ, i64_w, i32_w]
     rfl
    refine take_ (i := 3) (N := some 29) (v := ?_) (a' := ?_) #[true, true, true, true, true, false, false, false] rfl rfl (take_ofW HT_.out HW_.out kk) (fun _ _ _ h => h) (Or.inl ⟨by rfl, ?_⟩) hHeld ?_ ?_
    rotate_left
    ·rintro w' ⟨s0, s1, s2, s3⟩
     go_simp
     with_reducible rfl
    rotate_left
    ·simp only [Act.put, List.setIfInBounds_toArray, List.set_cons_zero, List.set_cons_succ, i64_w, i32_w]
     rfl
    refine one_ (i := 5) (N := none) #[true, true, true, true, true, true, false, false] rfl rfl (one_of HT_.out kk) (by decide) (fun K hK => ?_)
    have hs75 : w74.cell? ⟨gb164, 1, none⟩ = some (.bool true) := bc BK164 1
    have hfs75 := blk_frozen BK164.out 1
    have hns75_0 := NB159_164.out
    have hns75_1 := NB160_164.out
    have hns75_2 := NB161_164.out
    have hms75_0 := NB164_159.out
    have hms75_1 := NB164_160.out
    have hms75_2 := NB164_161.out
    refine skip_ (w1 := ?_) (by rfl) rfl ?_ ?_
    rotate_left
    ·go_simp
     rfl
    refine hK.out _ _ ⟨((cell_far (p := ⟨gb164, _, none⟩) NB160_164.out _).trans (hHeld.1)), ((cell_far (p := ⟨gb164, _, none⟩) NB160_164.out _).trans (hHeld.2.1)), ((cell_far (p := ⟨gb164, _, none⟩) NB160_164.out _).trans (hHeld.2.2.1)), ((cell_far (p := ⟨gb164, _, none⟩) NB160_164.out _).trans (hHeld.2.2.2))⟩ (fun hHeld => ?_)
    clear hK K
    refine pure_ (i := 6) (N := some 31) (v := ?_) (a' := ?_) #[true, true, true, true, true, true, true, false] rfl rfl (any_of HT_.out kk) (fun _ _ _ h => h) (Or.inl ⟨by rfl, ?_⟩) ?_ ?_
    rotate_left
    ·intro w'
     go_simp
     with_reducible rfl
    rotate_left
    ·simp only [Act.put, List.setIfInBounds_toArray, List.set_cons_zero, List.set_cons_succ, i64_w, i32_w]
     rfl
    refine one_ (i := 7) (N := none) #[true, true, true, true, true, true, true, true] rfl rfl (one_of HT_.out kk) (by decide) (fun K hK => ?_)
    have hs76 : w74.cell? ⟨gb164, 3, none⟩ = some (.int .i64 a0_3) := bc BK164 3
    have hfs76 := blk_frozen BK164.out 3
    have hns76_0 := NB159_164.out
    have hns76_1 := NB160_164.out
    have hns76_2 := NB161_164.out
    have hms76_0 := NB164_159.out
    have hms76_1 := NB164_160.out
    have hms76_2 := NB164_161.out
    refine skip_ (w1 := ?_) (by rfl) rfl ?_ ?_
    rotate_left
    ·go_simp
     rfl
    refine hK.out _ _ ⟨((cell_far (p := ⟨gb164, _, none⟩) NB160_164.out _).trans (hHeld.1)), ((cell_far (p := ⟨gb164, _, none⟩) NB160_164.out _).trans (hHeld.2.1)), ((cell_far (p := ⟨gb164, _, none⟩) NB160_164.out _).trans (hHeld.2.2.1)), ((cell_far (p := ⟨gb164, _, none⟩) NB160_164.out _).trans (hHeld.2.2.2))⟩ (fun hHeld => ?_)
    clear hK K
    refine done_ (done_of HT_.out kk) ?_
    have hnb77 := NB164_160.out
    have hnc77 := NB160_164.out
    have hnb78 := NB164_161.out
    have hnc78 := NB161_164.out
    have hcz79_0 : w74.cell? ⟨gb164, 0, none⟩ = some (.bool false) := bc BK164 0
    have hcz79_1 : w74.cell? ⟨gb164, 1, none⟩ = some (.bool true) := bc BK164 1
    have hcz79_2 : w74.cell? ⟨gb164, 2, none⟩ = some (.int .i64 x165002_3) := bc BK164 2
    have hcz79_3 : w74.cell? ⟨gb164, 3, none⟩ = some (.int .i64 a0_3) := bc BK164 3
    have hfz79_0 := blk_frozen BK164.out 0
    have hfz79_1 := blk_frozen BK164.out 1
    have hfz79_2 := blk_frozen BK164.out 2
    have hfz79_3 := blk_frozen BK164.out 3
    have hnb80 := NB161_160.out
    have hnc80 := NB160_161.out
    have hcz81_0 : w74.cell? ⟨gb161, 0, none⟩ = some (.bool false) := bc BK161 0
    have hcz81_1 : w74.cell? ⟨gb161, 1, none⟩ = some (.bool false) := bc BK161 1
    have hcz81_2 : w74.cell? ⟨gb161, 2, none⟩ = some (.int .i64 0) := bc BK161 2
    have hcz81_3 : w74.cell? ⟨gb161, 3, none⟩ = some (.int .i64 0) := bc BK161 3
    have hfz81_0 := blk_frozen BK161.out 0
    have hfz81_1 := blk_frozen BK161.out 1
    have hfz81_2 := blk_frozen BK161.out 2
    have hfz81_3 := blk_frozen BK161.out 3
    try go_wp2
    refine bodyPost_ret (results_ct rfl _ _ gb161 23 #[.bool false, .bool false, .int .i64 x165002_3, .int .i64 a1_3] (0, 0) _ rfl (by (with_reducible repeat (first | refine blk_drewN ?_ _ | refine blk_drew ?_ | refine blk_alloc ?_ _)); refine blk_put (cs := #[.bool false, .bool false, .int .i64 x165002_3, .int .i64 0]) ?_ 3 _ rfl; (with_reducible repeat (first | refine blk_drewN ?_ _ | refine blk_drew ?_ | refine blk_alloc ?_ _)); refine blk_put (cs := #[.bool false, .bool false, .int .i64 0, .int .i64 0]) ?_ 2 _ rfl; (with_reducible repeat (first | refine blk_drewN ?_ _ | refine blk_drew ?_ | refine blk_alloc ?_ _)); refine blk_put (cs := #[.bool false, .bool false, .int .i64 0, .int .i64 0]) ?_ 1 _ rfl; (with_reducible repeat (first | refine blk_drewN ?_ _ | refine blk_drew ?_ | refine blk_alloc ?_ _)); refine blk_put (cs := #[.bool false, .bool false, .int .i64 0, .int .i64 0]) ?_ 0 _ rfl; (with_reducible repeat (first | refine blk_drewN ?_ _ | refine blk_drew ?_ | refine blk_alloc ?_ _)); refine blk_far ?_ NB161_164.out _; (with_reducible repeat (first | refine blk_drewN ?_ _ | refine blk_drew ?_ | refine blk_alloc ?_ _)); refine blk_far ?_ NB161_164.out _; (with_reducible repeat (first | refine blk_drewN ?_ _ | refine blk_drew ?_ | refine blk_alloc ?_ _)); exact BK161.out) Tryd.underlying23 rfl kk) rfl ?_
    exact ⟨pe, pw⟩
   replace c26 := Bool.eq_false_iff.mpr c26
   subst c26
   have H1 : (if x165000_3 = true then (some (x165000_3, false, x165002_3, a0_3, none)) else (if false = true then (some (x165000_3, false, x165002_3, a0_3, none)) else (if x165002_3 > a0_3 then (some (false, false, 0, 0, some 4)) else (some (x165000_3, false, x165002_3, a0_3, none))))) = some (r1, r2, r3, r4, r5) := by rw [if_neg (show ¬ (false = true) by decide)] at H; exact H
   clear H
   have H := H1
   clear H1
   by_cases c82 : x165000_3 = true
   ·subst c82
    have H1 : (some (true, false, x165002_3, a0_3, none)) = some (r1, r2, r3, r4, r5) := by rw [if_pos rfl] at H; exact H
    clear H
    have H := H1
    clear H1
    simp only [Option.some.injEq, Prod.mk.injEq] at H
    obtain ⟨rfl, rfl, rfl, rfl, rfl⟩ := H
    have hnb83 := NB159_160.out
    have hnc83 := NB160_159.out
    have hnb84 := NB159_161.out
    have hnc84 := NB161_159.out
    have hnb85 := NB159_164.out
    have hnc85 := NB164_159.out
    have hcz86_0 : wc.cell? ⟨gb159, 0, none⟩ = some (.bool a0_0) := bc BK159 0
    have hcz86_1 : wc.cell? ⟨gb159, 1, none⟩ = some (.bool false) := bc BK159 1
    have hcz86_2 : wc.cell? ⟨gb159, 2, none⟩ = some (.int .i64 a0_2) := bc BK159 2
    have hcz86_3 : wc.cell? ⟨gb159, 3, none⟩ = some (.int .i64 a0_3) := bc BK159 3
    have hfz86_0 := blk_frozen BK159.out 0
    have hfz86_1 := blk_frozen BK159.out 1
    have hfz86_2 := blk_frozen BK159.out 2
    have hfz86_3 := blk_frozen BK159.out 3
    have hnb87 := NB164_160.out
    have hnc87 := NB160_164.out
    have hnb88 := NB164_161.out
    have hnc88 := NB161_164.out
    have hcz89_0 : wc.cell? ⟨gb164, 0, none⟩ = some (.bool true) := bc BK164 0
    have hcz89_1 : wc.cell? ⟨gb164, 1, none⟩ = some (.bool false) := bc BK164 1
    have hcz89_2 : wc.cell? ⟨gb164, 2, none⟩ = some (.int .i64 x165002_3) := bc BK164 2
    have hcz89_3 : wc.cell? ⟨gb164, 3, none⟩ = some (.int .i64 a0_3) := bc BK164 3
    have hfz89_0 := blk_frozen BK164.out 0
    have hfz89_1 := blk_frozen BK164.out 1
    have hfz89_2 := blk_frozen BK164.out 2
    have hfz89_3 := blk_frozen BK164.out 3
    have hnb90 := NB161_160.out
    have hnc90 := NB160_161.out
    have hcz91_0 : wc.cell? ⟨gb161, 0, none⟩ = some (.bool false) := bc BK161 0
    have hcz91_1 : wc.cell? ⟨gb161, 1, none⟩ = some (.bool false) := bc BK161 1
    have hcz91_2 : wc.cell? ⟨gb161, 2, none⟩ = some (.int .i64 0) := bc BK161 2
    have hcz91_3 : wc.cell? ⟨gb161, 3, none⟩ = some (.int .i64 0) := bc BK161 3
    have hfz91_0 := blk_frozen BK161.out 0
    have hfz91_1 := blk_frozen BK161.out 1
    have hfz91_2 := blk_frozen BK161.out 2
    have hfz91_3 := blk_frozen BK161.out 3
    go_wp2
    refine bodyPost_ret (results_ct rfl _ _ gb161 23 #[.bool true, .bool false, .int .i64 x165002_3, .int .i64 a0_3] (0, 0) _ rfl (by (with_reducible repeat (first | refine blk_drewN ?_ _ | refine blk_drew ?_ | refine blk_alloc ?_ _)); refine blk_put (cs := #[.bool true, .bool false, .int .i64 x165002_3, .int .i64 0]) ?_ 3 _ rfl; (with_reducible repeat (first | refine blk_drewN ?_ _ | refine blk_drew ?_ | refine blk_alloc ?_ _)); refine blk_put (cs := #[.bool true, .bool false, .int .i64 0, .int .i64 0]) ?_ 2 _ rfl; (with_reducible repeat (first | refine blk_drewN ?_ _ | refine blk_drew ?_ | refine blk_alloc ?_ _)); refine blk_put (cs := #[.bool true, .bool false, .int .i64 0, .int .i64 0]) ?_ 1 _ rfl; (with_reducible repeat (first | refine blk_drewN ?_ _ | refine blk_drew ?_ | refine blk_alloc ?_ _)); refine blk_put (cs := #[.bool false, .bool false, .int .i64 0, .int .i64 0]) ?_ 0 _ rfl; (with_reducible repeat (first | refine blk_drewN ?_ _ | refine blk_drew ?_ | refine blk_alloc ?_ _)); exact BK161.out) Tryd.underlying23 rfl kk) rfl ?_
    exact ⟨pe, pw⟩
   replace c82 := Bool.eq_false_iff.mpr c82
   subst c82
   have H1 : (if false = true then (some (false, false, x165002_3, a0_3, none)) else (if x165002_3 > a0_3 then (some (false, false, 0, 0, some 4)) else (some (false, false, x165002_3, a0_3, none)))) = some (r1, r2, r3, r4, r5) := by rw [if_neg (show ¬ (false = true) by decide)] at H; exact H
   clear H
   have H := H1
   clear H1
   have H1 : (if x165002_3 > a0_3 then (some (false, false, 0, 0, some 4)) else (some (false, false, x165002_3, a0_3, none))) = some (r1, r2, r3, r4, r5) := by rw [if_neg (show ¬ (false = true) by decide)] at H; exact H
   clear H
   have H := H1
   clear H1
   by_cases c92 : x165002_3 > a0_3
   ·rw [if_pos c92] at H
    have c92b0 : decide (a0_3 < x165002_3) = true := decide_eq_true c92
    clear c92
    simp only [Option.some.injEq, Prod.mk.injEq] at H
    obtain ⟨rfl, rfl, rfl, rfl, rfl⟩ := H
    have hnb93 := NB159_160.out
    have hnc93 := NB160_159.out
    have hnb94 := NB159_161.out
    have hnc94 := NB161_159.out
    have hnb95 := NB159_164.out
    have hnc95 := NB164_159.out
    have hcz96_0 : wc.cell? ⟨gb159, 0, none⟩ = some (.bool a0_0) := bc BK159 0
    have hcz96_1 : wc.cell? ⟨gb159, 1, none⟩ = some (.bool false) := bc BK159 1
    have hcz96_2 : wc.cell? ⟨gb159, 2, none⟩ = some (.int .i64 a0_2) := bc BK159 2
    have hcz96_3 : wc.cell? ⟨gb159, 3, none⟩ = some (.int .i64 a0_3) := bc BK159 3
    have hfz96_0 := blk_frozen BK159.out 0
    have hfz96_1 := blk_frozen BK159.out 1
    have hfz96_2 := blk_frozen BK159.out 2
    have hfz96_3 := blk_frozen BK159.out 3
    have hnb97 := NB164_160.out
    have hnc97 := NB160_164.out
    have hnb98 := NB164_161.out
    have hnc98 := NB161_164.out
    have hcz99_0 : wc.cell? ⟨gb164, 0, none⟩ = some (.bool false) := bc BK164 0
    have hcz99_1 : wc.cell? ⟨gb164, 1, none⟩ = some (.bool false) := bc BK164 1
    have hcz99_2 : wc.cell? ⟨gb164, 2, none⟩ = some (.int .i64 x165002_3) := bc BK164 2
    have hcz99_3 : wc.cell? ⟨gb164, 3, none⟩ = some (.int .i64 a0_3) := bc BK164 3
    have hfz99_0 := blk_frozen BK164.out 0
    have hfz99_1 := blk_frozen BK164.out 1
    have hfz99_2 := blk_frozen BK164.out 2
    have hfz99_3 := blk_frozen BK164.out 3
    try go_wp2
    have n0_ := am (blk_drew BK159.out)
    have n1_ := am (blk_drew BK160.out)
    have n2_ := am (blk_drew BK161.out)
    have n3_ := am (blk_drew BK164.out)
    have n4_ := am (below_drew1 HB.out)
    clear BK159 BK160 BK161 BK164 HB
    revert n0_ n1_ n2_ n3_ n4_
    intro BK159 BK160 BK161 BK164 HB
    refine start_ (n := 4) (S := fun w' => w'.cell? ⟨2, 0, none⟩ = some (.iface 130 (.pointer (some (EA.adr 4))))) (ds := []) #[false, false, false, false] kk rfl rfl (((HB.out.cell (World.block_lt_of_cell? w _ hE4.out.cell)).trans hE4.out.cell)) (fun hHeld => ?_)
    generalize wc.drew = w100 at BK159 BK160 BK161 BK164 HB hHeld ⊢
    refine pure_ (i := 0) (N := some 47) (v := ?_) (a' := ?_) #[true, false, false, false] rfl rfl kk (fun _ _ _ h => h) (Or.inl ⟨by rfl, ?_⟩) ?_ ?_
    rotate_left
    ·intro w'
     go_simp
     with_reducible rfl
    rotate_left
    ·simp only [Act.put, List.setIfInBounds_toArray, List.set_cons_zero, List.set_cons_succ, i64_w, i32_w]
     rfl
    refine take_ (i := 1) (N := some 48) (v := ?_) (a' := ?_) #[true, true, false, false] rfl rfl kk (fun _ _ _ h => h) (Or.inl ⟨by rfl, ?_⟩) hHeld ?_ ?_
    rotate_left
    ·intro w' s0
     go_simp
     with_reducible rfl
    rotate_left
    ·simp only [Act.put, List.setIfInBounds_toArray, List.set_cons_zero, List.set_cons_succ, i64_w, i32_w]
     rfl
    refine one_ (i := 2) (N := none) #[true, true, true, false] rfl rfl kk (by decide) (fun K hK => ?_)
    have hs101 : w100.cell? ⟨gb161, 0, none⟩ = some (.bool false) := bc BK161 0
    have hfs101 := blk_frozen BK161.out 0
    have hns101_0 := NB159_161.out
    have hns101_1 := NB160_161.out
    have hns101_3 := NB164_161.out
    have hms101_0 := NB161_159.out
    have hms101_1 := NB161_160.out
    have hms101_3 := NB161_164.out
    have hs102 : w100.cell? ⟨gb161, 1, none⟩ = some (.bool false) := bc BK161 1
    have hfs102 := blk_frozen BK161.out 1
    have hns102_0 := NB159_161.out
    have hns102_1 := NB160_161.out
    have hns102_3 := NB164_161.out
    have hms102_0 := NB161_159.out
    have hms102_1 := NB161_160.out
    have hms102_3 := NB161_164.out
    have hs103 : w100.cell? ⟨gb161, 2, none⟩ = some (.int .i64 0) := bc BK161 2
    have hfs103 := blk_frozen BK161.out 2
    have hns103_0 := NB159_161.out
    have hns103_1 := NB160_161.out
    have hns103_3 := NB164_161.out
    have hms103_0 := NB161_159.out
    have hms103_1 := NB161_160.out
    have hms103_3 := NB161_164.out
    have hs104 : w100.cell? ⟨gb161, 3, none⟩ = some (.int .i64 0) := bc BK161 3
    have hfs104 := blk_frozen BK161.out 3
    have hns104_0 := NB159_161.out
    have hns104_1 := NB160_161.out
    have hns104_3 := NB164_161.out
    have hms104_0 := NB161_159.out
    have hms104_1 := NB161_160.out
    have hms104_3 := NB161_164.out
    refine skip_ (w1 := ?_) (by rfl) rfl ?_ ?_
    rotate_left
    ·go_simp
     rfl
    refine hK.out _ _ (((cell_far (p := ⟨gb161, _, none⟩) (by first | exact Nat.ne_of_lt (Nat.lt_of_lt_of_le (ErrAt.lt hE4.out) GW161.out) | (rw [add_block]; exact Nat.ne_of_lt (Nat.lt_of_lt_of_le (ErrAt.lt hE4.out) GW161.out)) | (show (Addr.add _ _).block ≠ _; rw [add_block]; exact Nat.ne_of_lt (Nat.lt_of_lt_of_le (ErrAt.lt hE4.out) GW161.out)) | (dsimp only; exact Nat.ne_of_lt (Nat.lt_of_lt_of_le (ErrAt.lt hE4.out) GW161.out))) _).trans (((cell_far (p := ⟨gb161, _, none⟩) (by first | exact Nat.ne_of_lt (Nat.lt_of_lt_of_le (ErrAt.lt hE4.out) GW161.out) | (rw [add_block]; exact Nat.ne_of_lt (Nat.lt_of_lt_of_le (ErrAt.lt hE4.out) GW161.out)) | (show (Addr.add _ _).block ≠ _; rw [add_block]; exact Nat.ne_of_lt (Nat.lt_of_lt_of_le (ErrAt.lt hE4.out) GW161.out)) | (dsimp only; exact Nat.ne_of_lt (Nat.lt_of_lt_of_le (ErrAt.lt hE4.out) GW161.out))) _).trans (((cell_far (p := ⟨gb161, _, none⟩) (by first | exact Nat.ne_of_lt (Nat.lt_of_lt_of_le (ErrAt.lt hE4.out) GW161.out) | (rw [add_block]; exact Nat.ne_of_lt (Nat.lt_of_lt_of_le (ErrAt.lt hE4.out) GW161.out)) | (show (Addr.add _ _).block ≠ _; rw [add_block]; exact Nat.ne_of_lt (Nat.lt_of_lt_of_le (ErrAt.lt hE4.out) GW161.out)) | (dsimp only; exact Nat.ne_of_lt (Nat.lt_of_lt_of_le (ErrAt.lt hE4.out) GW161.out))) _).trans (((cell_far (p := ⟨gb161, _, none⟩) (by first | exact Nat.ne_of_lt (Nat.lt_of_lt_of_le (ErrAt.lt hE4.out) GW161.out) | (rw [add_block]; exact Nat.ne_of_lt (Nat.lt_of_lt_of_le (ErrAt.lt hE4.out) GW161.out)) | (show (Addr.add _ _).block ≠ _; rw [add_block]; exact Nat.ne_of_lt (Nat.lt_of_lt_of_le (ErrAt.lt hE4.out) GW161.out)) | (dsimp only; exact Nat.ne_of_lt (Nat.lt_of_lt_of_le (ErrAt.lt hE4.out) GW161.out))) _).trans (hHeld))))))))) (fun hHeld => ?_)
    clear hK K
    refine pure_ (i := 3) (N := some 5) (v := ?_) (a' := ?_) #[true, true, true, true] rfl rfl kk (fun _ _ _ h => h) (Or.inl ⟨by rfl, ?_⟩) ?_ ?_
    rotate_left
    ·intro w'
     go_simp
     with_reducible rfl
    rotate_left
    ·simp only [Act.put, List.setIfInBounds_toArray, List.set_cons_zero, List.set_cons_succ, i64_w, i32_w]
     rfl
    refine done_ kk ?_
    try go_wp2
    refine bodyPost_ret (results_ct rfl _ _ gb161 23 #[.bool false, .bool false, .int .i64 0, .int .i64 0] (0, 0) _ rfl (by (with_reducible repeat (first | refine blk_drewN ?_ _ | refine blk_drew ?_ | refine blk_alloc ?_ _)); refine blk_put (cs := #[.bool false, .bool false, .int .i64 0, .int .i64 0]) ?_ 3 _ rfl; (with_reducible repeat (first | refine blk_drewN ?_ _ | refine blk_drew ?_ | refine blk_alloc ?_ _)); refine blk_put (cs := #[.bool false, .bool false, .int .i64 0, .int .i64 0]) ?_ 2 _ rfl; (with_reducible repeat (first | refine blk_drewN ?_ _ | refine blk_drew ?_ | refine blk_alloc ?_ _)); refine blk_put (cs := #[.bool false, .bool false, .int .i64 0, .int .i64 0]) ?_ 1 _ rfl; (with_reducible repeat (first | refine blk_drewN ?_ _ | refine blk_drew ?_ | refine blk_alloc ?_ _)); refine blk_put (cs := #[.bool false, .bool false, .int .i64 0, .int .i64 0]) ?_ 0 _ rfl; (with_reducible repeat (first | refine blk_drewN ?_ _ | refine blk_drew ?_ | refine blk_alloc ?_ _)); exact BK161.out) Tryd.underlying23 rfl kk) rfl ?_
    exact ⟨pe, pw⟩
   rw [if_neg c92] at H
   have c92b0 : decide (a0_3 < x165002_3) = false := decide_eq_false c92
   clear c92
   simp only [Option.some.injEq, Prod.mk.injEq] at H
   obtain ⟨rfl, rfl, rfl, rfl, rfl⟩ := H
   have hnb105 := NB159_160.out
   have hnc105 := NB160_159.out
   have hnb106 := NB159_161.out
   have hnc106 := NB161_159.out
   have hnb107 := NB159_164.out
   have hnc107 := NB164_159.out
   have hcz108_0 : wc.cell? ⟨gb159, 0, none⟩ = some (.bool a0_0) := bc BK159 0
   have hcz108_1 : wc.cell? ⟨gb159, 1, none⟩ = some (.bool false) := bc BK159 1
   have hcz108_2 : wc.cell? ⟨gb159, 2, none⟩ = some (.int .i64 a0_2) := bc BK159 2
   have hcz108_3 : wc.cell? ⟨gb159, 3, none⟩ = some (.int .i64 a0_3) := bc BK159 3
   have hfz108_0 := blk_frozen BK159.out 0
   have hfz108_1 := blk_frozen BK159.out 1
   have hfz108_2 := blk_frozen BK159.out 2
   have hfz108_3 := blk_frozen BK159.out 3
   have hnb109 := NB164_160.out
   have hnc109 := NB160_164.out
   have hnb110 := NB164_161.out
   have hnc110 := NB161_164.out
   have hcz111_0 : wc.cell? ⟨gb164, 0, none⟩ = some (.bool false) := bc BK164 0
   have hcz111_1 : wc.cell? ⟨gb164, 1, none⟩ = some (.bool false) := bc BK164 1
   have hcz111_2 : wc.cell? ⟨gb164, 2, none⟩ = some (.int .i64 x165002_3) := bc BK164 2
   have hcz111_3 : wc.cell? ⟨gb164, 3, none⟩ = some (.int .i64 a0_3) := bc BK164 3
   have hfz111_0 := blk_frozen BK164.out 0
   have hfz111_1 := blk_frozen BK164.out 1
   have hfz111_2 := blk_frozen BK164.out 2
   have hfz111_3 := blk_frozen BK164.out 3
   have hnb112 := NB161_160.out
   have hnc112 := NB160_161.out
   have hcz113_0 : wc.cell? ⟨gb161, 0, none⟩ = some (.bool false) := bc BK161 0
   have hcz113_1 : wc.cell? ⟨gb161, 1, none⟩ = some (.bool false) := bc BK161 1
   have hcz113_2 : wc.cell? ⟨gb161, 2, none⟩ = some (.int .i64 0) := bc BK161 2
   have hcz113_3 : wc.cell? ⟨gb161, 3, none⟩ = some (.int .i64 0) := bc BK161 3
   have hfz113_0 := blk_frozen BK161.out 0
   have hfz113_1 := blk_frozen BK161.out 1
   have hfz113_2 := blk_frozen BK161.out 2
   have hfz113_3 := blk_frozen BK161.out 3
   go_wp2
   refine bodyPost_ret (results_ct rfl _ _ gb161 23 #[.bool false, .bool false, .int .i64 x165002_3, .int .i64 a0_3] (0, 0) _ rfl (by (with_reducible repeat (first | refine blk_drewN ?_ _ | refine blk_drew ?_ | refine blk_alloc ?_ _)); refine blk_put (cs := #[.bool false, .bool false, .int .i64 x165002_3, .int .i64 0]) ?_ 3 _ rfl; (with_reducible repeat (first | refine blk_drewN ?_ _ | refine blk_drew ?_ | refine blk_alloc ?_ _)); refine blk_put (cs := #[.bool false, .bool false, .int .i64 0, .int .i64 0]) ?_ 2 _ rfl; (with_reducible repeat (first | refine blk_drewN ?_ _ | refine blk_drew ?_ | refine blk_alloc ?_ _)); refine blk_put (cs := #[.bool false, .bool false, .int .i64 0, .int .i64 0]) ?_ 1 _ rfl; (with_reducible repeat (first | refine blk_drewN ?_ _ | refine blk_drew ?_ | refine blk_alloc ?_ _)); refine blk_put (cs := #[.bool false, .bool false, .int .i64 0, .int .i64 0]) ?_ 0 _ rfl; (with_reducible repeat (first | refine blk_drewN ?_ _ | refine blk_drew ?_ | refine blk_alloc ?_ _)); exact BK161.out) Tryd.underlying23 rfl kk) rfl ?_
   exact ⟨pe, pw⟩
 have H1 : (some (false, false, 0, 0, some q163)) = some (r1, r2, r3, r4, r5) := by rw [if_neg (show ¬ (some q163).isNone = true by simp)] at H; exact H
 clear H
 have H := H1
 clear H1
 try simp only [errW_none, errW_some]
 simp only [Option.some.injEq, Prod.mk.injEq] at H
 obtain ⟨rfl, rfl, rfl, rfl, rfl⟩ := H
 go_enter Tryd.func42, Tryd.ntmps42
 go_wp2_with (first | ((with_reducible refine gate_dst (N := 2) rfl ?_); refine box_event ?hg (N := 2) ?hd (cs := #[.bool a0_0, .bool a0_1, .int .i64 a0_2, .int .i64 a0_3]) (t := 23) ?hr ?_; (case hd => rfl); (case hg => rfl); (case hr => first | (go_simp; done) | (go_simp; rfl)); intro gb159 hg w114 hbox hb; have n0_ := am (below_step pw hb); have n1_ := am (hbox); have n2_ := am ((by rw [hg]; exact (below_size pw) : w.heap.size ≤ gb159)); have n3_ := am ((by rw [hg]; exact (below_size pw) : w.heap.size ≤ gb159)); clear HB; have HB := n0_; have BK159 := n1_; have GW159 := n2_; have GE159 := n3_; clear n0_ n1_ n2_ n3_; clear hb hbox hg) | ((with_reducible refine gate_dst (N := 3) rfl ?_); refine box_event ?hg (N := 3) ?hd (cs := #[.bool a1_0, .bool a1_1, .int .i64 a1_2, .int .i64 a1_3]) (t := 23) ?hr ?_; (case hd => rfl); (case hg => rfl); (case hr => first | (go_simp; done) | (go_simp; rfl)); intro gb160 hg w115 hbox hb; have n0_ := bb BK159 hb; have n1_ := am (below_step pw hb); have n2_ := am (hbox); have n3_ := am ((by rw [hg]; exact (below_size pw) : w.heap.size ≤ gb160)); have n4_ := am ((by rw [hg]; exact (below_size pw) : w.heap.size ≤ gb160)); have n5_ := am ((by rw [hg]; exact Nat.ne_of_lt (blk_lt pk) : gb159 ≠ gb160)); have n6_ := am ((by rw [hg]; exact Nat.ne_of_gt (blk_lt pk) : gb160 ≠ gb159)); clear BK159; clear HB; have BK159 := n0_; have HB := n1_; have BK160 := n2_; have GW160 := n3_; have GE160 := n4_; have NB159_160 := n5_; have NB160_159 := n6_; clear n0_ n1_ n2_ n3_ n4_ n5_ n6_; clear hb hbox hg) | ((with_reducible refine gate_dst (N := 4) rfl ?_); refine box_event ?hg (N := 4) ?hd (cs := #[.bool false, .bool false, .int .i64 0, .int .i64 0]) (t := 23) ?hr ?_; (case hd => rfl); (case hg => rfl); (case hr => first | (go_simp; done) | (go_simp; rfl)); intro gb161 hg w116 hbox hb; have n0_ := bb BK159 hb; have n1_ := bb BK160 hb; have n2_ := am (below_step pw hb); have n3_ := am (hbox); have n4_ := am ((by rw [hg]; exact (below_size pw) : w.heap.size ≤ gb161)); have n5_ := am ((by rw [hg]; exact (below_size pw) : w.heap.size ≤ gb161)); have n6_ := am ((by rw [hg]; exact Nat.ne_of_lt (blk_lt pk) : gb159 ≠ gb161)); have n7_ := am ((by rw [hg]; exact Nat.ne_of_gt (blk_lt pk) : gb161 ≠ gb159)); have n8_ := am ((by rw [hg]; exact Nat.ne_of_lt (blk_lt pk) : gb160 ≠ gb161)); have n9_ := am ((by rw [hg]; exact Nat.ne_of_gt (blk_lt pk) : gb161 ≠ gb160)); clear BK159; clear BK160; clear HB; have BK159 := n0_; have BK160 := n1_; have HB := n2_; have BK161 := n3_; have GW161 := n4_; have GE161 := n5_; have NB159_161 := n6_; have NB161_159 := n7_; have NB160_161 := n8_; have NB161_160 := n9_; clear n0_ n1_ n2_ n3_ n4_ n5_ n6_ n7_ n8_ n9_; clear hb hbox hg; have hnb117 := NB159_160.out; have hnc117 := NB160_159.out; have hnb118 := NB159_161.out; have hnc118 := NB161_159.out; have hcz119_0 : w116.cell? ⟨gb159, 0, none⟩ = some (.bool a0_0) := bc BK159 0; have hcz119_1 : w116.cell? ⟨gb159, 1, none⟩ = some (.bool a0_1) := bc BK159 1; have hcz119_2 : w116.cell? ⟨gb159, 2, none⟩ = some (.int .i64 a0_2) := bc BK159 2; have hcz119_3 : w116.cell? ⟨gb159, 3, none⟩ = some (.int .i64 a0_3) := bc BK159 3; have hfz119_0 := blk_frozen BK159.out 0; have hfz119_1 := blk_frozen BK159.out 1; have hfz119_2 := blk_frozen BK159.out 2; have hfz119_3 := blk_frozen BK159.out 3; have hnb120 := NB160_161.out; have hnc120 := NB161_160.out; have hcz121_0 : w116.cell? ⟨gb160, 0, none⟩ = some (.bool a1_0) := bc BK160 0; have hcz121_1 : w116.cell? ⟨gb160, 1, none⟩ = some (.bool a1_1) := bc BK160 1; have hcz121_2 : w116.cell? ⟨gb160, 2, none⟩ = some (.int .i64 a1_2) := bc BK160 2; have hcz121_3 : w116.cell? ⟨gb160, 3, none⟩ = some (.int .i64 a1_3) := bc BK160 3; have hfz121_0 := blk_frozen BK160.out 0; have hfz121_1 := blk_frozen BK160.out 1; have hfz121_2 := blk_frozen BK160.out 2; have hfz121_3 := blk_frozen BK160.out 3) | ((with_reducible refine gate_callee (f := 62) rfl ?_); refine goesL_ (some 10) rfl rfl Tryd.func62 kk rfl #[.agg #[.bool a0_0, .bool a0_1, .int .i64 a0_2, .int .i64 a0_3], .agg #[.bool a1_0, .bool a1_1, .int .i64 a1_2, .int .i64 a1_3]] rfl (by (try simp only [List.map_toArray, List.map_cons, List.map_nil]); first | done | rfl | (simp only [List.length_drop, List.length_take]; rfl)) ?_; (with_reducible refine (interval_two.calls k a0_0 a0_1 a0_2 a0_3 a1_0 a1_1 a1_2 a1_3 (some q163) _ A3.out (am (ErrAt.below hE2.out pw)).out (am (ErrAt.below hE3.out pw)).out).mono ?_); rintro e w122 ⟨rfl, hb⟩; refine ⟨_, rfl, ?_⟩; have n0_ := bb BK159 hb; have n1_ := bb BK160 hb; have n2_ := bb BK161 hb; have n3_ := am (below_step pw hb); clear BK159; clear BK160; clear BK161; clear HB; have BK159 := n0_; have BK160 := n1_; have BK161 := n2_; have HB := n3_; clear n0_ n1_ n2_ n3_; (try clear hb); (try clear hb2); (try clear hk); (try clear hi); (try simp only [errW_none, errW_some]); have hcz123_0 : w122.cell? ⟨gb161, 0, none⟩ = some (.bool false) := bc BK161 0; have hcz123_1 : w122.cell? ⟨gb161, 1, none⟩ = some (.bool false) := bc BK161 1; have hcz123_2 : w122.cell? ⟨gb161, 2, none⟩ = some (.int .i64 0) := bc BK161 2; have hcz123_3 : w122.cell? ⟨gb161, 3, none⟩ = some (.int .i64 0) := bc BK161 3; have hfz123_0 := blk_frozen BK161.out 0; have hfz123_1 := blk_frozen BK161.out 1; have hfz123_2 := blk_frozen BK161.out 2; have hfz123_3 := blk_frozen BK161.out 3))
 refine bodyPost_ret (results_ct rfl _ _ gb161 23 #[.bool false, .bool false, .int .i64 0, .int .i64 0] (0, 0) _ rfl (by (with_reducible repeat (first | refine blk_drewN ?_ _ | refine blk_drew ?_ | refine blk_alloc ?_ _)); refine blk_put (cs := #[.bool false, .bool false, .int .i64 0, .int .i64 0]) ?_ 3 _ rfl; (with_reducible repeat (first | refine blk_drewN ?_ _ | refine blk_drew ?_ | refine blk_alloc ?_ _)); refine blk_put (cs := #[.bool false, .bool false, .int .i64 0, .int .i64 0]) ?_ 2 _ rfl; (with_reducible repeat (first | refine blk_drewN ?_ _ | refine blk_drew ?_ | refine blk_alloc ?_ _)); refine blk_put (cs := #[.bool false, .bool false, .int .i64 0, .int .i64 0]) ?_ 1 _ rfl; (with_reducible repeat (first | refine blk_drewN ?_ _ | refine blk_drew ?_ | refine blk_alloc ?_ _)); refine blk_put (cs := #[.bool false, .bool false, .int .i64 0, .int .i64 0]) ?_ 0 _ rfl; (with_reducible repeat (first | refine blk_drewN ?_ _ | refine blk_drew ?_ | refine blk_alloc ?_ _)); exact BK161.out) Tryd.underlying23 rfl kk) rfl ?_
 exact ⟨pe, pw⟩

end Go.Proofs.YtimgfgambeffeaaDoor.J
