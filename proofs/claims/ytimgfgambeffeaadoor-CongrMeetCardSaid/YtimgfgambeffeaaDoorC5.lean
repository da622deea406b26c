-- Written by wip/xprint.py (the session's program over the kit's print).
import Derived.Test.YtimgfgambeffeaaDoorEb
import Derived.Test.YtimgfgambeffeaaDoorC0
import Derived.Test.YtimgfgambeffeaaDoorC4
namespace Go.Proofs.YtimgfgambeffeaaDoor.C
open Go.RowKit Go.Proofs.YtimgfgambeffeaaDoorW.PrintWords Go.Proofs.YtimgfgambeffeaaDoorW.PrintLast Go.Proofs.YtimgfgambeffeaaDoorW.PrintMore Go.Proofs.Rcg
attribute [local go_sem] max2_int min2_int max_two min_two max_three min_three max_four min_four   -- for this text's walks alone
set_option linter.unusedVariables false
set_option linter.unusedSimpArgs false

/-! ### congr_Meet: function 20 -/
def congr_Meet.l0 : Nat → Int → Int → Int → Int → Int → Int → Option (Int × Int × Bool × Option Int)
 | 0, _, _, _, _, _, _ => none
 | k + 1, x9, x10, x118000, x118001, x119000, x119001 => (congr_Has.f k x119000 x119001 x10).bind fun t136 => (if t136 = true then ((congr_told.f k x10 x9).bind fun bt137 => (some (bt137.1, bt137.2, true, none))) else (congr_Meet.l0 k x9 (wrap64 (x10 + x118001)) x118000 x118001 x119000 x119001))
def congr_Meet.f (k : Nat) (a0_0 : Int) (a0_1 : Int) (a1_0 : Int) (a1_1 : Int) : Option (Int × Int × Bool × Option Int) := (congr_two.f k a0_0 a0_1 a1_0 a1_1).bind fun t120 => (if t120.isNone = true then (if a0_1 = 0 then ((congr_Has.f k a1_0 a1_1 a0_0).bind fun t122 => ((congr_one.f a0_0 a0_1 t122).bind fun bt123 => (some (bt123.1, bt123.2.1, bt123.2.2.1, bt123.2.2.2)))) else (if a1_1 = 0 then ((congr_Has.f k a0_0 a0_1 a1_0).bind fun t127 => ((congr_one.f a1_0 a1_1 t127).bind fun bt128 => (some (bt128.1, bt128.2.1, bt128.2.2.1, bt128.2.2.2)))) else ((congr_gcd.f k (([a0_1, a1_1] : List Int))).bind fun t135 => (if t135 = 0 then (none) else (if (Int.tmod (wrap64 (a0_0 - a1_0)) t135) = 0 then (if (wrap64 ((wrap64 (Int.tdiv a0_1 t135)) * a1_1)) > 1048576 then (some (a0_0, a0_1, true, none)) else (congr_Meet.l0 k (wrap64 ((wrap64 (Int.tdiv a0_1 t135)) * a1_1)) a0_0 a0_0 a0_1 a1_0 a1_1)) else (some (0, 0, false, none))))))) else (some (0, 0, false, some (t120.getD 0))))
theorem congr_Meet.mono_l : ∀ k, (∀ y0 y1 y2 y3 y4 y5, LeO (congr_Meet.l0 k y0 y1 y2 y3 y4 y5) (congr_Meet.l0 (k + 1) y0 y1 y2 y3 y4 y5))
 | 0 => fun _ _ _ _ _ _ r h => by simp [congr_Meet.l0] at h
 | k + 1 => by
  have ih0 := congr_Meet.mono_l k
  intro y0 y1 y2 y3 y4 y5
  unfold congr_Meet.l0
  repeat' first
  | (with_reducible exact ih0 _ _ _ _ _ _)
  | (with_reducible exact congr_Has.mono _ _ _ _)
  | (with_reducible exact congr_gcd.mono _ _)
  | (with_reducible exact congr_told.mono _ _ _)
  | (with_reducible exact congr_two.mono _ _ _ _ _)
  | (with_reducible exact LeO.refl _)
  | (with_reducible exact LeO.none _)
  | (with_reducible refine LeO.ite ?_ ?_)
  | (with_reducible refine LeO.bind ?_ (fun _ => ?_))
  | exact ih0 _ _ _ _ _ _
  | exact congr_Has.mono _ _ _ _
  | exact congr_gcd.mono _ _
  | exact congr_told.mono _ _ _
  | exact congr_two.mono _ _ _ _ _
  | exact LeO.none _
  | refine LeO.ite ?_ ?_
  | refine LeO.bind ?_ (fun _ => ?_)
theorem congr_Meet.mono : ∀ a0 a1 a2 a3 k, LeO (congr_Meet.f k a0 a1 a2 a3) (congr_Meet.f (k + 1) a0 a1 a2 a3) := by
 intro a0 a1 a2 a3 k
 have ih0 := congr_Meet.mono_l k
 unfold congr_Meet.f
 repeat' first
   | (with_reducible exact ih0 _ _ _ _ _ _)
   | (with_reducible exact congr_Has.mono _ _ _ _)
   | (with_reducible exact congr_gcd.mono _ _)
   | (with_reducible exact congr_told.mono _ _ _)
   | (with_reducible exact congr_two.mono _ _ _ _ _)
   | (with_reducible exact LeO.refl _)
   | (with_reducible exact LeO.none _)
   | (with_reducible refine LeO.ite ?_ ?_)
   | (with_reducible refine LeO.bind ?_ (fun _ => ?_))
   | exact ih0 _ _ _ _ _ _
   | exact congr_Has.mono _ _ _ _
   | exact congr_gcd.mono _ _
   | exact congr_told.mono _ _ _
   | exact congr_two.mono _ _ _ _ _
   | exact LeO.none _
   | refine LeO.ite ?_ ?_
   | refine LeO.bind ?_ (fun _ => ?_)
def congr_Meet.T5 : Bool × List (List Nat × List Nat) := (true, [([], []), ([], []), ([], []), ([2], [2]), ([1, 3], [1, 3]), ([0, 4, 4], [0, 4]), ([5], [5]), ([5], [5]), ([5], [5]), ([6, 5, 0, 1, 2, 3, 4, 5, 6, 7, 8], [6]), ([7, 9, 0, 1, 2, 3, 4, 5, 6, 7, 8, 9], [7]), ([8, 10, 0, 1, 2, 3, 4, 5, 6, 7, 8, 9, 10], [8])])
def congr_Meet.B5 : List Nat := [0, 0, 0, 4, 14, 31, 63, 63, 63, 511, 1023, 2047]
theorem congr_Meet.tab5 : rtab .any (opsOf Tryd.f20 5) = congr_Meet.T5 := by kernel_rfl
theorem congr_Meet.bits5 : waitsOk congr_Meet.T5.2 congr_Meet.B5 = true := by kernel_rfl
def congr_Meet.T7 : Bool × List (List Nat × List Nat) := (true, [([], []), ([], []), ([], []), ([2], [2]), ([1, 3], [1, 3]), ([0, 4, 4], [0, 4]), ([5], [5]), ([5], [5]), ([5], [5]), ([6, 5, 0, 1, 2, 3, 4, 5, 6, 7, 8], [6]), ([7, 9, 0, 1, 2, 3, 4, 5, 6, 7, 8, 9], [7]), ([8, 10, 0, 1, 2, 3, 4, 5, 6, 7, 8, 9, 10], [8])])
def congr_Meet.B7 : List Nat := [0, 0, 0, 4, 14, 31, 63, 63, 63, 511, 1023, 2047]
theorem congr_Meet.tab7 : rtab .any (opsOf Tryd.f20 7) = congr_Meet.T7 := by kernel_rfl
theorem congr_Meet.bits7 : waitsOk congr_Meet.T7.2 congr_Meet.B7 = true := by kernel_rfl
def congr_Meet.T11 : Bool × List (List Nat × List Nat) := (true, [([], []), ([0], [0]), ([], []), ([1, 2], [1, 2]), ([], []), ([4], [4]), ([3, 5], [3, 5]), ([6, 0, 1, 2, 3, 4, 5, 6], [6])])
def congr_Meet.B11 : List Nat := [0, 1, 0, 7, 0, 16, 63, 127]
theorem congr_Meet.tab11 : rtab .any (opsOf Tryd.f20 11) = congr_Meet.T11 := by kernel_rfl
theorem congr_Meet.bits11 : waitsOk congr_Meet.T11.2 congr_Meet.B11 = true := by kernel_rfl
set_option maxHeartbeats 8000000 in
set_option maxRecDepth 100000 in
theorem congr_Meet.calls [EA] (k : Nat) (a0_0 : Int) (a0_1 : Int) (a1_0 : Int) (a1_1 : Int) (r1 : Int) (r2 : Int) (r3 : Bool) (r4 : Option Int) (w : World) (h : congr_Meet.f k a0_0 a0_1 a1_0 a1_1 = some (r1, r2, r3, r4)) (h2_ : ErrAt 2 1 w) (h3_ : ErrAt 3 0 w) :
  Calls Tryd.prog 20 #[.agg #[.int .i64 a0_0, .int .i64 a0_1], .agg #[.int .i64 a1_0, .int .i64 a1_1]] w fun e w' => e = .returned (.tuple #[.agg #[.int .i64 r1, .int .i64 r2], .bool r3, errW r4]) ∧ Below w.heap.size w w' := by
 have hE2 := am h2_
 clear h2_
 have hE3 := am h3_
 clear h3_
 have hu34 := Tryd.underlying34
 have hu28 := Tryd.underlying28
 have HB := am (Below.refl w.heap.size w)
 have H : ((congr_two.f k a0_0 a0_1 a1_0 a1_1).bind fun t120 => (if t120.isNone = true then (if a0_1 = 0 then ((congr_Has.f k a1_0 a1_1 a0_0).bind fun t122 => ((congr_one.f a0_0 a0_1 t122).bind fun bt123 => (some (bt123.1, bt123.2.1, bt123.2.2.1, bt123.2.2.2)))) else (if a1_1 = 0 then ((congr_Has.f k a0_0 a0_1 a1_0).bind fun t127 => ((congr_one.f a1_0 a1_1 t127).bind fun bt128 => (some (bt128.1, bt128.2.1, bt128.2.2.1, bt128.2.2.2)))) else ((congr_gcd.f k (([a0_1, a1_1] : List Int))).bind fun t135 => (if t135 = 0 then (none) else (if (Int.tmod (wrap64 (a0_0 - a1_0)) t135) = 0 then (if (wrap64 ((wrap64 (Int.tdiv a0_1 t135)) * a1_1)) > 1048576 then (some (a0_0, a0_1, true, none)) else (congr_Meet.l0 k (wrap64 ((wrap64 (Int.tdiv a0_1 t135)) * a1_1)) a0_0 a0_0 a0_1 a1_0 a1_1)) else (some (0, 0, false, none))))))) else (some (0, 0, false, some (t120.getD 0))))) = some (r1, r2, r3, r4) := h
 clear h
 replace H := Option.bind_eq_some_iff.mp H
 obtain ⟨t120, A30, H⟩ := H
 replace H : (if t120.isNone = true then (if a0_1 = 0 then ((congr_Has.f k a1_0 a1_1 a0_0).bind fun t122 => ((congr_one.f a0_0 a0_1 t122).bind fun bt123 => (some (bt123.1, bt123.2.1, bt123.2.2.1, bt123.2.2.2)))) else (if a1_1 = 0 then ((congr_Has.f k a0_0 a0_1 a1_0).bind fun t127 => ((congr_one.f a1_0 a1_1 t127).bind fun bt128 => (some (bt128.1, bt128.2.1, bt128.2.2.1, bt128.2.2.2)))) else ((congr_gcd.f k (([a0_1, a1_1] : List Int))).bind fun t135 => (if t135 = 0 then (none) else (if (Int.tmod (wrap64 (a0_0 - a1_0)) t135) = 0 then (if (wrap64 ((wrap64 (Int.tdiv a0_1 t135)) * a1_1)) > 1048576 then (some (a0_0, a0_1, true, none)) else (congr_Meet.l0 k (wrap64 ((wrap64 (Int.tdiv a0_1 t135)) * a1_1)) a0_0 a0_0 a0_1 a1_0 a1_1)) else (some (0, 0, false, none))))))) else (some (0, 0, false, some (t120.getD 0)))) = some (r1, r2, r3, r4) := H
 have A3 := am A30
 clear A30
 rcases t120 with _ | q121
 ·have H1 : (if a0_1 = 0 then ((congr_Has.f k a1_0 a1_1 a0_0).bind fun t122 => ((congr_one.f a0_0 a0_1 t122).bind fun bt123 => (some (bt123.1, bt123.2.1, bt123.2.2.1, bt123.2.2.2)))) else (if a1_1 = 0 then ((congr_Has.f k a0_0 a0_1 a1_0).bind fun t127 => ((congr_one.f a1_0 a1_1 t127).bind fun bt128 => (some (bt128.1, bt128.2.1, bt128.2.2.1, bt128.2.2.2)))) else ((congr_gcd.f k (([a0_1, a1_1] : List Int))).bind fun t135 => (if t135 = 0 then (none) else (if (Int.tmod (wrap64 (a0_0 - a1_0)) t135) = 0 then (if (wrap64 ((wrap64 (Int.tdiv a0_1 t135)) * a1_1)) > 1048576 then (some (a0_0, a0_1, true, none)) else (congr_Meet.l0 k (wrap64 ((wrap64 (Int.tdiv a0_1 t135)) * a1_1)) a0_0 a0_0 a0_1 a1_0 a1_1)) else (some (0, 0, false, none))))))) = some (r1, r2, r3, r4) := by rw [if_pos (show (none : Option Int).isNone = true by rfl)] at H; exact H
  clear H
  have H := H1
  clear H1
  try simp only [errW_none, errW_some]
  by_cases c4 : a0_1 = 0
  ·rw [if_pos c4] at H
   have c4b0 : (a0_1 == 0) = true := beq_iff_eq.mpr c4
   have c4b1 : (a0_1 != 0) = false := bne_eq_false_iff_eq.mpr c4
   clear c4
   replace H := Option.bind_eq_some_iff.mp H
   obtain ⟨t122, A50, H⟩ := H
   replace H : ((congr_one.f a0_0 a0_1 t122).bind fun bt123 => (some (bt123.1, bt123.2.1, bt123.2.2.1, bt123.2.2.2))) = some (r1, r2, r3, r4) := H
   have A5 := am A50
   clear A50
   replace H := Option.bind_eq_some_iff.mp H
   obtain ⟨⟨t123, t124, t125, t126⟩, A60, H⟩ := H
   replace H : (some (t123, t124, t125, t126)) = some (r1, r2, r3, r4) := H
   have A6 := am A60
   clear A60
   simp only [Option.some.injEq, Prod.mk.injEq] at H
   obtain ⟨rfl, rfl, rfl, rfl⟩ := H
   go_enter Tryd.func20, Tryd.ntmps20
   try go_wp2_with (first | ((with_reducible refine gate_dst (N := 2) rfl ?_); refine box_event ?hg (N := 2) ?hd (cs := #[.int .i64 a0_0, .int .i64 a0_1]) (t := 34) ?hr ?_; (case hd => rfl); (case hg => rfl); (case hr => first | (go_simp; done) | (go_simp; rfl)); intro gb117 hg w7 hbox hb; have n0_ := am (below_step pw hb); have n1_ := am (hbox); have n2_ := am ((by rw [hg]; exact (below_size pw) : w.heap.size ≤ gb117)); have n3_ := am ((by rw [hg]; exact (below_size pw) : w.heap.size ≤ gb117)); clear HB; have HB := n0_; have BK117 := n1_; have GW117 := n2_; have GE117 := n3_; clear n0_ n1_ n2_ n3_; clear hb hbox hg) | ((with_reducible refine gate_dst (N := 3) rfl ?_); refine box_event ?hg (N := 3) ?hd (cs := #[.int .i64 a1_0, .int .i64 a1_1]) (t := 34) ?hr ?_; (case hd => rfl); (case hg => rfl); (case hr => first | (go_simp; done) | (go_simp; rfl)); intro gb118 hg w8 hbox hb; have n0_ := bb BK117 hb; have n1_ := am (below_step pw hb); have n2_ := am (hbox); have n3_ := am ((by rw [hg]; exact (below_size pw) : w.heap.size ≤ gb118)); have n4_ := am ((by rw [hg]; exact (below_size pw) : w.heap.size ≤ gb118)); have n5_ := am ((by rw [hg]; exact Nat.ne_of_lt (blk_lt pk) : gb117 ≠ gb118)); have n6_ := am ((by rw [hg]; exact Nat.ne_of_gt (blk_lt pk) : gb118 ≠ gb117)); clear BK117; clear HB; have BK117 := n0_; have HB := n1_; have BK118 := n2_; have GW118 := n3_; have GE118 := n4_; have NB117_118 := n5_; have NB118_117 := n6_; clear n0_ n1_ n2_ n3_ n4_ n5_ n6_; clear hb hbox hg) | ((with_reducible refine gate_dst (N := 4) rfl ?_); refine box_event ?hg (N := 4) ?hd (cs := #[.int .i64 0, .int .i64 0]) (t := 34) ?hr ?_; (case hd => rfl); (case hg => rfl); (case hr => first | (go_simp; done) | (go_simp; rfl)); intro gb119 hg w9 hbox hb; have n0_ := bb BK117 hb; have n1_ := bb BK118 hb; have n2_ := am (below_step pw hb); have n3_ := am (hbox); have n4_ := am ((by rw [hg]; exact (below_size pw) : w.heap.size ≤ gb119)); have n5_ := am ((by rw [hg]; exact (below_size pw) : w.heap.size ≤ gb119)); have n6_ := am ((by rw [hg]; exact Nat.ne_of_lt (blk_lt pk) : gb117 ≠ gb119)); have n7_ := am ((by rw [hg]; exact Nat.ne_of_gt (blk_lt pk) : gb119 ≠ gb117)); have n8_ := am ((by rw [hg]; exact Nat.ne_of_lt (blk_lt pk) : gb118 ≠ gb119)); have n9_ := am ((by rw [hg]; exact Nat.ne_of_gt (blk_lt pk) : gb119 ≠ gb118)); clear BK117; clear BK118; clear HB; have BK117 := n0_; have BK118 := n1_; have HB := n2_; have BK119 := n3_; have GW119 := n4_; have GE119 := n5_; have NB117_119 := n6_; have NB119_117 := n7_; have NB118_119 := n8_; have NB119_118 := n9_; clear n0_ n1_ n2_ n3_ n4_ n5_ n6_ n7_ n8_ n9_; clear hb hbox hg; have hnb10 := NB117_118.out; have hnc10 := NB118_117.out; have hnb11 := NB117_119.out; have hnc11 := NB119_117.out; have hcz12_0 : w9.cell? ⟨gb117, 0, none⟩ = some (.int .i64 a0_0) := bc BK117 0; have hcz12_1 : w9.cell? ⟨gb117, 1, none⟩ = some (.int .i64 a0_1) := bc BK117 1; have hfz12_0 := blk_frozen BK117.out 0; have hfz12_1 := blk_frozen BK117.out 1; have hnb13 := NB118_119.out; have hnc13 := NB119_118.out; have hcz14_0 : w9.cell? ⟨gb118, 0, none⟩ = some (.int .i64 a1_0) := bc BK118 0; have hcz14_1 : w9.cell? ⟨gb118, 1, none⟩ = some (.int .i64 a1_1) := bc BK118 1; have hfz14_0 := blk_frozen BK118.out 0; have hfz14_1 := blk_frozen BK118.out 1) | ((with_reducible refine gate_callee (f := 56) rfl ?_); refine goesL_ (some 13) rfl rfl Tryd.func56 kk rfl #[.agg #[.int .i64 a0_0, .int .i64 a0_1], .agg #[.int .i64 a1_0, .int .i64 a1_1]] rfl (by (try simp only [List.map_toArray, List.map_cons, List.map_nil]); first | done | rfl | (simp only [List.length_drop, List.length_take]; rfl)) ?_; (with_reducible refine (congr_two.calls k a0_0 a0_1 a1_0 a1_1 none _ A3.out (am (ErrAt.below hE2.out pw)).out (am (ErrAt.below hE3.out pw)).out).mono ?_); rintro e w15 ⟨rfl, hb⟩; refine ⟨_, rfl, ?_⟩; have n0_ := bb BK117 hb; have n1_ := bb BK118 hb; have n2_ := bb BK119 hb; have n3_ := am (below_step pw hb); clear BK117; clear BK118; clear BK119; clear HB; have BK117 := n0_; have BK118 := n1_; have BK119 := n2_; have HB := n3_; clear n0_ n1_ n2_ n3_; (try clear hb); (try clear hb2); (try clear hk); (try clear hi); (try simp only [errW_none, errW_some]); have hcz16_0 : w15.cell? ⟨gb117, 0, none⟩ = some (.int .i64 a0_0) := bc BK117 0; have hcz16_1 : w15.cell? ⟨gb117, 1, none⟩ = some (.int .i64 a0_1) := bc BK117 1; have hfz16_0 := blk_frozen BK117.out 0; have hfz16_1 := blk_frozen BK117.out 1))
   have n0_ := am (blk_drew BK117.out)
   have n1_ := am (blk_drew BK118.out)
   have n2_ := am (blk_drew BK119.out)
   have n3_ := am (below_drew1 HB.out)
   clear BK117 BK118 BK119 HB
   revert n0_ n1_ n2_ n3_
   intro BK117 BK118 BK119 HB
   refine start_ (n := 12) (S := fun w' => w'.cell? ⟨gb117, 0, none⟩ = some (.int .i64 a0_0) ∧ w'.cell? ⟨gb117, 1, none⟩ = some (.int .i64 a0_1) ∧ w'.cell? ⟨gb118, 0, none⟩ = some (.int .i64 a1_0) ∧ w'.cell? ⟨gb118, 1, none⟩ = some (.int .i64 a1_1)) (ds := []) #[false, false, false, false, false, false, false, false, false, false, false, false] kk rfl rfl ⟨bc BK117 0, bc BK117 1, bc BK118 0, bc BK118 1⟩ (fun hHeld => ?_); refine with_tabW congr_Meet.tab5 congr_Meet.bits5 (fun HT_ HW_ => ?_)
   generalize w15.drew = w17 at BK117 BK118 BK119 HB hHeld ⊢
   refine pure_ (i := 2) (N := some 23) (v := ?_) (a' := ?_) #[false, false, true, false, false, false, false, false, false, false, false, false] rfl rfl (any_of HT_.out kk) (fun _ _ _ h => h) (Or.inl ⟨by rfl, ?_⟩) ?_ ?_
   rotate_left
   ·intro w'
    go_simp
    with_reducible rfl
   rotate_left
   ·simp only [Act.put, List.setIfInBounds_toArray, List.set_cons_zero, List.set_cons_succ, i64_w, i32_w]
    rfl
   refine take_ (i := 0) (N := some 21) (v := ?_) (a' := ?_) #[true, false, true, false, false, false, false, false, false, false, false, false] rfl rfl (take_ofW HT_.out HW_.out kk) (fun _ _ _ h => h) (Or.inl ⟨by rfl, ?_⟩) hHeld ?_ ?_
   rotate_left
   ·rintro w' ⟨s0, s1, s2, s3⟩
    go_simp
    with_reducible rfl
   rotate_left
   ·simp only [Act.put, List.setIfInBounds_toArray, List.set_cons_zero, List.set_cons_succ, i64_w, i32_w]
    rfl
   refine take_ (i := 1) (N := some 22) (v := ?_) (a' := ?_) #[true, true, true, false, false, false, false, false, false, false, false, false] rfl rfl (take_ofW HT_.out HW_.out kk) (fun _ _ _ h => h) (Or.inl ⟨by rfl, ?_⟩) hHeld ?_ ?_
   rotate_left
   ·rintro w' ⟨s0, s1, s2, s3⟩
    go_simp
    with_reducible rfl
   rotate_left
   ·simp only [Act.put, List.setIfInBounds_toArray, List.set_cons_zero, List.set_cons_succ, i64_w, i32_w]
    rfl
   refine take_ (i := 3) (N := some 24) (v := ?_) (a' := ?_) #[true, true, true, true, false, false, false, false, false, false, false, false] rfl rfl (take_ofW HT_.out HW_.out kk) (fun _ _ _ h => h) (Or.inl ⟨by rfl, ?_⟩) hHeld ?_ ?_
   rotate_left
   ·rintro w' ⟨s0, s1, s2, s3⟩
    go_simp
    with_reducible rfl
   rotate_left
   ·simp only [Act.put, List.setIfInBounds_toArray, List.set_cons_zero, List.set_cons_succ, i64_w, i32_w]
    rfl
   refine one_ (i := 4) (N := some 25) #[true, true, true, true, true, false, false, false, false, false, false, false] rfl rfl (one_of HT_.out kk) (by decide) (fun K hK => ?_)
   refine goes_ Tryd.func30 kk rfl #[.agg #[.int .i64 a1_0, .int .i64 a1_1], .int .i64 a0_0] (by rfl) rfl rfl (by (try simp only [List.map_toArray, List.map_cons, List.map_nil]); first | done | rfl | (simp only [List.length_drop, List.length_take]; rfl)) ?_
   with_reducible refine (congr_Has.calls k a1_0 a1_1 a0_0 t122 _ A5.out (am (ErrAt.below hE2.out pw)).out (am (ErrAt.below hE3.out pw)).out).mono ?_
   rintro e w18 ⟨rfl, hb⟩
   refine ⟨_, rfl, ?_⟩
   have n0_ := bb BK117 hb
   have n1_ := bb BK118 hb
   have n2_ := bb BK119 hb
   have n3_ := am (below_step pw hb)
   clear BK117 BK118 BK119 HB
   revert n0_ n1_ n2_ n3_
   intro BK117 BK118 BK119 HB
   (try clear hb)
   (try clear hb2)
   (try clear hk)
   (try clear hi)
   refine hK.out _ _ ⟨bc BK117 0, bc BK117 1, bc BK118 0, bc BK118 1⟩ (fun hHeld => ?_)
   clear hK K
   refine norm_ (a' := ?_) ?_ ?_
   rotate_left
   ·show Act.put _ (some 25) _ = _
    simp only [Act.put, List.setIfInBounds_toArray, List.set_cons_zero, List.set_cons_succ, i64_w, i32_w]
    rfl
   refine one_ (i := 5) (N := some 26) #[true, true, true, true, true, true, false, false, false, false, false, false] rfl rfl (one_of HT_.out kk) (by decide) (fun K hK => ?_)
   refine goes_ Tryd.func57 kk rfl #[.agg #[.int .i64 a0_0, .int .i64 a0_1], .bool t122] (by rfl) rfl rfl (by (try simp only [List.map_toArray, List.map_cons, List.map_nil]); first | done | rfl | (simp only [List.length_drop, List.length_take]; rfl)) ?_
   with_reducible refine (congr_one.calls a0_0 a0_1 t122 t123 t124 t125 t126 _ A6.out).mono ?_
   rintro e w19 ⟨rfl, hb⟩
   refine ⟨_, rfl, ?_⟩
   have n0_ := bb BK117 hb
   have n1_ := bb BK118 hb
   have n2_ := bb BK119 hb
   have n3_ := am (below_step pw hb)
   clear BK117 BK118 BK119 HB
   revert n0_ n1_ n2_ n3_
   intro BK117 BK118 BK119 HB
   (try clear hb)
   (try clear hb2)
   (try clear hk)
   (try clear hi)
   (try simp only [errW_none, errW_some])
   refine hK.out _ _ ⟨bc BK117 0, bc BK117 1, bc BK118 0, bc BK118 1⟩ (fun hHeld => ?_)
   clear hK K
   refine norm_ (a' := ?_) ?_ ?_
   rotate_left
   ·show Act.put _ (some 26) _ = _
    simp only [Act.put, List.setIfInBounds_toArray, List.set_cons_zero, List.set_cons_succ, i64_w, i32_w]
    rfl
   refine pure_ (i := 6) (N := some 27) (v := ?_) (a' := ?_) #[true, true, true, true, true, true, true, false, false, false, false, false] rfl rfl (any_of HT_.out kk) (fun _ _ _ h => h) (Or.inl ⟨by rfl, ?_⟩) ?_ ?_
   rotate_left
   ·intro w'
    go_simp
    with_reducible rfl
   rotate_left
   ·simp only [Act.put, List.setIfInBounds_toArray, List.set_cons_zero, List.set_cons_succ, i64_w, i32_w]
    rfl
   refine pure_ (i := 7) (N := some 28) (v := ?_) (a' := ?_) #[true, true, true, true, true, true, true, true, false, false, false, false] rfl rfl (any_of HT_.out kk) (fun _ _ _ h => h) (Or.inl ⟨by rfl, ?_⟩) ?_ ?_
   rotate_left
   ·intro w'
    go_simp
    with_reducible rfl
   rotate_left
   ·simp only [Act.put, List.setIfInBounds_toArray, List.set_cons_zero, List.set_cons_succ, i64_w, i32_w]
    rfl
   refine pure_ (i := 8) (N := some 29) (v := ?_) (a' := ?_) #[true, true, true, true, true, true, true, true, true, false, false, false] rfl rfl (any_of HT_.out kk) (fun _ _ _ h => h) (Or.inl ⟨by rfl, ?_⟩) ?_ ?_
   rotate_left
   ·intro w'
    go_simp
    with_reducible rfl
   rotate_left
   ·simp only [Act.put, List.setIfInBounds_toArray, List.set_cons_zero, List.set_cons_succ, i64_w, i32_w]
    rfl
   refine one_ (i := 9) (N := none) #[true, true, true, true, true, true, true, true, true, true, false, false] rfl rfl (one_of HT_.out kk) (by decide) (fun K hK => ?_)
   have hs20 : w19.cell? ⟨gb119, 0, none⟩ = some (.int .i64 0) := bc BK119 0
   have hfs20 := blk_frozen BK119.out 0
   have hns20_0 := NB117_119.out
   have hns20_1 := NB118_119.out
   have hms20_0 := NB119_117.out
   have hms20_1 := NB119_118.out
   have hs21 : w19.cell? ⟨gb119, 1, none⟩ = some (.int .i64 0) := bc BK119 1
   have hfs21 := blk_frozen BK119.out 1
   have hns21_0 := NB117_119.out
   have hns21_1 := NB118_119.out
   have hms21_0 := NB119_117.out
   have hms21_1 := NB119_118.out
   refine skip_ (w1 := ?_) (by rfl) rfl ?_ ?_
   rotate_left
   ·go_simp
    rfl
   refine hK.out _ _ ⟨((cell_far (p := ⟨gb119, _, none⟩) NB117_119.out _).trans (((cell_far (p := ⟨gb119, _, none⟩) NB117_119.out _).trans (hHeld.1)))), ((cell_far (p := ⟨gb119, _, none⟩) NB117_119.out _).trans (((cell_far (p := ⟨gb119, _, none⟩) NB117_119.out _).trans (hHeld.2.1)))), ((cell_far (p := ⟨gb119, _, none⟩) NB118_119.out _).trans (((cell_far (p := ⟨gb119, _, none⟩) NB118_119.out _).trans (hHeld.2.2.1)))), ((cell_far (p := ⟨gb119, _, none⟩) NB118_119.out _).trans (((cell_far (p := ⟨gb119, _, none⟩) NB118_119.out _).trans (hHeld.2.2.2))))⟩ (fun hHeld => ?_)
   clear hK K
   refine pure_ (i := 10) (N := some 5) (v := ?_) (a' := ?_) #[true, true, true, true, true, true, true, true, true, true, true, false] rfl rfl (any_of HT_.out kk) (fun _ _ _ h => h) (Or.inl ⟨by rfl, ?_⟩) ?_ ?_
   rotate_left
   ·intro w'
    go_simp
    with_reducible rfl
   rotate_left
   ·simp only [Act.put, List.setIfInBounds_toArray, List.set_cons_zero, List.set_cons_succ, i64_w, i32_w]
    rfl
   refine pure_ (i := 11) (N := some 6) (v := ?_) (a' := ?_) #[true, true, true, true, true, true, true, true, true, true, true, true] rfl rfl (any_of HT_.out kk) (fun _ _ _ h => h) (Or.inl ⟨by rfl, ?_⟩) ?_ ?_
   rotate_left
   ·intro w'
    go_simp
    with_reducible rfl
   rotate_left
   ·simp only [Act.put, List.setIfInBounds_toArray, List.set_cons_zero, List.set_cons_succ, i64_w, i32_w]
    rfl
   refine done_ (done_of HT_.out kk) ?_
   try go_wp2
   refine bodyPost_ret (results_ctt rfl _ _ gb119 34 #[.int .i64 t123, .int .i64 t124] (0, 0) _ rfl (by (with_reducible repeat (first | refine blk_drewN ?_ _ | refine blk_drew ?_ | refine blk_alloc ?_ _)); refine blk_put (cs := #[.int .i64 t123, .int .i64 0]) ?_ 1 _ rfl; (with_reducible repeat (first | refine blk_drewN ?_ _ | refine blk_drew ?_ | refine blk_alloc ?_ _)); refine blk_put (cs := #[.int .i64 0, .int .i64 0]) ?_ 0 _ rfl; (with_reducible repeat (first | refine blk_drewN ?_ _ | refine blk_drew ?_ | refine blk_alloc ?_ _)); exact BK119.out) Tryd.underlying34 rfl kk) rfl ?_
   exact ⟨pe, pw⟩
  rw [if_neg c4] at H
  have c4b0 : (a0_1 == 0) = false := beq_eq_false_iff_ne.mpr c4
  have c4b1 : (a0_1 != 0) = true := bne_iff_ne.mpr c4
  by_cases c22 : a1_1 = 0
  ·rw [if_pos c22] at H
   have c22b0 : (a1_1 == 0) = true := beq_iff_eq.mpr c22
   have c22b1 : (a1_1 != 0) = false := bne_eq_false_iff_eq.mpr c22
   clear c22
   replace H := Option.bind_eq_some_iff.mp H
   obtain ⟨t127, A230, H⟩ := H
   replace H : ((congr_one.f a1_0 a1_1 t127).bind fun bt128 => (some (bt128.1, bt128.2.1, bt128.2.2.1, bt128.2.2.2))) = some (r1, r2, r3, r4) := H
   have A23 := am A230
   clear A230
   replace H := Option.bind_eq_some_iff.mp H
   obtain ⟨⟨t128, t129, t130, t131⟩, A240, H⟩ := H
   replace H : (some (t128, t129, t130, t131)) = some (r1, r2, r3, r4) := H
   have A24 := am A240
   clear A240
   simp only [Option.some.injEq, Prod.mk.injEq] at H
   obtain ⟨rfl, rfl, rfl, rfl⟩ := H
   go_enter Tryd.func20, Tryd.ntmps20
   try go_wp2_with (first | ((with_reducible refine gate_dst (N := 2) rfl ?_); refine box_event ?hg (N := 2) ?hd (cs := #[.int .i64 a0_0, .int .i64 a0_1]) (t := 34) ?hr ?_; (case hd => rfl); (case hg => rfl); (case hr => first | (go_simp; done) | (go_simp; rfl)); intro gb117 hg w25 hbox hb; have n0_ := am (below_step pw hb); have n1_ := am (hbox); have n2_ := am ((by rw [hg]; exact (below_size pw) : w.heap.size ≤ gb117)); have n3_ := am ((by rw [hg]; exact (below_size pw) : w.heap.size ≤ gb117)); clear HB; have HB := n0_; have BK117 := n1_; have GW117 := n2_; have GE117 := n3_; clear n0_ n1_ n2_ n3_; clear hb hbox hg) | ((with_reducible refine gate_dst (N := 3) rfl ?_); refine box_event ?hg (N := 3) ?hd (cs := #[.int .i64 a1_0, .int .i64 a1_1]) (t := 34) ?hr ?_; (case hd => rfl); (case hg => rfl); (case hr => first | (go_simp; done) | (go_simp; rfl)); intro gb118 hg w26 hbox hb; have n0_ := bb BK117 hb; have n1_ := am (below_step pw hb); have n2_ := am (hbox); have n3_ := am ((by rw [hg]; exact (below_size pw) : w.heap.size ≤ gb118)); have n4_ := am ((by rw [hg]; exact (below_size pw) : w.heap.size ≤ gb118)); have n5_ := am ((by rw [hg]; exact Nat.ne_of_lt (blk_lt pk) : gb117 ≠ gb118)); have n6_ := am ((by rw [hg]; exact Nat.ne_of_gt (blk_lt pk) : gb118 ≠ gb117)); clear BK117; clear HB; have BK117 := n0_; have HB := n1_; have BK118 := n2_; have GW118 := n3_; have GE118 := n4_; have NB117_118 := n5_; have NB118_117 := n6_; clear n0_ n1_ n2_ n3_ n4_ n5_ n6_; clear hb hbox hg) | ((with_reducible refine gate_dst (N := 4) rfl ?_); refine box_event ?hg (N := 4) ?hd (cs := #[.int .i64 0, .int .i64 0]) (t := 34) ?hr ?_; (case hd => rfl); (case hg => rfl); (case hr => first | (go_simp; done) | (go_simp; rfl)); intro gb119 hg w27 hbox hb; have n0_ := bb BK117 hb; have n1_ := bb BK118 hb; have n2_ := am (below_step pw hb); have n3_ := am (hbox); have n4_ := am ((by rw [hg]; exact (below_size pw) : w.heap.size ≤ gb119)); have n5_ := am ((by rw [hg]; exact (below_size pw) : w.heap.size ≤ gb119)); have n6_ := am ((by rw [hg]; exact Nat.ne_of_lt (blk_lt pk) : gb117 ≠ gb119)); have n7_ := am ((by rw [hg]; exact Nat.ne_of_gt (blk_lt pk) : gb119 ≠ gb117)); have n8_ := am ((by rw [hg]; exact Nat.ne_of_lt (blk_lt pk) : gb118 ≠ gb119)); have n9_ := am ((by rw [hg]; exact Nat.ne_of_gt (blk_lt pk) : gb119 ≠ gb118)); clear BK117; clear BK118; clear HB; have BK117 := n0_; have BK118 := n1_; have HB := n2_; have BK119 := n3_; have GW119 := n4_; have GE119 := n5_; have NB117_119 := n6_; have NB119_117 := n7_; have NB118_119 := n8_; have NB119_118 := n9_; clear n0_ n1_ n2_ n3_ n4_ n5_ n6_ n7_ n8_ n9_; clear hb hbox hg; have hnb28 := NB117_118.out; have hnc28 := NB118_117.out; have hnb29 := NB117_119.out; have hnc29 := NB119_117.out; have hcz30_0 : w27.cell? ⟨gb117, 0, none⟩ = some (.int .i64 a0_0) := bc BK117 0; have hcz30_1 : w27.cell? ⟨gb117, 1, none⟩ = some (.int .i64 a0_1) := bc BK117 1; have hfz30_0 := blk_frozen BK117.out 0; have hfz30_1 := blk_frozen BK117.out 1; have hnb31 := NB118_119.out; have hnc31 := NB119_118.out; have hcz32_0 : w27.cell? ⟨gb118, 0, none⟩ = some (.int .i64 a1_0) := bc BK118 0; have hcz32_1 : w27.cell? ⟨gb118, 1, none⟩ = some (.int .i64 a1_1) := bc BK118 1; have hfz32_0 := blk_frozen BK118.out 0; have hfz32_1 := blk_frozen BK118.out 1) | ((with_reducible refine gate_callee (f := 56) rfl ?_); refine goesL_ (some 13) rfl rfl Tryd.func56 kk rfl #[.agg #[.int .i64 a0_0, .int .i64 a0_1], .agg #[.int .i64 a1_0, .int .i64 a1_1]] rfl (by (try simp only [List.map_toArray, List.map_cons, List.map_nil]); first | done | rfl | (simp only [List.length_drop, List.length_take]; rfl)) ?_; (with_reducible refine (congr_two.calls k a0_0 a0_1 a1_0 a1_1 none _ A3.out (am (ErrAt.below hE2.out pw)).out (am (ErrAt.below hE3.out pw)).out).mono ?_); rintro e w33 ⟨rfl, hb⟩; refine ⟨_, rfl, ?_⟩; have n0_ := bb BK117 hb; have n1_ := bb BK118 hb; have n2_ := bb BK119 hb; have n3_ := am (below_step pw hb); clear BK117; clear BK118; clear BK119; clear HB; have BK117 := n0_; have BK118 := n1_; have BK119 := n2_; have HB := n3_; clear n0_ n1_ n2_ n3_; (try clear hb); (try clear hb2); (try clear hk); (try clear hi); (try simp only [errW_none, errW_some]); have hcz34_0 : w33.cell? ⟨gb117, 0, none⟩ = some (.int .i64 a0_0) := bc BK117 0; have hcz34_1 : w33.cell? ⟨gb117, 1, none⟩ = some (.int .i64 a0_1) := bc BK117 1; have hfz34_0 := blk_frozen BK117.out 0; have hfz34_1 := blk_frozen BK117.out 1; have hcz35_0 : w33.cell? ⟨gb118, 0, none⟩ = some (.int .i64 a1_0) := bc BK118 0; have hcz35_1 : w33.cell? ⟨gb118, 1, none⟩ = some (.int .i64 a1_1) := bc BK118 1; have hfz35_0 := blk_frozen BK118.out 0; have hfz35_1 := blk_frozen BK118.out 1))
   have n0_ := am (blk_drew BK117.out)
   have n1_ := am (blk_drew BK118.out)
   have n2_ := am (blk_drew BK119.out)
   have n3_ := am (below_drew1 HB.out)
   clear BK117 BK118 BK119 HB
   revert n0_ n1_ n2_ n3_
   intro BK117 BK118 BK119 HB
   refine start_ (n := 12) (S := fun w' => w'.cell? ⟨gb118, 0, none⟩ = some (.int .i64 a1_0) ∧ w'.cell? ⟨gb118, 1, none⟩ = some (.int .i64 a1_1) ∧ w'.cell? ⟨gb117, 0, none⟩ = some (.int .i64 a0_0) ∧ w'.cell? ⟨gb117, 1, none⟩ = some (.int .i64 a0_1)) (ds := []) #[false, false, false, false, false, false, false, false, false, false, false, false] kk rfl rfl ⟨bc BK118 0, bc BK118 1, bc BK117 0, bc BK117 1⟩ (fun hHeld => ?_); refine with_tabW congr_Meet.tab7 congr_Meet.bits7 (fun HT_ HW_ => ?_)
   generalize w33.drew = w36 at BK117 BK118 BK119 HB hHeld ⊢
   refine pure_ (i := 2) (N := some 35) (v := ?_) (a' := ?_) #[false, false, true, false, false, false, false, false, false, false, false, false] rfl rfl (any_of HT_.out kk) (fun _ _ _ h => h) (Or.inl ⟨by rfl, ?_⟩) ?_ ?_
   rotate_left
   ·intro w'
    go_simp
    with_reducible rfl
   rotate_left
   ·simp only [Act.put, List.setIfInBounds_toArray, List.set_cons_zero, List.set_cons_succ, i64_w, i32_w]
    rfl
   refine take_ (i := 0) (N := some 33) (v := ?_) (a' := ?_) #[true, false, true, false, false, false, false, false, false, false, false, false] rfl rfl (take_ofW HT_.out HW_.out kk) (fun _ _ _ h => h) (Or.inl ⟨by rfl, ?_⟩) hHeld ?_ ?_
   rotate_left
   ·rintro w' ⟨s0, s1, s2, s3⟩
    go_simp
    with_reducible rfl
   rotate_left
   ·simp only [Act.put, List.setIfInBounds_toArray, List.set_cons_zero, List.set_cons_succ, i64_w, i32_w]
    rfl
   refine take_ (i := 1) (N := some 34) (v := ?_) (a' := ?_) #[true, true, true, false, false, false, false, false, false, false, false, false] rfl rfl (take_ofW HT_.out HW_.out kk) (fun _ _ _ h => h) (Or.inl ⟨by rfl, ?_⟩) hHeld ?_ ?_
   rotate_left
   ·rintro w' ⟨s0, s1, s2, s3⟩
    go_simp
    with_reducible rfl
   rotate_left
   ·simp only [Act.put, List.setIfInBounds_toArray, List.set_cons_zero, List.set_cons_succ, i64_w, i32_w]
    rfl
   refine take_ (i := 3) (N := some 36) (v := ?_) (a' := ?_) #[true, true, true, true, false, false, false, false, false, false, false, false] rfl rfl (take_ofW HT_.out HW_.out kk) (fun _ _ _ h => h) (Or.inl ⟨by rfl, ?_⟩) hHeld ?_ ?_
   rotate_left
   ·rintro w' ⟨s0, s1, s2, s3⟩
    go_simp
    with_reducible rfl
   rotate_left
   ·simp only [Act.put, List.setIfInBounds_toArray, List.set_cons_zero, List.set_cons_succ, i64_w, i32_w]
    rfl
   refine one_ (i := 4) (N := some 37) #[true, true, true, true, true, false, false, false, false, false, false, false] rfl rfl (one_of HT_.out kk) (by decide) (fun K hK => ?_)
   refine goes_ Tryd.func30 kk rfl #[.agg #[.int .i64 a0_0, .int .i64 a0_1], .int .i64 a1_0] (by rfl) rfl rfl (by (try simp only [List.map_toArray, List.map_cons, List.map_nil]); first | done | rfl | (simp only [List.length_drop, List.length_take]; rfl)) ?_
   with_reducible refine (congr_Has.calls k a0_0 a0_1 a1_0 t127 _ A23.out (am (ErrAt.below hE2.out pw)).out (am (ErrAt.below hE3.out pw)).out).mono ?_
   rintro e w37 ⟨rfl, hb⟩
   refine ⟨_, rfl, ?_⟩
   have n0_ := bb BK117 hb
   have n1_ := bb BK118 hb
   have n2_ := bb BK119 hb
   have n3_ := am (below_step pw hb)
   clear BK117 BK118 BK119 HB
   revert n0_ n1_ n2_ n3_
   intro BK117 BK118 BK119 HB
   (try clear hb)
   (try clear hb2)
   (try clear hk)
   (try clear hi)
   refine hK.out _ _ ⟨bc BK118 0, bc BK118 1, bc BK117 0, bc BK117 1⟩ (fun hHeld => ?_)
   clear hK K
   refine norm_ (a' := ?_) ?_ ?_
   rotate_left
   ·show Act.put _ (some 37) _ = _
    simp only [Act.put, List.setIfInBounds_toArray, List.set_cons_zero, List.set_cons_succ, i64_w, i32_w]
    rfl
   refine one_ (i := 5) (N := some 38) #[true, true, true, true, true, true, false, false, false, false, false, false] rfl rfl (one_of HT_.out kk) (by decide) (fun K hK => ?_)
   refine goes_ Tryd.func57 kk rfl #[.agg #[.int .i64 a1_0, .int .i64 a1_1], .bool t127] (by rfl) rfl rfl (by (try simp only [List.map_toArray, List.map_cons, List.map_nil]); first | done | rfl | (simp only [List.length_drop, List.length_take]; rfl)) ?_
   with_reducible refine (congr_one.calls a1_0 a1_1 t127 t128 t129 t130 t131 _ A24.out).mono ?_
   rintro e w38 ⟨rfl, hb⟩
   refine ⟨_, rfl, ?_⟩
   have n0_ := bb BK117 hb
   have n1_ := bb BK118 hb
   have n2_ := bb BK119 hb
   have n3_ := am (below_step pw hb)
   clear BK117 BK118 BK119 HB
   revert n0_ n1_ n2_ n3_
   intro BK117 BK118 BK119 HB
   (try clear hb)
   (try clear hb2)
   (try clear hk)
   (try clear hi)
   (try simp only [errW_none, errW_some])
   refine hK.out _ _ ⟨bc BK118 0, bc BK118 1, bc BK117 0, bc BK117 1⟩ (fun hHeld => ?_)
   clear hK K
   refine norm_ (a' := ?_) ?_ ?_
   rotate_left
   ·show Act.put _ (some 38) _ = _
    simp only [Act.put, List.setIfInBounds_toArray, List.set_cons_zero, List.set_cons_succ, i64_w, i32_w]
    rfl
   refine pure_ (i := 6) (N := some 39) (v := ?_) (a' := ?_) #[true, true, true, true, true, true, true, false, false, false, false, false] rfl rfl (any_of HT_.out kk) (fun _ _ _ h => h) (Or.inl ⟨by rfl, ?_⟩) ?_ ?_
   rotate_left
   ·intro w'
    go_simp
    with_reducible rfl
   rotate_left
   ·simp only [Act.put, List.setIfInBounds_toArray, List.set_cons_zero, List.set_cons_succ, i64_w, i32_w]
    rfl
   refine pure_ (i := 7) (N := some 40) (v := ?_) (a' := ?_) #[true, true, true, true, true, true, true, true, false, false, false, false] rfl rfl (any_of HT_.out kk) (fun _ _ _ h => h) (Or.inl ⟨by rfl, ?_⟩) ?_ ?_
   rotate_left
   ·intro w'
    go_simp
    with_reducible rfl
   rotate_left
   ·simp only [Act.put, List.setIfInBounds_toArray, List.set_cons_zero, List.set_cons_succ, i64_w, i32_w]
    rfl
   refine pure_ (i := 8) (N := some 41) (v := ?_) (a' := ?_) #[true, true, true, true, true, true, true, true, true, false, false, false] rfl rfl (any_of HT_.out kk) (fun _ _ _ h => h) (Or.inl ⟨by rfl, ?_⟩) ?_ ?_
   rotate_left
   ·intro w'
    go_simp
    with_reducible rfl
   rotate_left
   ·simp only [Act.put, List.setIfInBounds_toArray, List.set_cons_zero, List.set_cons_succ, i64_w, i32_w]
    rfl
   refine one_ (i := 9) (N := none) #[true, true, true, true, true, true, true, true, true, true, false, false] rfl rfl (one_of HT_.out kk) (by decide) (fun K hK => ?_)
   have hs39 : w38.cell? ⟨gb119, 0, none⟩ = some (.int .i64 0) := bc BK119 0
   have hfs39 := blk_frozen BK119.out 0
   have hns39_0 := NB117_119.out
   have hns39_1 := NB118_119.out
   have hms39_0 := NB119_117.out
   have hms39_1 := NB119_118.out
   have hs40 : w38.cell? ⟨gb119, 1, none⟩ = some (.int .i64 0) := bc BK119 1
   have hfs40 := blk_frozen BK119.out 1
   have hns40_0 := NB117_119.out
   have hns40_1 := NB118_119.out
   have hms40_0 := NB119_117.out
   have hms40_1 := NB119_118.out
   refine skip_ (w1 := ?_) (by rfl) rfl ?_ ?_
   rotate_left
   ·go_simp
    rfl
   refine hK.out _ _ ⟨((cell_far (p := ⟨gb119, _, none⟩) NB118_119.out _).trans (((cell_far (p := ⟨gb119, _, none⟩) NB118_119.out _).trans (hHeld.1)))), ((cell_far (p := ⟨gb119, _, none⟩) NB118_119.out _).trans (((cell_far (p := ⟨gb119, _, none⟩) NB118_119.out _).trans (hHeld.2.1)))), ((cell_far (p := ⟨gb119, _, none⟩) NB117_119.out _).trans (((cell_far (p := ⟨gb119, _, none⟩) NB117_119.out _).trans (hHeld.2.2.1)))), ((cell_far (p := ⟨gb119, _, none⟩) NB117_119.out _).trans (((cell_far (p := ⟨gb119, _, none⟩) NB117_119.out _).trans (hHeld.2.2.2))))⟩ (fun hHeld => ?_)
   clear hK K
   refine pure_ (i := 10) (N := some 5) (v := ?_) (a' := ?_) #[true, true, true, true, true, true, true, true, true, true, true, false] rfl rfl (any_of HT_.out kk) (fun _ _ _ h => h) (Or.inl ⟨by rfl, ?_⟩) ?_ ?_
   rotate_left
   ·intro w'
    go_simp
    with_reducible rfl
   rotate_left
   ·simp only [Act.put, List.setIfInBounds_toArray, List.set_cons_zero, List.set_cons_succ, i64_w, i32_w]
    rfl
   refine pure_ (i := 11) (N := some 6) (v := ?_) (a' := ?_) #[true, true, true, true, true, true, true, true, true, true, true, true] rfl rfl (any_of HT_.out kk) (fun _ _ _ h => h) (Or.inl ⟨by rfl, ?_⟩) ?_ ?_
   rotate_left
   ·intro w'
    go_simp
    with_reducible rfl
   rotate_left
   ·simp only [Act.put, List.setIfInBounds_toArray, List.set_cons_zero, List.set_cons_succ, i64_w, i32_w]
    rfl
   refine done_ (done_of HT_.out kk) ?_
   try go_wp2
   refine bodyPost_ret (results_ctt rfl _ _ gb119 34 #[.int .i64 t128, .int .i64 t129] (0, 0) _ rfl (by (with_reducible repeat (first | refine blk_drewN ?_ _ | refine blk_drew ?_ | refine blk_alloc ?_ _)); refine blk_put (cs := #[.int .i64 t128, .int .i64 0]) ?_ 1 _ rfl; (with_reducible repeat (first | refine blk_drewN ?_ _ | refine blk_drew ?_ | refine blk_alloc ?_ _)); refine blk_put (cs := #[.int .i64 0, .int .i64 0]) ?_ 0 _ rfl; (with_reducible repeat (first | refine blk_drewN ?_ _ | refine blk_drew ?_ | refine blk_alloc ?_ _)); exact BK119.out) Tryd.underlying34 rfl kk) rfl ?_
   exact ⟨pe, pw⟩
  rw [if_neg c22] at H
  have c22b0 : (a1_1 == 0) = false := beq_eq_false_iff_ne.mpr c22
  have c22b1 : (a1_1 != 0) = true := bne_iff_ne.mpr c22
  obtain ⟨y132, hy132⟩ : ∃ y_ : List Int, y_ = (([a0_1, a1_1] : List Int)) := ⟨_, rfl⟩
  replace H : ((congr_gcd.f k y132).bind fun t135 => (if t135 = 0 then (none) else (if (Int.tmod (wrap64 (a0_0 - a1_0)) t135) = 0 then (if (wrap64 ((wrap64 (Int.tdiv a0_1 t135)) * a1_1)) > 1048576 then (some (a0_0, a0_1, true, none)) else (congr_Meet.l0 k (wrap64 ((wrap64 (Int.tdiv a0_1 t135)) * a1_1)) a0_0 a0_0 a0_1 a1_0 a1_1)) else (some (0, 0, false, none))))) = some (r1, r2, r3, r4) := by first | (rw [hy132]; with_reducible exact H) | (have H2_ := (Option.bind_some _ _).symm.trans H; rw [hy132]; with_reducible exact H2_) | (have H2_ := (Option.bind_some _ _).symm.trans H; with_reducible exact H2_) | with_reducible exact H | (rw [hy132]; exact H) | exact H
  have Ny132 := am hy132
  clear hy132
  replace H := Option.bind_eq_some_iff.mp H
  obtain ⟨t135, A410, H⟩ := H
  replace H : (if t135 = 0 then (none) else (if (Int.tmod (wrap64 (a0_0 - a1_0)) t135) = 0 then (if (wrap64 ((wrap64 (Int.tdiv a0_1 t135)) * a1_1)) > 1048576 then (some (a0_0, a0_1, true, none)) else (congr_Meet.l0 k (wrap64 ((wrap64 (Int.tdiv a0_1 t135)) * a1_1)) a0_0 a0_0 a0_1 a1_0 a1_1)) else (some (0, 0, false, none)))) = some (r1, r2, r3, r4) := H
  have A41 := am A410
  clear A410
  by_cases c42 : t135 = 0
  ·rw [if_pos c42] at H
   exact absurd H (by simp)
  rw [if_neg c42] at H
  have c42b0 : (t135 == 0) = false := beq_eq_false_iff_ne.mpr c42
  have c42b1 : (t135 != 0) = true := bne_iff_ne.mpr c42
  by_cases c43 : (Int.tmod (wrap64 (a0_0 - a1_0)) t135) = 0
  ·rw [if_pos c43] at H
   have c43b0 : ((Int.tmod (wrap64 (a0_0 - a1_0)) t135) == 0) = true := beq_iff_eq.mpr c43
   have c43b1 : ((Int.tmod (wrap64 (a0_0 - a1_0)) t135) != 0) = false := bne_eq_false_iff_eq.mpr c43
   clear c43
   by_cases c44 : (wrap64 ((wrap64 (Int.tdiv a0_1 t135)) * a1_1)) > 1048576
   ·rw [if_pos c44] at H
    have c44b0 : decide (1048576 < (wrap64 ((wrap64 (Int.tdiv a0_1 t135)) * a1_1))) = true := decide_eq_true c44
    clear c44
    simp only [Option.some.injEq, Prod.mk.injEq] at H
    obtain ⟨rfl, rfl, rfl, rfl⟩ := H
    go_enter Tryd.func20, Tryd.ntmps20
    try go_wp2_with (first | ((with_reducible refine gate_dst (N := 2) rfl ?_); refine box_event ?hg (N := 2) ?hd (cs := #[.int .i64 a0_0, .int .i64 a0_1]) (t := 34) ?hr ?_; (case hd => rfl); (case hg => rfl); (case hr => first | (go_simp; done) | (go_simp; rfl)); intro gb117 hg w45 hbox hb; have n0_ := am (below_step pw hb); have n1_ := am (hbox); have n2_ := am ((by rw [hg]; exact (below_size pw) : w.heap.size ≤ gb117)); have n3_ := am ((by rw [hg]; exact (below_size pw) : w.heap.size ≤ gb117)); clear HB; have HB := n0_; have BK117 := n1_; have GW117 := n2_; have GE117 := n3_; clear n0_ n1_ n2_ n3_; clear hb hbox hg) | ((with_reducible refine gate_dst (N := 3) rfl ?_); refine box_event ?hg (N := 3) ?hd (cs := #[.int .i64 a1_0, .int .i64 a1_1]) (t := 34) ?hr ?_; (case hd => rfl); (case hg => rfl); (case hr => first | (go_simp; done) | (go_simp; rfl)); intro gb118 hg w46 hbox hb; have n0_ := bb BK117 hb; have n1_ := am (below_step pw hb); have n2_ := am (hbox); have n3_ := am ((by rw [hg]; exact (below_size pw) : w.heap.size ≤ gb118)); have n4_ := am ((by rw [hg]; exact (below_size pw) : w.heap.size ≤ gb118)); have n5_ := am ((by rw [hg]; exact Nat.ne_of_lt (blk_lt pk) : gb117 ≠ gb118)); have n6_ := am ((by rw [hg]; exact Nat.ne_of_gt (blk_lt pk) : gb118 ≠ gb117)); clear BK117; clear HB; have BK117 := n0_; have HB := n1_; have BK118 := n2_; have GW118 := n3_; have GE118 := n4_; have NB117_118 := n5_; have NB118_117 := n6_; clear n0_ n1_ n2_ n3_ n4_ n5_ n6_; clear hb hbox hg) | ((with_reducible refine gate_dst (N := 4) rfl ?_); refine box_event ?hg (N := 4) ?hd (cs := #[.int .i64 0, .int .i64 0]) (t := 34) ?hr ?_; (case hd => rfl); (case hg => rfl); (case hr => first | (go_simp; done) | (go_simp; rfl)); intro gb119 hg w47 hbox hb; have n0_ := bb BK117 hb; have n1_ := bb BK118 hb; have n2_ := am (below_step pw hb); have n3_ := am (hbox); have n4_ := am ((by rw [hg]; exact (below_size pw) : w.heap.size ≤ gb119)); have n5_ := am ((by rw [hg]; exact (below_size pw) : w.heap.size ≤ gb119)); have n6_ := am ((by rw [hg]; exact Nat.ne_of_lt (blk_lt pk) : gb117 ≠ gb119)); have n7_ := am ((by rw [hg]; exact Nat.ne_of_gt (blk_lt pk) : gb119 ≠ gb117)); have n8_ := am ((by rw [hg]; exact Nat.ne_of_lt (blk_lt pk) : gb118 ≠ gb119)); have n9_ := am ((by rw [hg]; exact Nat.ne_of_gt (blk_lt pk) : gb119 ≠ gb118)); clear BK117; clear BK118; clear HB; have BK117 := n0_; have BK118 := n1_; have HB := n2_; have BK119 := n3_; have GW119 := n4_; have GE119 := n5_; have NB117_119 := n6_; have NB119_117 := n7_; have NB118_119 := n8_; have NB119_118 := n9_; clear n0_ n1_ n2_ n3_ n4_ n5_ n6_ n7_ n8_ n9_; clear hb hbox hg; have hnb48 := NB117_118.out; have hnc48 := NB118_117.out; have hnb49 := NB117_119.out; have hnc49 := NB119_117.out; have hcz50_0 : w47.cell? ⟨gb117, 0, none⟩ = some (.int .i64 a0_0) := bc BK117 0; have hcz50_1 : w47.cell? ⟨gb117, 1, none⟩ = some (.int .i64 a0_1) := bc BK117 1; have hfz50_0 := blk_frozen BK117.out 0; have hfz50_1 := blk_frozen BK117.out 1; have hnb51 := NB118_119.out; have hnc51 := NB119_118.out; have hcz52_0 : w47.cell? ⟨gb118, 0, none⟩ = some (.int .i64 a1_0) := bc BK118 0; have hcz52_1 : w47.cell? ⟨gb118, 1, none⟩ = some (.int .i64 a1_1) := bc BK118 1; have hfz52_0 := blk_frozen BK118.out 0; have hfz52_1 := blk_frozen BK118.out 1) | ((with_reducible refine gate_callee (f := 56) rfl ?_); refine goesL_ (some 13) rfl rfl Tryd.func56 kk rfl #[.agg #[.int .i64 a0_0, .int .i64 a0_1], .agg #[.int .i64 a1_0, .int .i64 a1_1]] rfl (by (try simp only [List.map_toArray, List.map_cons, List.map_nil]); first | done | rfl | (simp only [List.length_drop, List.length_take]; rfl)) ?_; (with_reducible refine (congr_two.calls k a0_0 a0_1 a1_0 a1_1 none _ A3.out (am (ErrAt.below hE2.out pw)).out (am (ErrAt.below hE3.out pw)).out).mono ?_); rintro e w53 ⟨rfl, hb⟩; refine ⟨_, rfl, ?_⟩; have n0_ := bb BK117 hb; have n1_ := bb BK118 hb; have n2_ := bb BK119 hb; have n3_ := am (below_step pw hb); clear BK117; clear BK118; clear BK119; clear HB; have BK117 := n0_; have BK118 := n1_; have BK119 := n2_; have HB := n3_; clear n0_ n1_ n2_ n3_; (try clear hb); (try clear hb2); (try clear hk); (try clear hi); (try simp only [errW_none, errW_some]); have hcz54_0 : w53.cell? ⟨gb117, 0, none⟩ = some (.int .i64 a0_0) := bc BK117 0; have hcz54_1 : w53.cell? ⟨gb117, 1, none⟩ = some (.int .i64 a0_1) := bc BK117 1; have hfz54_0 := blk_frozen BK117.out 0; have hfz54_1 := blk_frozen BK117.out 1; have hcz55_0 : w53.cell? ⟨gb118, 0, none⟩ = some (.int .i64 a1_0) := bc BK118 0; have hcz55_1 : w53.cell? ⟨gb118, 1, none⟩ = some (.int .i64 a1_1) := bc BK118 1; have hfz55_0 := blk_frozen BK118.out 0; have hfz55_1 := blk_frozen BK118.out 1) | ((with_reducible refine gate_dst (N := 46) rfl ?_); refine Kd.R_lit (Kd.int .i64) _ 3 ?hg (N := 46) ?hd (xs := ([a0_1, a1_1] : List Int)) (inner := [.int .i64 a0_1, .int .i64 a1_1]) (ok := fun _ => True) (okp := fun _ => True) ?hr ?hp (fun _ hk => hk) trivial (Below.refl _ _) (Nat.le_refl _) (by simp) ?_; (case hd => rfl); (case hg => rfl); (case hr => first | (go_simp; done) | (go_simp; rfl)); (case hp => exact (Reps.one (show Kd.M (Kd.int .i64) _ _ _ a0_1 [.int .i64 a0_1] from rfl) (Reps.one (show Kd.M (Kd.int .i64) _ _ _ a1_1 [.int .i64 a1_1] from rfl) (Reps.none _ _)))); intro v133 w56 ho57 hb hg_ hnew_; clear hg_ hnew_; (first | rw [← Ny132.out] at ho57 | (simp only [Int.reduceToNat] at ho57; rw [← Ny132.out] at ho57)); have n0_ := am (Kd.R_lower ho57 (below_size pw)); have n1_ := bb BK117 hb; have n2_ := bb BK118 hb; have n3_ := bb BK119 hb; have n4_ := am (below_step pw hb); clear BK117; clear BK118; clear BK119; clear HB; have HO134 := n0_; have BK117 := n1_; have BK118 := n2_; have BK119 := n3_; have HB := n4_; clear n0_ n1_ n2_ n3_ n4_; clear hb ho57; obtain ⟨Ao58, co58, eo58⟩ := Kd.R_slice HO134.out; subst eo58) | ((with_reducible refine gate_callee (f := 58) rfl ?_); refine goesL_ (some 47) rfl rfl Tryd.func58 kk rfl #[.slice Ao58 y132.length co58] rfl (by (try simp only [List.map_toArray, List.map_cons, List.map_nil]); first | done | rfl | (simp only [List.length_drop, List.length_take]; rfl)) ?_; (with_reducible refine (congr_gcd.calls k _ _ y132 t135 _ ?side1 ?side2 A41.out).mono ?_); (case side1 => repeat (first | exact (Kd.R_reads' HO134.out).2.2 | (with_reducible refine Kd.C_alloc ?_ _) | (with_reducible refine Kd.C_drewN ?_ _) | (with_reducible refine Kd.C_drew ?_))); (case side2 => exact (Kd.R_reads' HO134.out).2.1); rintro e w59 ⟨rfl, hb⟩; refine ⟨_, rfl, ?_⟩; have n0_ := am (Kd.R_below (by (with_reducible repeat (first | apply Kd.R_alloc | apply Kd.R_drewN | apply Kd.R_drew)); exact HO134.out) hb); have n1_ := bb BK117 hb; have n2_ := bb BK118 hb; have n3_ := bb BK119 hb; have n4_ := am (below_step pw hb); clear HO134; clear BK117; clear BK118; clear BK119; clear HB; have HO134 := n0_; have BK117 := n1_; have BK118 := n2_; have BK119 := n3_; have HB := n4_; clear n0_ n1_ n2_ n3_ n4_; (try clear hb); (try clear hb2); (try clear hk); (try clear hi); have hcz60_0 : w59.cell? ⟨gb117, 0, none⟩ = some (.int .i64 a0_0) := bc BK117 0; have hcz60_1 : w59.cell? ⟨gb117, 1, none⟩ = some (.int .i64 a0_1) := bc BK117 1; have hfz60_0 := blk_frozen BK117.out 0; have hfz60_1 := blk_frozen BK117.out 1; have hcz61_0 : w59.cell? ⟨gb118, 0, none⟩ = some (.int .i64 a1_0) := bc BK118 0; have hcz61_1 : w59.cell? ⟨gb118, 1, none⟩ = some (.int .i64 a1_1) := bc BK118 1; have hfz61_0 := blk_frozen BK118.out 0; have hfz61_1 := blk_frozen BK118.out 1))
    have n0_ := am (Kd.R_drew HO134.out)
    have n1_ := am (blk_drew BK117.out)
    have n2_ := am (blk_drew BK118.out)
    have n3_ := am (blk_drew BK119.out)
    have n4_ := am (below_drew1 HB.out)
    clear HO134 BK117 BK118 BK119 HB
    revert n0_ n1_ n2_ n3_ n4_
    intro HO134 BK117 BK118 BK119 HB
    refine start_ (n := 8) (S := fun w' => w'.cell? ⟨gb117, 0, none⟩ = some (.int .i64 a0_0) ∧ w'.cell? ⟨gb117, 1, none⟩ = some (.int .i64 a0_1) ∧ w'.cell? ⟨gb118, 0, none⟩ = some (.int .i64 a1_0) ∧ w'.cell? ⟨gb118, 1, none⟩ = some (.int .i64 a1_1)) (ds := []) #[false, false, false, false, false, false, false, false] kk rfl rfl ⟨bc BK117 0, bc BK117 1, bc BK118 0, bc BK118 1⟩ (fun hHeld => ?_); refine with_tabW congr_Meet.tab11 congr_Meet.bits11 (fun HT_ HW_ => ?_)
    generalize w59.drew = w62 at HO134 BK117 BK118 BK119 HB hHeld ⊢
    refine pure_ (i := 0) (N := some 57) (v := ?_) (a' := ?_) #[true, false, false, false, false, false, false, false] rfl rfl (any_of HT_.out kk) (fun _ _ _ h => h) (Or.inl ⟨by rfl, ?_⟩) ?_ ?_
    rotate_left
    ·intro w'
     go_simp
     with_reducible rfl
    rotate_left
    ·simp only [Act.put, List.setIfInBounds_toArray, List.set_cons_zero, List.set_cons_succ, i64_w, i32_w]
     rfl
    refine pure_ (i := 2) (N := some 59) (v := ?_) (a' := ?_) #[true, false, true, false, false, false, false, false] rfl rfl (any_of HT_.out kk) (fun _ _ _ h => h) (Or.inl ⟨by rfl, ?_⟩) ?_ ?_
    rotate_left
    ·intro w'
     go_simp
     with_reducible rfl
    rotate_left
    ·simp only [Act.put, List.setIfInBounds_toArray, List.set_cons_zero, List.set_cons_succ, i64_w, i32_w]
     rfl
    refine pure_ (i := 4) (N := some 61) (v := ?_) (a' := ?_) #[true, false, true, false, true, false, false, false] rfl rfl (any_of HT_.out kk) (fun _ _ _ h => h) (Or.inl ⟨by rfl, ?_⟩) ?_ ?_
    rotate_left
    ·intro w'
     go_simp
     with_reducible rfl
    rotate_left
    ·simp only [Act.put, List.setIfInBounds_toArray, List.set_cons_zero, List.set_cons_succ, i64_w, i32_w]
     rfl
    refine take_ (i := 1) (N := some 58) (v := ?_) (a' := ?_) #[true, true, true, false, true, false, false, false] rfl rfl (take_ofW HT_.out HW_.out kk) (fun _ _ _ h => h) (Or.inl ⟨by rfl, ?_⟩) hHeld ?_ ?_
    rotate_left
    ·rintro w' ⟨s0, s1, s2, s3⟩
     go_simp
     with_reducible rfl
    rotate_left
    ·simp only [Act.put, List.setIfInBounds_toArray, List.set_cons_zero, List.set_cons_succ, i64_w, i32_w]
     rfl
    refine pure_ (i := 3) (N := some 60) (v := ?_) (a' := ?_) #[true, true, true, true, true, false, false, false] rfl rfl (any_of HT_.out kk) (fun _ _ _ h => h) (Or.inl ⟨by rfl, ?_⟩) ?_ ?_
    rotate_left
    ·intro w'
     go_simp
     with_reducible rfl
    rotate_left
    ·simp only [Act.put, List.setIfInBounds_toArray, List.set_cons_zero, List.set_cons_succ, i64_w, i32_w]
     rfl
    refine take_ (i := 5) (N := some 62) (v := ?_) (a' := ?_) #[true, true, true, true, true, true, false, false] rfl rfl (take_ofW HT_.out HW_.out kk) (fun _ _ _ h => h) (Or.inl ⟨by rfl, ?_⟩) hHeld ?_ ?_
    rotate_left
    ·rintro w' ⟨s0, s1, s2, s3⟩
     go_simp
     with_reducible rfl
    rotate_left
    ·simp only [Act.put, List.setIfInBounds_toArray, List.set_cons_zero, List.set_cons_succ, i64_w, i32_w]
     rfl
    refine pure_ (i := 6) (N := some 63) (v := ?_) (a' := ?_) #[true, true, true, true, true, true, true, false] rfl rfl (any_of HT_.out kk) (fun _ _ _ h => h) (Or.inl ⟨by rfl, ?_⟩) ?_ ?_
    rotate_left
    ·intro w'
     go_simp
     with_reducible rfl
    rotate_left
    ·simp only [Act.put, List.setIfInBounds_toArray, List.set_cons_zero, List.set_cons_succ, i64_w, i32_w]
     rfl
    refine pure_ (i := 7) (N := some 9) (v := ?_) (a' := ?_) #[true, true, true, true, true, true, true, true] rfl rfl (any_of HT_.out kk) (fun _ _ _ h => h) (Or.inl ⟨by rfl, ?_⟩) ?_ ?_
    rotate_left
    ·intro w'
     go_simp
     with_reducible rfl
    rotate_left
    ·simp only [Act.put, List.setIfInBounds_toArray, List.set_cons_zero, List.set_cons_succ, i64_w, i32_w]
     rfl
    refine done_ (done_of HT_.out kk) ?_
    have hcz63_0 : w62.cell? ⟨gb117, 0, none⟩ = some (.int .i64 a0_0) := bc BK117 0
    have hcz63_1 : w62.cell? ⟨gb117, 1, none⟩ = some (.int .i64 a0_1) := bc BK117 1
    have hfz63_0 := blk_frozen BK117.out 0
    have hfz63_1 := blk_frozen BK117.out 1
    have hcz64_0 : w62.cell? ⟨gb119, 0, none⟩ = some (.int .i64 0) := bc BK119 0
    have hcz64_1 : w62.cell? ⟨gb119, 1, none⟩ = some (.int .i64 0) := bc BK119 1
    have hfz64_0 := blk_frozen BK119.out 0
    have hfz64_1 := blk_frozen BK119.out 1
    try go_wp2
    refine bodyPost_ret (results_ctt rfl _ _ gb119 34 #[.int .i64 a0_0, .int .i64 a0_1] (0, 0) _ rfl (by (with_reducible repeat (first | refine blk_drewN ?_ _ | refine blk_drew ?_ | refine blk_alloc ?_ _)); refine blk_put (cs := #[.int .i64 a0_0, .int .i64 0]) ?_ 1 _ rfl; (with_reducible repeat (first | refine blk_drewN ?_ _ | refine blk_drew ?_ | refine blk_alloc ?_ _)); refine blk_put (cs := #[.int .i64 0, .int .i64 0]) ?_ 0 _ rfl; (with_reducible repeat (first | refine blk_drewN ?_ _ | refine blk_drew ?_ | refine blk_alloc ?_ _)); exact BK119.out) Tryd.underlying34 rfl kk) rfl ?_
    exact ⟨pe, pw⟩
   rw [if_neg c44] at H
   have c44b0 : decide (1048576 < (wrap64 ((wrap64 (Int.tdiv a0_1 t135)) * a1_1))) = false := decide_eq_false c44
   clear c44
   have H' := am H
   clear H
   go_enter Tryd.func20, Tryd.ntmps20
   try go_wp2_with (first | ((with_reducible refine gate_dst (N := 2) rfl ?_); refine box_event ?hg (N := 2) ?hd (cs := #[.int .i64 a0_0, .int .i64 a0_1]) (t := 34) ?hr ?_; (case hd => rfl); (case hg => rfl); (case hr => first | (go_simp; done) | (go_simp; rfl)); intro gb117 hg w65 hbox hb; have n0_ := am (below_step pw hb); have n1_ := am (hbox); have n2_ := am ((by rw [hg]; exact (below_size pw) : w.heap.size ≤ gb117)); have n3_ := am ((by rw [hg]; exact (below_size pw) : w.heap.size ≤ gb117)); clear HB; have HB := n0_; have BK117 := n1_; have GW117 := n2_; have GE117 := n3_; clear n0_ n1_ n2_ n3_; clear hb hbox hg) | ((with_reducible refine gate_dst (N := 3) rfl ?_); refine box_event ?hg (N := 3) ?hd (cs := #[.int .i64 a1_0, .int .i64 a1_1]) (t := 34) ?hr ?_; (case hd => rfl); (case hg => rfl); (case hr => first | (go_simp; done) | (go_simp; rfl)); intro gb118 hg w66 hbox hb; have n0_ := bb BK117 hb; have n1_ := am (below_step pw hb); have n2_ := am (hbox); have n3_ := am ((by rw [hg]; exact (below_size pw) : w.heap.size ≤ gb118)); have n4_ := am ((by rw [hg]; exact (below_size pw) : w.heap.size ≤ gb118)); have n5_ := am ((by rw [hg]; exact Nat.ne_of_lt (blk_lt pk) : gb117 ≠ gb118)); have n6_ := am ((by rw [hg]; exact Nat.ne_of_gt (blk_lt pk) : gb118 ≠ gb117)); clear BK117; clear HB; have BK117 := n0_; have HB := n1_; have BK118 := n2_; have GW118 := n3_; have GE118 := n4_; have NB117_118 := n5_; have NB118_117 := n6_; clear n0_ n1_ n2_ n3_ n4_ n5_ n6_; clear hb hbox hg) | ((with_reducible refine gate_dst (N := 4) rfl ?_); refine box_event ?hg (N := 4) ?hd (cs := #[.int .i64 0, .int .i64 0]) (t := 34) ?hr ?_; (case hd => rfl); (case hg => rfl); (case hr => first | (go_simp; done) | (go_simp; rfl)); intro gb119 hg w67 hbox hb; have n0_ := bb BK117 hb; have n1_ := bb BK118 hb; have n2_ := am (below_step pw hb); have n3_ := am (hbox); have n4_ := am ((by rw [hg]; exact (below_size pw) : w.heap.size ≤ gb119)); have n5_ := am ((by rw [hg]; exact (below_size pw) : w.heap.size ≤ gb119)); have n6_ := am ((by rw [hg]; exact Nat.ne_of_lt (blk_lt pk) : gb117 ≠ gb119)); have n7_ := am ((by rw [hg]; exact Nat.ne_of_gt (blk_lt pk) : gb119 ≠ gb117)); have n8_ := am ((by rw [hg]; exact Nat.ne_of_lt (blk_lt pk) : gb118 ≠ gb119)); have n9_ := am ((by rw [hg]; exact Nat.ne_of_gt (blk_lt pk) : gb119 ≠ gb118)); clear BK117; clear BK118; clear HB; have BK117 := n0_; have BK118 := n1_; have HB := n2_; have BK119 := n3_; have GW119 := n4_; have GE119 := n5_; have NB117_119 := n6_; have NB119_117 := n7_; have NB118_119 := n8_; have NB119_118 := n9_; clear n0_ n1_ n2_ n3_ n4_ n5_ n6_ n7_ n8_ n9_; clear hb hbox hg; have hnb68 := NB117_118.out; have hnc68 := NB118_117.out; have hnb69 := NB117_119.out; have hnc69 := NB119_117.out; have hcz70_0 : w67.cell? ⟨gb117, 0, none⟩ = some (.int .i64 a0_0) := bc BK117 0; have hcz70_1 : w67.cell? ⟨gb117, 1, none⟩ = some (.int .i64 a0_1) := bc BK117 1; have hfz70_0 := blk_frozen BK117.out 0; have hfz70_1 := blk_frozen BK117.out 1; have hnb71 := NB118_119.out; have hnc71 := NB119_118.out; have hcz72_0 : w67.cell? ⟨gb118, 0, none⟩ = some (.int .i64 a1_0) := bc BK118 0; have hcz72_1 : w67.cell? ⟨gb118, 1, none⟩ = some (.int .i64 a1_1) := bc BK118 1; have hfz72_0 := blk_frozen BK118.out 0; have hfz72_1 := blk_frozen BK118.out 1) | ((with_reducible refine gate_callee (f := 56) rfl ?_); refine goesL_ (some 13) rfl rfl Tryd.func56 kk rfl #[.agg #[.int .i64 a0_0, .int .i64 a0_1], .agg #[.int .i64 a1_0, .int .i64 a1_1]] rfl (by (try simp only [List.map_toArray, List.map_cons, List.map_nil]); first | done | rfl | (simp only [List.length_drop, List.length_take]; rfl)) ?_; (with_reducible refine (congr_two.calls k a0_0 a0_1 a1_0 a1_1 none _ A3.out (am (ErrAt.below hE2.out pw)).out (am (ErrAt.below hE3.out pw)).out).mono ?_); rintro e w73 ⟨rfl, hb⟩; refine ⟨_, rfl, ?_⟩; have n0_ := bb BK117 hb; have n1_ := bb BK118 hb; have n2_ := bb BK119 hb; have n3_ := am (below_step pw hb); clear BK117; clear BK118; clear BK119; clear HB; have BK117 := n0_; have BK118 := n1_; have BK119 := n2_; have HB := n3_; clear n0_ n1_ n2_ n3_; (try clear hb); (try clear hb2); (try clear hk); (try clear hi); (try simp only [errW_none, errW_some]); have hcz74_0 : w73.cell? ⟨gb117, 0, none⟩ = some (.int .i64 a0_0) := bc BK117 0; have hcz74_1 : w73.cell? ⟨gb117, 1, none⟩ = some (.int .i64 a0_1) := bc BK117 1; have hfz74_0 := blk_frozen BK117.out 0; have hfz74_1 := blk_frozen BK117.out 1; have hcz75_0 : w73.cell? ⟨gb118, 0, none⟩ = some (.int .i64 a1_0) := bc BK118 0; have hcz75_1 : w73.cell? ⟨gb118, 1, none⟩ = some (.int .i64 a1_1) := bc BK118 1; have hfz75_0 := blk_frozen BK118.out 0; have hfz75_1 := blk_frozen BK118.out 1) | ((with_reducible refine gate_dst (N := 46) rfl ?_); refine Kd.R_lit (Kd.int .i64) _ 3 ?hg (N := 46) ?hd (xs := ([a0_1, a1_1] : List Int)) (inner := [.int .i64 a0_1, .int .i64 a1_1]) (ok := fun _ => True) (okp := fun _ => True) ?hr ?hp (fun _ hk => hk) trivial (Below.refl _ _) (Nat.le_refl _) (by simp) ?_; (case hd => rfl); (case hg => rfl); (case hr => first | (go_simp; done) | (go_simp; rfl)); (case hp => exact (Reps.one (show Kd.M (Kd.int .i64) _ _ _ a0_1 [.int .i64 a0_1] from rfl) (Reps.one (show Kd.M (Kd.int .i64) _ _ _ a1_1 [.int .i64 a1_1] from rfl) (Reps.none _ _)))); intro v133 w76 ho77 hb hg_ hnew_; clear hg_ hnew_; (first | rw [← Ny132.out] at ho77 | (simp only [Int.reduceToNat] at ho77; rw [← Ny132.out] at ho77)); have n0_ := am (Kd.R_lower ho77 (below_size pw)); have n1_ := bb BK117 hb; have n2_ := bb BK118 hb; have n3_ := bb BK119 hb; have n4_ := am (below_step pw hb); clear BK117; clear BK118; clear BK119; clear HB; have HO134 := n0_; have BK117 := n1_; have BK118 := n2_; have BK119 := n3_; have HB := n4_; clear n0_ n1_ n2_ n3_ n4_; clear hb ho77; obtain ⟨Ao78, co78, eo78⟩ := Kd.R_slice HO134.out; subst eo78) | ((with_reducible refine gate_callee (f := 58) rfl ?_); refine goesL_ (some 47) rfl rfl Tryd.func58 kk rfl #[.slice Ao78 y132.length co78] rfl (by (try simp only [List.map_toArray, List.map_cons, List.map_nil]); first | done | rfl | (simp only [List.length_drop, List.length_take]; rfl)) ?_; (with_reducible refine (congr_gcd.calls k _ _ y132 t135 _ ?side1 ?side2 A41.out).mono ?_); (case side1 => repeat (first | exact (Kd.R_reads' HO134.out).2.2 | (with_reducible refine Kd.C_alloc ?_ _) | (with_reducible refine Kd.C_drewN ?_ _) | (with_reducible refine Kd.C_drew ?_))); (case side2 => exact (Kd.R_reads' HO134.out).2.1); rintro e w79 ⟨rfl, hb⟩; refine ⟨_, rfl, ?_⟩; have n0_ := am (Kd.R_below (by (with_reducible repeat (first | apply Kd.R_alloc | apply Kd.R_drewN | apply Kd.R_drew)); exact HO134.out) hb); have n1_ := bb BK117 hb; have n2_ := bb BK118 hb; have n3_ := bb BK119 hb; have n4_ := am (below_step pw hb); clear HO134; clear BK117; clear BK118; clear BK119; clear HB; have HO134 := n0_; have BK117 := n1_; have BK118 := n2_; have BK119 := n3_; have HB := n4_; clear n0_ n1_ n2_ n3_ n4_; (try clear hb); (try clear hb2); (try clear hk); (try clear hi); have hcz80_0 : w79.cell? ⟨gb117, 0, none⟩ = some (.int .i64 a0_0) := bc BK117 0; have hcz80_1 : w79.cell? ⟨gb117, 1, none⟩ = some (.int .i64 a0_1) := bc BK117 1; have hfz80_0 := blk_frozen BK117.out 0; have hfz80_1 := blk_frozen BK117.out 1; have hcz81_0 : w79.cell? ⟨gb118, 0, none⟩ = some (.int .i64 a1_0) := bc BK118 0; have hcz81_1 : w79.cell? ⟨gb118, 1, none⟩ = some (.int .i64 a1_1) := bc BK118 1; have hfz81_0 := blk_frozen BK118.out 0; have hfz81_1 := blk_frozen BK118.out 1))
   have n0_ := am (Kd.R_drew HO134.out)
   have n1_ := am (blk_drew BK117.out)
   have n2_ := am (blk_drew BK118.out)
   have n3_ := am (blk_drew BK119.out)
   have n4_ := am (below_drew1 HB.out)
   clear HO134 BK117 BK118 BK119 HB
   revert n0_ n1_ n2_ n3_ n4_
   intro HO134 BK117 BK118 BK119 HB
   refine start_ (n := 8) (S := fun w' => w'.cell? ⟨gb117, 0, none⟩ = some (.int .i64 a0_0) ∧ w'.cell? ⟨gb117, 1, none⟩ = some (.int .i64 a0_1) ∧ w'.cell? ⟨gb118, 0, none⟩ = some (.int .i64 a1_0) ∧ w'.cell? ⟨gb118, 1, none⟩ = some (.int .i64 a1_1)) (ds := []) #[false, false, false, false, false, false, false, false] kk rfl rfl ⟨bc BK117 0, bc BK117 1, bc BK118 0, bc BK118 1⟩ (fun hHeld => ?_); refine with_tabW congr_Meet.tab11 congr_Meet.bits11 (fun HT_ HW_ => ?_)
   generalize w79.drew = w82 at HO134 BK117 BK118 BK119 HB hHeld ⊢
   refine pure_ (i := 0) (N := some 57) (v := ?_) (a' := ?_) #[true, false, false, false, false, false, false, false] rfl rfl (any_of HT_.out kk) (fun _ _ _ h => h) (Or.inl ⟨by rfl, ?_⟩) ?_ ?_
   rotate_left
   ·intro w'
    go_simp
    with_reducible rfl
   rotate_left
   ·simp only [Act.put, List.setIfInBounds_toArray, List.set_cons_zero, List.set_cons_succ, i64_w, i32_w]
    rfl
   refine pure_ (i := 2) (N := some 59) (v := ?_) (a' := ?_) #[true, false, true, false, false, false, false, false] rfl rfl (any_of HT_.out kk) (fun _ _ _ h => h) (Or.inl ⟨by rfl, ?_⟩) ?_ ?_
   rotate_left
   ·intro w'
    go_simp
    with_reducible rfl
   rotate_left
   ·simp only [Act.put, List.setIfInBounds_toArray, List.set_cons_zero, List.set_cons_succ, i64_w, i32_w]
    rfl
   refine pure_ (i := 4) (N := some 61) (v := ?_) (a' := ?_) #[true, false, true, false, true, false, false, false] rfl rfl (any_of HT_.out kk) (fun _ _ _ h => h) (Or.inl ⟨by rfl, ?_⟩) ?_ ?_
   rotate_left
   ·intro w'
    go_simp
    with_reducible rfl
   rotate_left
   ·simp only [Act.put, List.setIfInBounds_toArray, List.set_cons_zero, List.set_cons_succ, i64_w, i32_w]
    rfl
   refine take_ (i := 1) (N := some 58) (v := ?_) (a' := ?_) #[true, true, true, false, true, false, false, false] rfl rfl (take_ofW HT_.out HW_.out kk) (fun _ _ _ h => h) (Or.inl ⟨by rfl, ?_⟩) hHeld ?_ ?_
   rotate_left
   ·rintro w' ⟨s0, s1, s2, s3⟩
    go_simp
    with_reducible rfl
   rotate_left
   ·simp only [Act.put, List.setIfInBounds_toArray, List.set_cons_zero, List.set_cons_succ, i64_w, i32_w]
    rfl
   refine pure_ (i := 3) (N := some 60) (v := ?_) (a' := ?_) #[true, true, true, true, true, false, false, false] rfl rfl (any_of HT_.out kk) (fun _ _ _ h => h) (Or.inl ⟨by rfl, ?_⟩) ?_ ?_
   rotate_left
   ·intro w'
    go_simp
    with_reducible rfl
   rotate_left
   ·simp only [Act.put, List.setIfInBounds_toArray, List.set_cons_zero, List.set_cons_succ, i64_w, i32_w]
    rfl
   refine take_ (i := 5) (N := some 62) (v := ?_) (a' := ?_) #[true, true, true, true, true, true, false, false] rfl rfl (take_ofW HT_.out HW_.out kk) (fun _ _ _ h => h) (Or.inl ⟨by rfl, ?_⟩) hHeld ?_ ?_
   rotate_left
   ·rintro w' ⟨s0, s1, s2, s3⟩
    go_simp
    with_reducible rfl
   rotate_left
   ·simp only [Act.put, List.setIfInBounds_toArray, List.set_cons_zero, List.set_cons_succ, i64_w, i32_w]
    rfl
   refine pure_ (i := 6) (N := some 63) (v := ?_) (a' := ?_) #[true, true, true, true, true, true, true, false] rfl rfl (any_of HT_.out kk) (fun _ _ _ h => h) (Or.inl ⟨by rfl, ?_⟩) ?_ ?_
   rotate_left
   ·intro w'
    go_simp
    with_reducible rfl
   rotate_left
   ·simp only [Act.put, List.setIfInBounds_toArray, List.set_cons_zero, List.set_cons_succ, i64_w, i32_w]
    rfl
   refine pure_ (i := 7) (N := some 9) (v := ?_) (a' := ?_) #[true, true, true, true, true, true, true, true] rfl rfl (any_of HT_.out kk) (fun _ _ _ h => h) (Or.inl ⟨by rfl, ?_⟩) ?_ ?_
   rotate_left
   ·intro w'
    go_simp
    with_reducible rfl
   rotate_left
   ·simp only [Act.put, List.setIfInBounds_toArray, List.set_cons_zero, List.set_cons_succ, i64_w, i32_w]
    rfl
   refine done_ (done_of HT_.out kk) ?_
   have hcz83_0 : w82.cell? ⟨gb117, 0, none⟩ = some (.int .i64 a0_0) := bc BK117 0
   have hcz83_1 : w82.cell? ⟨gb117, 1, none⟩ = some (.int .i64 a0_1) := bc BK117 1
   have hfz83_0 := blk_frozen BK117.out 0
   have hfz83_1 := blk_frozen BK117.out 1
   try go_wp2
   go_loopg [10] k (fun kq v10 w' => ∃ (x10_1 : Int), v10 = .int .i64 x10_1 ∧ Aside0 (congr_Meet.l0 kq (wrap64 ((wrap64 (Int.tdiv a0_1 t135)) * a1_1)) x10_1 a0_0 a0_1 a1_0 a1_1 = some (r1, r2, r3, r4)) ∧ Aside0 (kq ≤ k) ∧ Aside0 (w'.heap[gb117]? = some (.cells #[.int .i64 a0_0, .int .i64 a0_1] 34 (0, 0))) ∧ Aside0 (w'.heap[gb118]? = some (.cells #[.int .i64 a1_0, .int .i64 a1_1] 34 (0, 0))) ∧ Aside0 (w'.heap[gb119]? = some (.cells #[.int .i64 0, .int .i64 0] 34 (0, 0))) ∧ Aside0 (Below w.heap.size w w'))
   case atStart => exact ⟨(a0_0), pr, H', ⟨Nat.le_refl _⟩, ⟨by (with_reducible repeat (first | refine blk_drewN ?_ _ | refine blk_drew ?_ | refine blk_alloc ?_ _)); exact BK117.out⟩, ⟨by (with_reducible repeat (first | refine blk_drewN ?_ _ | refine blk_drew ?_ | refine blk_alloc ?_ _)); exact BK118.out⟩, ⟨by (with_reducible repeat (first | refine blk_drewN ?_ _ | refine blk_drew ?_ | refine blk_alloc ?_ _)); exact BK119.out⟩, ⟨pw⟩⟩
   case round =>
    clear H'
    try clear c1
    try clear c2
    try clear p2
    try clear c3
    try clear c4
    try clear c4b0
    try clear c4b1
    try clear c5
    try clear c6
    try clear p6
    try clear c7
    try clear c10
    try clear c11
    try clear c13
    try clear c20
    try clear c22
    try clear c22b0
    try clear c22b1
    try clear c28
    try clear c29
    try clear c30
    try clear c31
    try clear c42
    try clear c42b0
    try clear c42b1
    try clear c43
    try clear c43b0
    try clear c43b1
    try clear c44
    try clear c44b0
    try clear c48
    try clear c49
    try clear c51
    try clear c56
    try clear c57
    try clear c58
    try clear p64
    try clear c68
    try clear c69
    try clear c71
    try clear hcz12_0
    try clear hcz12_1
    try clear hcz14_0
    try clear hcz14_1
    try clear hcz16_0
    try clear hcz16_1
    try clear hcz30_0
    try clear hcz30_1
    try clear hcz32_0
    try clear hcz32_1
    try clear hcz34_0
    try clear hcz34_1
    try clear hcz35_0
    try clear hcz35_1
    try clear hcz50_0
    try clear hcz50_1
    try clear hcz52_0
    try clear hcz52_1
    try clear hcz54_0
    try clear hcz54_1
    try clear hcz55_0
    try clear hcz55_1
    try clear hcz60_0
    try clear hcz60_1
    try clear hcz61_0
    try clear hcz61_1
    try clear hcz63_0
    try clear hcz63_1
    try clear hcz64_0
    try clear hcz64_1
    try clear hcz70_0
    try clear hcz70_1
    try clear hcz72_0
    try clear hcz72_1
    try clear hcz74_0
    try clear hcz74_1
    try clear hcz75_0
    try clear hcz75_1
    try clear hcz80_0
    try clear hcz80_1
    try clear hcz81_0
    try clear hcz81_1
    try clear hcz83_0
    try clear hcz83_1
    try clear hfz12_0
    try clear hfz12_1
    try clear hfz14_0
    try clear hfz14_1
    try clear hfz16_0
    try clear hfz16_1
    try clear hfz30_0
    try clear hfz30_1
    try clear hfz32_0
    try clear hfz32_1
    try clear hfz34_0
    try clear hfz34_1
    try clear hfz35_0
    try clear hfz35_1
    try clear hfz50_0
    try clear hfz50_1
    try clear hfz52_0
    try clear hfz52_1
    try clear hfz54_0
    try clear hfz54_1
    try clear hfz55_0
    try clear hfz55_1
    try clear hfz60_0
    try clear hfz60_1
    try clear hfz61_0
    try clear hfz61_1
    try clear hfz63_0
    try clear hfz63_1
    try clear hfz64_0
    try clear hfz64_1
    try clear hfz70_0
    try clear hfz70_1
    try clear hfz72_0
    try clear hfz72_1
    try clear hfz74_0
    try clear hfz74_1
    try clear hfz75_0
    try clear hfz75_1
    try clear hfz80_0
    try clear hfz80_1
    try clear hfz81_0
    try clear hfz81_1
    try clear hfz83_0
    try clear hfz83_1
    obtain ⟨x10_1, rfl, HA, HK1, BK117, BK118, BK119, HB⟩ := hrel
    cases gk with
    | zero => exact absurd HA.out (by simp [congr_Meet.l0])
    | succ k1 =>
     have H := HA.out
     clear HA
     simp only [congr_Meet.l0] at H
     replace H := Option.bind_eq_some_iff.mp H
     obtain ⟨t136, A840, H⟩ := H
     replace H : (if t136 = true then ((congr_told.f k1 x10_1 (wrap64 ((wrap64 (Int.tdiv a0_1 t135)) * a1_1))).bind fun bt137 => (some (bt137.1, bt137.2, true, none))) else (congr_Meet.l0 k1 (wrap64 ((wrap64 (Int.tdiv a0_1 t135)) * a1_1)) (wrap64 (x10_1 + a0_1)) a0_0 a0_1 a1_0 a1_1)) = some (r1, r2, r3, r4) := H
     have A84 := am A840
     clear A840
     by_cases c85 : t136 = true
     ·subst c85
      have H1 : ((congr_told.f k1 x10_1 (wrap64 ((wrap64 (Int.tdiv a0_1 t135)) * a1_1))).bind fun bt137 => (some (bt137.1, bt137.2, true, none))) = some (r1, r2, r3, r4) := by rw [if_pos rfl] at H; exact H
      clear H
      have H := H1
      clear H1
      replace H := Option.bind_eq_some_iff.mp H
      obtain ⟨⟨t137, t138⟩, A860, H⟩ := H
      replace H : (some (t137, t138, true, none)) = some (r1, r2, r3, r4) := H
      have A86 := am A860
      clear A860
      simp only [Option.some.injEq, Prod.mk.injEq] at H
      obtain ⟨rfl, rfl, rfl, rfl⟩ := H
      have hnb87 := NB118_117.out
      have hnc87 := NB117_118.out
      have hnb88 := NB118_119.out
      have hnc88 := NB119_118.out
      have hcz89_0 : wr.cell? ⟨gb118, 0, none⟩ = some (.int .i64 a1_0) := bc BK118 0
      have hcz89_1 : wr.cell? ⟨gb118, 1, none⟩ = some (.int .i64 a1_1) := bc BK118 1
      have hfz89_0 := blk_frozen BK118.out 0
      have hfz89_1 := blk_frozen BK118.out 1
      go_wp2_with (first | ((with_reducible refine gate_callee (f := 30) rfl ?_); refine goesL_ (some 71) rfl rfl Tryd.func30 kk rfl #[.agg #[.int .i64 a1_0, .int .i64 a1_1], .int .i64 x10_1] rfl (by (try simp only [List.map_toArray, List.map_cons, List.map_nil]); first | done | rfl | (simp only [List.length_drop, List.length_take]; rfl)) ?_; (with_reducible refine (congr_Has.calls k1 a1_0 a1_1 x10_1 true _ A84.out (am (ErrAt.below hE2.out pw)).out (am (ErrAt.below hE3.out pw)).out).mono ?_); rintro e w90 ⟨rfl, hb⟩; refine ⟨_, rfl, ?_⟩; have n0_ := bb BK117 hb; have n1_ := bb BK118 hb; have n2_ := bb BK119 hb; have n3_ := am (below_step pw hb); clear BK117; clear BK118; clear BK119; clear HB; have BK117 := n0_; have BK118 := n1_; have BK119 := n2_; have HB := n3_; clear n0_ n1_ n2_ n3_; (try clear hb); (try clear hb2); (try clear hk); (try clear hi)) | ((with_reducible refine gate_callee (f := 59) rfl ?_); refine goesL_ (some 79) rfl rfl Tryd.func59 kk rfl #[.int .i64 x10_1, .int .i64 (wrap64 ((wrap64 (Int.tdiv a0_1 t135)) * a1_1))] rfl (by (try simp only [List.map_toArray, List.map_cons, List.map_nil]); first | done | rfl | (simp only [List.length_drop, List.length_take]; rfl)) ?_; (with_reducible refine (congr_told.calls k1 x10_1 (wrap64 ((wrap64 (Int.tdiv a0_1 t135)) * a1_1)) t137 t138 _ A86.out).mono ?_); rintro e w91 ⟨rfl, hb⟩; refine ⟨_, rfl, ?_⟩; have n0_ := bb BK117 hb; have n1_ := bb BK118 hb; have n2_ := bb BK119 hb; have n3_ := am (below_step pw hb); clear BK117; clear BK118; clear BK119; clear HB; have BK117 := n0_; have BK118 := n1_; have BK119 := n2_; have HB := n3_; clear n0_ n1_ n2_ n3_; (try clear hb); (try clear hb2); (try clear hk); (try clear hi); have hnb92 := NB119_117.out; have hnc92 := NB117_119.out; have hcz93_0 : w91.cell? ⟨gb119, 0, none⟩ = some (.int .i64 0) := bc BK119 0; have hcz93_1 : w91.cell? ⟨gb119, 1, none⟩ = some (.int .i64 0) := bc BK119 1; have hfz93_0 := blk_frozen BK119.out 0; have hfz93_1 := blk_frozen BK119.out 1))
      refine bodyPost_ret (results_ctt rfl _ _ gb119 34 #[.int .i64 t137, .int .i64 t138] (0, 0) _ rfl (by (with_reducible repeat (first | refine blk_drewN ?_ _ | refine blk_drew ?_ | refine blk_alloc ?_ _)); refine blk_put (cs := #[.int .i64 t137, .int .i64 0]) ?_ 1 _ rfl; (with_reducible repeat (first | refine blk_drewN ?_ _ | refine blk_drew ?_ | refine blk_alloc ?_ _)); refine blk_put (cs := #[.int .i64 0, .int .i64 0]) ?_ 0 _ rfl; (with_reducible repeat (first | refine blk_drewN ?_ _ | refine blk_drew ?_ | refine blk_alloc ?_ _)); exact BK119.out) Tryd.underlying34 rfl kk) rfl ?_
      exact ⟨pe, pw⟩
     replace c85 := Bool.eq_false_iff.mpr c85
     subst c85
     have H1 : (congr_Meet.l0 k1 (wrap64 ((wrap64 (Int.tdiv a0_1 t135)) * a1_1)) (wrap64 (x10_1 + a0_1)) a0_0 a0_1 a1_0 a1_1) = some (r1, r2, r3, r4) := by rw [if_neg (show ¬ (false = true) by decide)] at H; exact H
     clear H
     have H := H1
     clear H1
     have H' := am H
     clear H
     have hnb94 := NB118_117.out
     have hnc94 := NB117_118.out
     have hnb95 := NB118_119.out
     have hnc95 := NB119_118.out
     have hcz96_0 : wr.cell? ⟨gb118, 0, none⟩ = some (.int .i64 a1_0) := bc BK118 0
     have hcz96_1 : wr.cell? ⟨gb118, 1, none⟩ = some (.int .i64 a1_1) := bc BK118 1
     have hfz96_0 := blk_frozen BK118.out 0
     have hfz96_1 := blk_frozen BK118.out 1
     go_wp2_with (first | ((with_reducible refine gate_callee (f := 30) rfl ?_); refine goesL_ (some 71) rfl rfl Tryd.func30 kk rfl #[.agg #[.int .i64 a1_0, .int .i64 a1_1], .int .i64 x10_1] rfl (by (try simp only [List.map_toArray, List.map_cons, List.map_nil]); first | done | rfl | (simp only [List.length_drop, List.length_take]; rfl)) ?_; (with_reducible refine (congr_Has.calls k1 a1_0 a1_1 x10_1 false _ A84.out (am (ErrAt.below hE2.out pw)).out (am (ErrAt.below hE3.out pw)).out).mono ?_); rintro e w97 ⟨rfl, hb⟩; refine ⟨_, rfl, ?_⟩; have n0_ := bb BK117 hb; have n1_ := bb BK118 hb; have n2_ := bb BK119 hb; have n3_ := am (below_step pw hb); clear BK117; clear BK118; clear BK119; clear HB; have BK117 := n0_; have BK118 := n1_; have BK119 := n2_; have HB := n3_; clear n0_ n1_ n2_ n3_; (try clear hb); (try clear hb2); (try clear hk); (try clear hi); have hnb98 := NB117_119.out; have hnc98 := NB119_117.out; have hcz99_0 : w97.cell? ⟨gb117, 0, none⟩ = some (.int .i64 a0_0) := bc BK117 0; have hcz99_1 : w97.cell? ⟨gb117, 1, none⟩ = some (.int .i64 a0_1) := bc BK117 1; have hfz99_0 := blk_frozen BK117.out 0; have hfz99_1 := blk_frozen BK117.out 1))
     go_roundg k1
     case measure => have := HK1.out; omega
     case rel => exact ⟨(wrap64 (x10_1 + a0_1)), pr, H', ⟨by have := HK1.out; omega⟩, ⟨by (with_reducible repeat (first | refine blk_drewN ?_ _ | refine blk_drew ?_ | refine blk_alloc ?_ _)); exact BK117.out⟩, ⟨by (with_reducible repeat (first | refine blk_drewN ?_ _ | refine blk_drew ?_ | refine blk_alloc ?_ _)); exact BK118.out⟩, ⟨by (with_reducible repeat (first | refine blk_drewN ?_ _ | refine blk_drew ?_ | refine blk_alloc ?_ _)); exact BK119.out⟩, ⟨pw⟩⟩
  rw [if_neg c43] at H
  have c43b0 : ((Int.tmod (wrap64 (a0_0 - a1_0)) t135) == 0) = false := beq_eq_false_iff_ne.mpr c43
  have c43b1 : ((Int.tmod (wrap64 (a0_0 - a1_0)) t135) != 0) = true := bne_iff_ne.mpr c43
  simp only [Option.some.injEq, Prod.mk.injEq] at H
  obtain ⟨rfl, rfl, rfl, rfl⟩ := H
  go_enter Tryd.func20, Tryd.ntmps20
  go_wp2_with (first | ((with_reducible refine gate_dst (N := 2) rfl ?_); refine box_event ?hg (N := 2) ?hd (cs := #[.int .i64 a0_0, .int .i64 a0_1]) (t := 34) ?hr ?_; (case hd => rfl); (case hg => rfl); (case hr => first | (go_simp; done) | (go_simp; rfl)); intro gb117 hg w100 hbox hb; have n0_ := am (below_step pw hb); have n1_ := am (hbox); have n2_ := am ((by rw [hg]; exact (below_size pw) : w.heap.size ≤ gb117)); have n3_ := am ((by rw [hg]; exact (below_size pw) : w.heap.size ≤ gb117)); clear HB; have HB := n0_; have BK117 := n1_; have GW117 := n2_; have GE117 := n3_; clear n0_ n1_ n2_ n3_; clear hb hbox hg) | ((with_reducible refine gate_dst (N := 3) rfl ?_); refine box_event ?hg (N := 3) ?hd (cs := #[.int .i64 a1_0, .int .i64 a1_1]) (t := 34) ?hr ?_; (case hd => rfl); (case hg => rfl); (case hr => first | (go_simp; done) | (go_simp; rfl)); intro gb118 hg w101 hbox hb; have n0_ := bb BK117 hb; have n1_ := am (below_step pw hb); have n2_ := am (hbox); have n3_ := am ((by rw [hg]; exact (below_size pw) : w.heap.size ≤ gb118)); have n4_ := am ((by rw [hg]; exact (below_size pw) : w.heap.size ≤ gb118)); have n5_ := am ((by rw [hg]; exact Nat.ne_of_lt (blk_lt pk) : gb117 ≠ gb118)); have n6_ := am ((by rw [hg]; exact Nat.ne_of_gt (blk_lt pk) : gb118 ≠ gb117)); clear BK117; clear HB; have BK117 := n0_; have HB := n1_; have BK118 := n2_; have GW118 := n3_; have GE118 := n4_; have NB117_118 := n5_; have NB118_117 := n6_; clear n0_ n1_ n2_ n3_ n4_ n5_ n6_; clear hb hbox hg) | ((with_reducible refine gate_dst (N := 4) rfl ?_); refine box_event ?hg (N := 4) ?hd (cs := #[.int .i64 0, .int .i64 0]) (t := 34) ?hr ?_; (case hd => rfl); (case hg => rfl); (case hr => first | (go_simp; done) | (go_simp; rfl)); intro gb119 hg w102 hbox hb; have n0_ := bb BK117 hb; have n1_ := bb BK118 hb; have n2_ := am (below_step pw hb); have n3_ := am (hbox); have n4_ := am ((by rw [hg]; exact (below_size pw) : w.heap.size ≤ gb119)); have n5_ := am ((by rw [hg]; exact (below_size pw) : w.heap.size ≤ gb119)); have n6_ := am ((by rw [hg]; exact Nat.ne_of_lt (blk_lt pk) : gb117 ≠ gb119)); have n7_ := am ((by rw [hg]; exact Nat.ne_of_gt (blk_lt pk) : gb119 ≠ gb117)); have n8_ := am ((by rw [hg]; exact Nat.ne_of_lt (blk_lt pk) : gb118 ≠ gb119)); have n9_ := am ((by rw [hg]; exact Nat.ne_of_gt (blk_lt pk) : gb119 ≠ gb118)); clear BK117; clear BK118; clear HB; have BK117 := n0_; have BK118 := n1_; have HB := n2_; have BK119 := n3_; have GW119 := n4_; have GE119 := n5_; have NB117_119 := n6_; have NB119_117 := n7_; have NB118_119 := n8_; have NB119_118 := n9_; clear n0_ n1_ n2_ n3_ n4_ n5_ n6_ n7_ n8_ n9_; clear hb hbox hg; have hnb103 := NB117_118.out; have hnc103 := NB118_117.out; have hnb104 := NB117_119.out; have hnc104 := NB119_117.out; have hcz105_0 : w102.cell? ⟨gb117, 0, none⟩ = some (.int .i64 a0_0) := bc BK117 0; have hcz105_1 : w102.cell? ⟨gb117, 1, none⟩ = some (.int .i64 a0_1) := bc BK117 1; have hfz105_0 := blk_frozen BK117.out 0; have hfz105_1 := blk_frozen BK117.out 1; have hnb106 := NB118_119.out; have hnc106 := NB119_118.out; have hcz107_0 : w102.cell? ⟨gb118, 0, none⟩ = some (.int .i64 a1_0) := bc BK118 0; have hcz107_1 : w102.cell? ⟨gb118, 1, none⟩ = some (.int .i64 a1_1) := bc BK118 1; have hfz107_0 := blk_frozen BK118.out 0; have hfz107_1 := blk_frozen BK118.out 1) | ((with_reducible refine gate_callee (f := 56) rfl ?_); refine goesL_ (some 13) rfl rfl Tryd.func56 kk rfl #[.agg #[.int .i64 a0_0, .int .i64 a0_1], .agg #[.int .i64 a1_0, .int .i64 a1_1]] rfl (by (try simp only [List.map_toArray, List.map_cons, List.map_nil]); first | done | rfl | (simp only [List.length_drop, List.length_take]; rfl)) ?_; (with_reducible refine (congr_two.calls k a0_0 a0_1 a1_0 a1_1 none _ A3.out (am (ErrAt.below hE2.out pw)).out (am (ErrAt.below hE3.out pw)).out).mono ?_); rintro e w108 ⟨rfl, hb⟩; refine ⟨_, rfl, ?_⟩; have n0_ := bb BK117 hb; have n1_ := bb BK118 hb; have n2_ := bb BK119 hb; have n3_ := am (below_step pw hb); clear BK117; clear BK118; clear BK119; clear HB; have BK117 := n0_; have BK118 := n1_; have BK119 := n2_; have HB := n3_; clear n0_ n1_ n2_ n3_; (try clear hb); (try clear hb2); (try clear hk); (try clear hi); (try simp only [errW_none, errW_some]); have hcz109_0 : w108.cell? ⟨gb117, 0, none⟩ = some (.int .i64 a0_0) := bc BK117 0; have hcz109_1 : w108.cell? ⟨gb117, 1, none⟩ = some (.int .i64 a0_1) := bc BK117 1; have hfz109_0 := blk_frozen BK117.out 0; have hfz109_1 := blk_frozen BK117.out 1; have hcz110_0 : w108.cell? ⟨gb118, 0, none⟩ = some (.int .i64 a1_0) := bc BK118 0; have hcz110_1 : w108.cell? ⟨gb118, 1, none⟩ = some (.int .i64 a1_1) := bc BK118 1; have hfz110_0 := blk_frozen BK118.out 0; have hfz110_1 := blk_frozen BK118.out 1) | ((with_reducible refine gate_dst (N := 46) rfl ?_); refine Kd.R_lit (Kd.int .i64) _ 3 ?hg (N := 46) ?hd (xs := ([a0_1, a1_1] : List Int)) (inner := [.int .i64 a0_1, .int .i64 a1_1]) (ok := fun _ => True) (okp := fun _ => True) ?hr ?hp (fun _ hk => hk) trivial (Below.refl _ _) (Nat.le_refl _) (by simp) ?_; (case hd => rfl); (case hg => rfl); (case hr => first | (go_simp; done) | (go_simp; rfl)); (case hp => exact (Reps.one (show Kd.M (Kd.int .i64) _ _ _ a0_1 [.int .i64 a0_1] from rfl) (Reps.one (show Kd.M (Kd.int .i64) _ _ _ a1_1 [.int .i64 a1_1] from rfl) (Reps.none _ _)))); intro v133 w111 ho112 hb hg_ hnew_; clear hg_ hnew_; (first | rw [← Ny132.out] at ho112 | (simp only [Int.reduceToNat] at ho112; rw [← Ny132.out] at ho112)); have n0_ := am (Kd.R_lower ho112 (below_size pw)); have n1_ := bb BK117 hb; have n2_ := bb BK118 hb; have n3_ := bb BK119 hb; have n4_ := am (below_step pw hb); clear BK117; clear BK118; clear BK119; clear HB; have HO134 := n0_; have BK117 := n1_; have BK118 := n2_; have BK119 := n3_; have HB := n4_; clear n0_ n1_ n2_ n3_ n4_; clear hb ho112; obtain ⟨Ao113, co113, eo113⟩ := Kd.R_slice HO134.out; subst eo113) | ((with_reducible refine gate_callee (f := 58) rfl ?_); refine goesL_ (some 47) rfl rfl Tryd.func58 kk rfl #[.slice Ao113 y132.length co113] rfl (by (try simp only [List.map_toArray, List.map_cons, List.map_nil]); first | done | rfl | (simp only [List.length_drop, List.length_take]; rfl)) ?_; (with_reducible refine (congr_gcd.calls k _ _ y132 t135 _ ?side1 ?side2 A41.out).mono ?_); (case side1 => repeat (first | exact (Kd.R_reads' HO134.out).2.2 | (with_reducible refine Kd.C_alloc ?_ _) | (with_reducible refine Kd.C_drewN ?_ _) | (with_reducible refine Kd.C_drew ?_))); (case side2 => exact (Kd.R_reads' HO134.out).2.1); rintro e w114 ⟨rfl, hb⟩; refine ⟨_, rfl, ?_⟩; have n0_ := am (Kd.R_below (by (with_reducible repeat (first | apply Kd.R_alloc | apply Kd.R_drewN | apply Kd.R_drew)); exact HO134.out) hb); have n1_ := bb BK117 hb; have n2_ := bb BK118 hb; have n3_ := bb BK119 hb; have n4_ := am (below_step pw hb); clear HO134; clear BK117; clear BK118; clear BK119; clear HB; have HO134 := n0_; have BK117 := n1_; have BK118 := n2_; have BK119 := n3_; have HB := n4_; clear n0_ n1_ n2_ n3_ n4_; (try clear hb); (try clear hb2); (try clear hk); (try clear hi); have hcz115_0 : w114.cell? ⟨gb117, 0, none⟩ = some (.int .i64 a0_0) := bc BK117 0; have hcz115_1 : w114.cell? ⟨gb117, 1, none⟩ = some (.int .i64 a0_1) := bc BK117 1; have hfz115_0 := blk_frozen BK117.out 0; have hfz115_1 := blk_frozen BK117.out 1; have hcz116_0 : w114.cell? ⟨gb118, 0, none⟩ = some (.int .i64 a1_0) := bc BK118 0; have hcz116_1 : w114.cell? ⟨gb118, 1, none⟩ = some (.int .i64 a1_1) := bc BK118 1; have hfz116_0 := blk_frozen BK118.out 0; have hfz116_1 := blk_frozen BK118.out 1; have hcz117_0 : w114.cell? ⟨gb119, 0, none⟩ = some (.int .i64 0) := bc BK119 0; have hcz117_1 : w114.cell? ⟨gb119, 1, none⟩ = some (.int .i64 0) := bc BK119 1; have hfz117_0 := blk_frozen BK119.out 0; have hfz117_1 := blk_frozen BK119.out 1))
  refine bodyPost_ret (results_ctt rfl _ _ gb119 34 #[.int .i64 0, .int .i64 0] (0, 0) _ rfl (by (with_reducible repeat (first | refine blk_drewN ?_ _ | refine blk_drew ?_ | refine blk_alloc ?_ _)); refine blk_put (cs := #[.int .i64 0, .int .i64 0]) ?_ 1 _ rfl; (with_reducible repeat (first | refine blk_drewN ?_ _ | refine blk_drew ?_ | refine blk_alloc ?_ _)); refine blk_put (cs := #[.int .i64 0, .int .i64 0]) ?_ 0 _ rfl; (with_reducible repeat (first | refine blk_drewN ?_ _ | refine blk_drew ?_ | refine blk_alloc ?_ _)); exact BK119.out) Tryd.underlying34 rfl kk) rfl ?_
  exact ⟨pe, pw⟩
 have H1 : (some (0, 0, false, some q121)) = some (r1, r2, r3, r4) := by rw [if_neg (show ¬ (some q121).isNone = true by simp)] at H; exact H
 clear H
 have H := H1
 clear H1
 try simp only [errW_none, errW_some]
 simp only [Option.some.injEq, Prod.mk.injEq] at H
 obtain ⟨rfl, rfl, rfl, rfl⟩ := H
 go_enter Tryd.func20, Tryd.ntmps20
 go_wp2_with (first | ((with_reducible refine gate_dst (N := 2) rfl ?_); refine box_event ?hg (N := 2) ?hd (cs := #[.int .i64 a0_0, .int .i64 a0_1]) (t := 34) ?hr ?_; (case hd => rfl); (case hg => rfl); (case hr => first | (go_simp; done) | (go_simp; rfl)); intro gb117 hg w118 hbox hb; have n0_ := am (below_step pw hb); have n1_ := am (hbox); have n2_ := am ((by rw [hg]; exact (below_size pw) : w.heap.size ≤ gb117)); have n3_ := am ((by rw [hg]; exact (below_size pw) : w.heap.size ≤ gb117)); clear HB; have HB := n0_; have BK117 := n1_; have GW117 := n2_; have GE117 := n3_; clear n0_ n1_ n2_ n3_; clear hb hbox hg) | ((with_reducible refine gate_dst (N := 3) rfl ?_); refine box_event ?hg (N := 3) ?hd (cs := #[.int .i64 a1_0, .int .i64 a1_1]) (t := 34) ?hr ?_; (case hd => rfl); (case hg => rfl); (case hr => first | (go_simp; done) | (go_simp; rfl)); intro gb118 hg w119 hbox hb; have n0_ := bb BK117 hb; have n1_ := am (below_step pw hb); have n2_ := am (hbox); have n3_ := am ((by rw [hg]; exact (below_size pw) : w.heap.size ≤ gb118)); have n4_ := am ((by rw [hg]; exact (below_size pw) : w.heap.size ≤ gb118)); have n5_ := am ((by rw [hg]; exact Nat.ne_of_lt (blk_lt pk) : gb117 ≠ gb118)); have n6_ := am ((by rw [hg]; exact Nat.ne_of_gt (blk_lt pk) : gb118 ≠ gb117)); clear BK117; clear HB; have BK117 := n0_; have HB := n1_; have BK118 := n2_; have GW118 := n3_; have GE118 := n4_; have NB117_118 := n5_; have NB118_117 := n6_; clear n0_ n1_ n2_ n3_ n4_ n5_ n6_; clear hb hbox hg) | ((with_reducible refine gate_dst (N := 4) rfl ?_); refine box_event ?hg (N := 4) ?hd (cs := #[.int .i64 0, .int .i64 0]) (t := 34) ?hr ?_; (case hd => rfl); (case hg => rfl); (case hr => first | (go_simp; done) | (go_simp; rfl)); intro gb119 hg w120 hbox hb; have n0_ := bb BK117 hb; have n1_ := bb BK118 hb; have n2_ := am (below_step pw hb); have n3_ := am (hbox); have n4_ := am ((by rw [hg]; exact (below_size pw) : w.heap.size ≤ gb119)); have n5_ := am ((by rw [hg]; exact (below_size pw) : w.heap.size ≤ gb119)); have n6_ := am ((by rw [hg]; exact Nat.ne_of_lt (blk_lt pk) : gb117 ≠ gb119)); have n7_ := am ((by rw [hg]; exact Nat.ne_of_gt (blk_lt pk) : gb119 ≠ gb117)); have n8_ := am ((by rw [hg]; exact Nat.ne_of_lt (blk_lt pk) : gb118 ≠ gb119)); have n9_ := am ((by rw [hg]; exact Nat.ne_of_gt (blk_lt pk) : gb119 ≠ gb118)); clear BK117; clear BK118; clear HB; have BK117 := n0_; have BK118 := n1_; have HB := n2_; have BK119 := n3_; have GW119 := n4_; have GE119 := n5_; have NB117_119 := n6_; have NB119_117 := n7_; have NB118_119 := n8_; have NB119_118 := n9_; clear n0_ n1_ n2_ n3_ n4_ n5_ n6_ n7_ n8_ n9_; clear hb hbox hg; have hnb121 := NB117_118.out; have hnc121 := NB118_117.out; have hnb122 := NB117_119.out; have hnc122 := NB119_117.out; have hcz123_0 : w120.cell? ⟨gb117, 0, none⟩ = some (.int .i64 a0_0) := bc BK117 0; have hcz123_1 : w120.cell? ⟨gb117, 1, none⟩ = some (.int .i64 a0_1) := bc BK117 1; have hfz123_0 := blk_frozen BK117.out 0; have hfz123_1 := blk_frozen BK117.out 1; have hnb124 := NB118_119.out; have hnc124 := NB119_118.out; have hcz125_0 : w120.cell? ⟨gb118, 0, none⟩ = some (.int .i64 a1_0) := bc BK118 0; have hcz125_1 : w120.cell? ⟨gb118, 1, none⟩ = some (.int .i64 a1_1) := bc BK118 1; have hfz125_0 := blk_frozen BK118.out 0; have hfz125_1 := blk_frozen BK118.out 1) | ((with_reducible refine gate_callee (f := 56) rfl ?_); refine goesL_ (some 13) rfl rfl Tryd.func56 kk rfl #[.agg #[.int .i64 a0_0, .int .i64 a0_1], .agg #[.int .i64 a1_0, .int .i64 a1_1]] rfl (by (try simp only [List.map_toArray, List.map_cons, List.map_nil]); first | done | rfl | (simp only [List.length_drop, List.length_take]; rfl)) ?_; (with_reducible refine (congr_two.calls k a0_0 a0_1 a1_0 a1_1 (some q121) _ A3.out (am (ErrAt.below hE2.out pw)).out (am (ErrAt.below hE3.out pw)).out).mono ?_); rintro e w126 ⟨rfl, hb⟩; refine ⟨_, rfl, ?_⟩; have n0_ := bb BK117 hb; have n1_ := bb BK118 hb; have n2_ := bb BK119 hb; have n3_ := am (below_step pw hb); clear BK117; clear BK118; clear BK119; clear HB; have BK117 := n0_; have BK118 := n1_; have BK119 := n2_; have HB := n3_; clear n0_ n1_ n2_ n3_; (try clear hb); (try clear hb2); (try clear hk); (try clear hi); (try simp only [errW_none, errW_some]); have hcz127_0 : w126.cell? ⟨gb119, 0, none⟩ = some (.int .i64 0) := bc BK119 0; have hcz127_1 : w126.cell? ⟨gb119, 1, none⟩ = some (.int .i64 0) := bc BK119 1; have hfz127_0 := blk_frozen BK119.out 0; have hfz127_1 := blk_frozen BK119.out 1))
 refine bodyPost_ret (results_ctt rfl _ _ gb119 34 #[.int .i64 0, .int .i64 0] (0, 0) _ rfl (by (with_reducible repeat (first | refine blk_drewN ?_ _ | refine blk_drew ?_ | refine blk_alloc ?_ _)); refine blk_put (cs := #[.int .i64 0, .int .i64 0]) ?_ 1 _ rfl; (with_reducible repeat (first | refine blk_drewN ?_ _ | refine blk_drew ?_ | refine blk_alloc ?_ _)); refine blk_put (cs := #[.int .i64 0, .int .i64 0]) ?_ 0 _ rfl; (with_reducible repeat (first | refine blk_drewN ?_ _ | refine blk_drew ?_ | refine blk_alloc ?_ _)); exact BK119.out) Tryd.underlying34 rfl kk) rfl ?_
 exact ⟨pe, pw⟩

end Go.Proofs.YtimgfgambeffeaaDoor.C
