-- Written by wip/xprint.py (the session's program over the kit's print).
import Derived.Test.YtimgfgambeffeaaDoorEb
import Derived.Test.YtimgfgambeffeaaDoorC0
import Derived.Test.YtimgfgambeffeaaDoorC4
import Derived.Test.YtimgfgambeffeaaDoorC12
namespace Go.Proofs.YtimgfgambeffeaaDoor.C
open Go.RowKit Go.Proofs.YtimgfgambeffeaaDoorW.PrintWords Go.Proofs.YtimgfgambeffeaaDoorW.PrintLast Go.Proofs.YtimgfgambeffeaaDoorW.PrintMore Go.Proofs.Rcg
attribute [local go_sem] max2_int min2_int max_two min_two max_three min_three max_four min_four   -- for this text's walks alone
set_option linter.unusedVariables false
set_option linter.unusedSimpArgs false

/-! ### congr_Mul: function 50 -/
def congr_Mul.j0 : Nat → Int → Int → Int → Int → Bool → Option (Int × Int × Option Int)
 | 0, _, _, _, _, _ => none
 | k + 1, x7, x9, x11, x13, x63 => if x63 = true then ((congr_gcd.f k (([x7, x9, x11] : List Int))).bind fun t312 => ((congr_told.f k x13 t312).bind fun bt313 => (some (bt313.1, bt313.2, none)))) else (some (0, 1, none))
def congr_Mul.f (k : Nat) (a0_0 : Int) (a0_1 : Int) (a1_0 : Int) (a1_1 : Int) : Option (Int × Int × Option Int) := (congr_two.f k a0_0 a0_1 a1_0 a1_1).bind fun t299 => (if t299.isNone = true then ((congr_times.f a0_1 a1_0).bind fun bt301 => ((congr_times.f a1_1 a0_0).bind fun bt303 => ((congr_times.f a0_1 a1_1).bind fun bt305 => ((congr_times.f a0_0 a1_0).bind fun bt307 => (if bt301.2 = true then (if bt303.2 = true then (if bt305.2 = true then (congr_Mul.j0 k bt301.1 bt303.1 bt305.1 bt307.1 bt307.2) else (congr_Mul.j0 k bt301.1 bt303.1 bt305.1 bt307.1 false)) else (congr_Mul.j0 k bt301.1 bt303.1 bt305.1 bt307.1 false)) else (congr_Mul.j0 k bt301.1 bt303.1 bt305.1 bt307.1 false)))))) else (some (0, 0, some (t299.getD 0))))
theorem congr_Mul.mono_l : ∀ k, (∀ y0 y1 y2 y3 y4, LeO (congr_Mul.j0 k y0 y1 y2 y3 y4) (congr_Mul.j0 (k + 1) y0 y1 y2 y3 y4))
 | 0 => fun _ _ _ _ _ r h => by simp [congr_Mul.j0] at h
 | k + 1 => by
  have ih0 := congr_Mul.mono_l k
  intro y0 y1 y2 y3 y4
  unfold congr_Mul.j0
  repeat' first
  | (with_reducible exact ih0 _ _ _ _ _)
  | (with_reducible exact congr_gcd.mono _ _)
  | (with_reducible exact congr_told.mono _ _ _)
  | (with_reducible exact congr_two.mono _ _ _ _ _)
  | (with_reducible exact LeO.refl _)
  | (with_reducible exact LeO.none _)
  | (with_reducible refine LeO.ite ?_ ?_)
  | (with_reducible refine LeO.bind ?_ (fun _ => ?_))
  | exact ih0 _ _ _ _ _
  | exact congr_gcd.mono _ _
  | exact congr_told.mono _ _ _
  | exact congr_two.mono _ _ _ _ _
  | exact LeO.none _
  | refine LeO.ite ?_ ?_
  | refine LeO.bind ?_ (fun _ => ?_)
theorem congr_Mul.mono : ∀ a0 a1 a2 a3 k, LeO (congr_Mul.f k a0 a1 a2 a3) (congr_Mul.f (k + 1) a0 a1 a2 a3) := by
 intro a0 a1 a2 a3 k
 have ih0 := congr_Mul.mono_l k
 unfold congr_Mul.f
 repeat' first
   | (with_reducible exact ih0 _ _ _ _ _)
   | (with_reducible exact congr_gcd.mono _ _)
   | (with_reducible exact congr_told.mono _ _ _)
   | (with_reducible exact congr_two.mono _ _ _ _ _)
   | (with_reducible exact LeO.refl _)
   | (with_reducible exact LeO.none _)
   | (with_reducible refine LeO.ite ?_ ?_)
   | (with_reducible refine LeO.bind ?_ (fun _ => ?_))
   | exact ih0 _ _ _ _ _
   | exact congr_gcd.mono _ _
   | exact congr_told.mono _ _ _
   | exact congr_two.mono _ _ _ _ _
   | exact LeO.none _
   | refine LeO.ite ?_ ?_
   | refine LeO.bind ?_ (fun _ => ?_)
set_option maxHeartbeats 8000000 in
set_option maxRecDepth 100000 in
theorem congr_Mul.calls [EA] (k : Nat) (a0_0 : Int) (a0_1 : Int) (a1_0 : Int) (a1_1 : Int) (r1 : Int) (r2 : Int) (r3 : Option Int) (w : World) (h : congr_Mul.f k a0_0 a0_1 a1_0 a1_1 = some (r1, r2, r3)) (h2_ : ErrAt 2 1 w) (h3_ : ErrAt 3 0 w) :
  Calls Tryd.prog 50 #[.agg #[.int .i64 a0_0, .int .i64 a0_1], .agg #[.int .i64 a1_0, .int .i64 a1_1]] w fun e w' => e = .returned (.tuple #[.agg #[.int .i64 r1, .int .i64 r2], errW r3]) ∧ Below w.heap.size w w' := by
 have hE2 := am h2_
 clear h2_
 have hE3 := am h3_
 clear h3_
 have hu34 := Tryd.underlying34
 have hu28 := Tryd.underlying28
 have HB := am (Below.refl w.heap.size w)
 have H : ((congr_two.f k a0_0 a0_1 a1_0 a1_1).bind fun t299 => (if t299.isNone = true then ((congr_times.f a0_1 a1_0).bind fun bt301 => ((congr_times.f a1_1 a0_0).bind fun bt303 => ((congr_times.f a0_1 a1_1).bind fun bt305 => ((congr_times.f a0_0 a1_0).bind fun bt307 => (if bt301.2 = true then (if bt303.2 = true then (if bt305.2 = true then (congr_Mul.j0 k bt301.1 bt303.1 bt305.1 bt307.1 bt307.2) else (congr_Mul.j0 k bt301.1 bt303.1 bt305.1 bt307.1 false)) else (congr_Mul.j0 k bt301.1 bt303.1 bt305.1 bt307.1 false)) else (congr_Mul.j0 k bt301.1 bt303.1 bt305.1 bt307.1 false)))))) else (some (0, 0, some (t299.getD 0))))) = some (r1, r2, r3) := h
 clear h
 replace H := Option.bind_eq_some_iff.mp H
 obtain ⟨t299, A30, H⟩ := H
 replace H : (if t299.isNone = true then ((congr_times.f a0_1 a1_0).bind fun bt301 => ((congr_times.f a1_1 a0_0).bind fun bt303 => ((congr_times.f a0_1 a1_1).bind fun bt305 => ((congr_times.f a0_0 a1_0).bind fun bt307 => (if bt301.2 = true then (if bt303.2 = true then (if bt305.2 = true then (congr_Mul.j0 k bt301.1 bt303.1 bt305.1 bt307.1 bt307.2) else (congr_Mul.j0 k bt301.1 bt303.1 bt305.1 bt307.1 false)) else (congr_Mul.j0 k bt301.1 bt303.1 bt305.1 bt307.1 false)) else (congr_Mul.j0 k bt301.1 bt303.1 bt305.1 bt307.1 false)))))) else (some (0, 0, some (t299.getD 0)))) = some (r1, r2, r3) := H
 have A3 := am A30
 clear A30
 rcases t299 with _ | q300
 ·have H1 : ((congr_times.f a0_1 a1_0).bind fun bt301 => ((congr_times.f a1_1 a0_0).bind fun bt303 => ((congr_times.f a0_1 a1_1).bind fun bt305 => ((congr_times.f a0_0 a1_0).bind fun bt307 => (if bt301.2 = true then (if bt303.2 = true then (if bt305.2 = true then (congr_Mul.j0 k bt301.1 bt303.1 bt305.1 bt307.1 bt307.2) else (congr_Mul.j0 k bt301.1 bt303.1 bt305.1 bt307.1 false)) else (congr_Mul.j0 k bt301.1 bt303.1 bt305.1 bt307.1 false)) else (congr_Mul.j0 k bt301.1 bt303.1 bt305.1 bt307.1 false)))))) = some (r1, r2, r3) := by rw [if_pos (show (none : Option Int).isNone = true by rfl)] at H; exact H
  clear H
  have H := H1
  clear H1
  try simp only [errW_none, errW_some]
  replace H := Option.bind_eq_some_iff.mp H
  obtain ⟨⟨t301, t302⟩, A40, H⟩ := H
  replace H : ((congr_times.f a1_1 a0_0).bind fun bt303 => ((congr_times.f a0_1 a1_1).bind fun bt305 => ((congr_times.f a0_0 a1_0).bind fun bt307 => (if t302 = true then (if bt303.2 = true then (if bt305.2 = true then (congr_Mul.j0 k t301 bt303.1 bt305.1 bt307.1 bt307.2) else (congr_Mul.j0 k t301 bt303.1 bt305.1 bt307.1 false)) else (congr_Mul.j0 k t301 bt303.1 bt305.1 bt307.1 false)) else (congr_Mul.j0 k t301 bt303.1 bt305.1 bt307.1 false))))) = some (r1, r2, r3) := H
  have A4 := am A40
  clear A40
  replace H := Option.bind_eq_some_iff.mp H
  obtain ⟨⟨t303, t304⟩, A50, H⟩ := H
  replace H : ((congr_times.f a0_1 a1_1).bind fun bt305 => ((congr_times.f a0_0 a1_0).bind fun bt307 => (if t302 = true then (if t304 = true then (if bt305.2 = true then (congr_Mul.j0 k t301 t303 bt305.1 bt307.1 bt307.2) else (congr_Mul.j0 k t301 t303 bt305.1 bt307.1 false)) else (congr_Mul.j0 k t301 t303 bt305.1 bt307.1 false)) else (congr_Mul.j0 k t301 t303 bt305.1 bt307.1 false)))) = some (r1, r2, r3) := H
  have A5 := am A50
  clear A50
  replace H := Option.bind_eq_some_iff.mp H
  obtain ⟨⟨t305, t306⟩, A60, H⟩ := H
  replace H : ((congr_times.f a0_0 a1_0).bind fun bt307 => (if t302 = true then (if t304 = true then (if t306 = true then (congr_Mul.j0 k t301 t303 t305 bt307.1 bt307.2) else (congr_Mul.j0 k t301 t303 t305 bt307.1 false)) else (congr_Mul.j0 k t301 t303 t305 bt307.1 false)) else (congr_Mul.j0 k t301 t303 t305 bt307.1 false))) = some (r1, r2, r3) := H
  have A6 := am A60
  clear A60
  replace H := Option.bind_eq_some_iff.mp H
  obtain ⟨⟨t307, t308⟩, A70, H⟩ := H
  replace H : (if t302 = true then (if t304 = true then (if t306 = true then (congr_Mul.j0 k t301 t303 t305 t307 t308) else (congr_Mul.j0 k t301 t303 t305 t307 false)) else (congr_Mul.j0 k t301 t303 t305 t307 false)) else (congr_Mul.j0 k t301 t303 t305 t307 false)) = some (r1, r2, r3) := H
  have A7 := am A70
  clear A70
  have HC8 := am H
  clear H
  go_enter Tryd.func50, Tryd.ntmps50
  go_upto_region 8 with (first | ((with_reducible refine gate_dst (N := 2) rfl ?_); refine box_event ?hg (N := 2) ?hd (cs := #[.int .i64 a0_0, .int .i64 a0_1]) (t := 34) ?hr ?_; (case hd => rfl); (case hg => rfl); (case hr => first | (go_simp; done) | (go_simp; rfl)); intro gb296 hg w9 hbox hb; have n0_ := am (below_step pw hb); have n1_ := am (hbox); have n2_ := am ((by rw [hg]; exact (below_size pw) : w.heap.size ≤ gb296)); have n3_ := am ((by rw [hg]; exact (below_size pw) : w.heap.size ≤ gb296)); clear HB; have HB := n0_; have BK296 := n1_; have GW296 := n2_; have GE296 := n3_; clear n0_ n1_ n2_ n3_; clear hb hbox hg) | ((with_reducible refine gate_dst (N := 3) rfl ?_); refine box_event ?hg (N := 3) ?hd (cs := #[.int .i64 a1_0, .int .i64 a1_1]) (t := 34) ?hr ?_; (case hd => rfl); (case hg => rfl); (case hr => first | (go_simp; done) | (go_simp; rfl)); intro gb297 hg w10 hbox hb; have n0_ := bb BK296 hb; have n1_ := am (below_step pw hb); have n2_ := am (hbox); have n3_ := am ((by rw [hg]; exact (below_size pw) : w.heap.size ≤ gb297)); have n4_ := am ((by rw [hg]; exact (below_size pw) : w.heap.size ≤ gb297)); have n5_ := am ((by rw [hg]; exact Nat.ne_of_lt (blk_lt pk) : gb296 ≠ gb297)); have n6_ := am ((by rw [hg]; exact Nat.ne_of_gt (blk_lt pk) : gb297 ≠ gb296)); clear BK296; clear HB; have BK296 := n0_; have HB := n1_; have BK297 := n2_; have GW297 := n3_; have GE297 := n4_; have NB296_297 := n5_; have NB297_296 := n6_; clear n0_ n1_ n2_ n3_ n4_ n5_ n6_; clear hb hbox hg) | ((with_reducible refine gate_dst (N := 4) rfl ?_); refine box_event ?hg (N := 4) ?hd (cs := #[.int .i64 0, .int .i64 0]) (t := 34) ?hr ?_; (case hd => rfl); (case hg => rfl); (case hr => first | (go_simp; done) | (go_simp; rfl)); intro gb298 hg w11 hbox hb; have n0_ := bb BK296 hb; have n1_ := bb BK297 hb; have n2_ := am (below_step pw hb); have n3_ := am (hbox); have n4_ := am ((by rw [hg]; exact (below_size pw) : w.heap.size ≤ gb298)); have n5_ := am ((by rw [hg]; exact (below_size pw) : w.heap.size ≤ gb298)); have n6_ := am ((by rw [hg]; exact Nat.ne_of_lt (blk_lt pk) : gb296 ≠ gb298)); have n7_ := am ((by rw [hg]; exact Nat.ne_of_gt (blk_lt pk) : gb298 ≠ gb296)); have n8_ := am ((by rw [hg]; exact Nat.ne_of_lt (blk_lt pk) : gb297 ≠ gb298)); have n9_ := am ((by rw [hg]; exact Nat.ne_of_gt (blk_lt pk) : gb298 ≠ gb297)); clear BK296; clear BK297; clear HB; have BK296 := n0_; have BK297 := n1_; have HB := n2_; have BK298 := n3_; have GW298 := n4_; have GE298 := n5_; have NB296_298 := n6_; have NB298_296 := n7_; have NB297_298 := n8_; have NB298_297 := n9_; clear n0_ n1_ n2_ n3_ n4_ n5_ n6_ n7_ n8_ n9_; clear hb hbox hg; have hnb12 := NB296_297.out; have hnc12 := NB297_296.out; have hnb13 := NB296_298.out; have hnc13 := NB298_296.out; have hcz14_0 : w11.cell? ⟨gb296, 0, none⟩ = some (.int .i64 a0_0) := bc BK296 0; have hcz14_1 : w11.cell? ⟨gb296, 1, none⟩ = some (.int .i64 a0_1) := bc BK296 1; have hfz14_0 := blk_frozen BK296.out 0; have hfz14_1 := blk_frozen BK296.out 1; have hnb15 := NB297_298.out; have hnc15 := NB298_297.out; have hcz16_0 : w11.cell? ⟨gb297, 0, none⟩ = some (.int .i64 a1_0) := bc BK297 0; have hcz16_1 : w11.cell? ⟨gb297, 1, none⟩ = some (.int .i64 a1_1) := bc BK297 1; have hfz16_0 := blk_frozen BK297.out 0; have hfz16_1 := blk_frozen BK297.out 1) | ((with_reducible refine gate_callee (f := 56) rfl ?_); refine goesL_ (some 17) rfl rfl Tryd.func56 kk rfl #[.agg #[.int .i64 a0_0, .int .i64 a0_1], .agg #[.int .i64 a1_0, .int .i64 a1_1]] rfl (by (try simp only [List.map_toArray, List.map_cons, List.map_nil]); first | done | rfl | (simp only [List.length_drop, List.length_take]; rfl)) ?_; (with_reducible refine (congr_two.calls k a0_0 a0_1 a1_0 a1_1 none _ A3.out (am (ErrAt.below hE2.out pw)).out (am (ErrAt.below hE3.out pw)).out).mono ?_); rintro e w17 ⟨rfl, hb⟩; refine ⟨_, rfl, ?_⟩; have n0_ := bb BK296 hb; have n1_ := bb BK297 hb; have n2_ := bb BK298 hb; have n3_ := am (below_step pw hb); clear BK296; clear BK297; clear BK298; clear HB; have BK296 := n0_; have BK297 := n1_; have BK298 := n2_; have HB := n3_; clear n0_ n1_ n2_ n3_; (try clear hb); (try clear hb2); (try clear hk); (try clear hi); (try simp only [errW_none, errW_some]); have hcz18_0 : w17.cell? ⟨gb296, 0, none⟩ = some (.int .i64 a0_0) := bc BK296 0; have hcz18_1 : w17.cell? ⟨gb296, 1, none⟩ = some (.int .i64 a0_1) := bc BK296 1; have hfz18_0 := blk_frozen BK296.out 0; have hfz18_1 := blk_frozen BK296.out 1; have hcz19_0 : w17.cell? ⟨gb297, 0, none⟩ = some (.int .i64 a1_0) := bc BK297 0; have hcz19_1 : w17.cell? ⟨gb297, 1, none⟩ = some (.int .i64 a1_1) := bc BK297 1; have hfz19_0 := blk_frozen BK297.out 0; have hfz19_1 := blk_frozen BK297.out 1) | ((with_reducible refine gate_callee (f := 70) rfl ?_); refine goesL_ (some 27) rfl rfl Tryd.func70 kk rfl #[.int .i64 a0_1, .int .i64 a1_0] rfl (by (try simp only [List.map_toArray, List.map_cons, List.map_nil]); first | done | rfl | (simp only [List.length_drop, List.length_take]; rfl)) ?_; (with_reducible refine (congr_times.calls a0_1 a1_0 t301 t302 _ A4.out).mono ?_); rintro e w20 ⟨rfl, hb⟩; refine ⟨_, rfl, ?_⟩; have n0_ := bb BK296 hb; have n1_ := bb BK297 hb; have n2_ := bb BK298 hb; have n3_ := am (below_step pw hb); clear BK296; clear BK297; clear BK298; clear HB; have BK296 := n0_; have BK297 := n1_; have BK298 := n2_; have HB := n3_; clear n0_ n1_ n2_ n3_; (try clear hb); (try clear hb2); (try clear hk); (try clear hi); have hcz21_0 : w20.cell? ⟨gb297, 0, none⟩ = some (.int .i64 a1_0) := bc BK297 0; have hcz21_1 : w20.cell? ⟨gb297, 1, none⟩ = some (.int .i64 a1_1) := bc BK297 1; have hfz21_0 := blk_frozen BK297.out 0; have hfz21_1 := blk_frozen BK297.out 1; have hcz22_0 : w20.cell? ⟨gb296, 0, none⟩ = some (.int .i64 a0_0) := bc BK296 0; have hcz22_1 : w20.cell? ⟨gb296, 1, none⟩ = some (.int .i64 a0_1) := bc BK296 1; have hfz22_0 := blk_frozen BK296.out 0; have hfz22_1 := blk_frozen BK296.out 1) | ((with_reducible refine gate_callee (f := 70) rfl ?_); refine goesL_ (some 35) rfl rfl Tryd.func70 kk rfl #[.int .i64 a1_1, .int .i64 a0_0] rfl (by (try simp only [List.map_toArray, List.map_cons, List.map_nil]); first | done | rfl | (simp only [List.length_drop, List.length_take]; rfl)) ?_; (with_reducible refine (congr_times.calls a1_1 a0_0 t303 t304 _ A5.out).mono ?_); rintro e w23 ⟨rfl, hb⟩; refine ⟨_, rfl, ?_⟩; have n0_ := bb BK296 hb; have n1_ := bb BK297 hb; have n2_ := bb BK298 hb; have n3_ := am (below_step pw hb); clear BK296; clear BK297; clear BK298; clear HB; have BK296 := n0_; have BK297 := n1_; have BK298 := n2_; have HB := n3_; clear n0_ n1_ n2_ n3_; (try clear hb); (try clear hb2); (try clear hk); (try clear hi); have hcz24_0 : w23.cell? ⟨gb296, 0, none⟩ = some (.int .i64 a0_0) := bc BK296 0; have hcz24_1 : w23.cell? ⟨gb296, 1, none⟩ = some (.int .i64 a0_1) := bc BK296 1; have hfz24_0 := blk_frozen BK296.out 0; have hfz24_1 := blk_frozen BK296.out 1; have hcz25_0 : w23.cell? ⟨gb297, 0, none⟩ = some (.int .i64 a1_0) := bc BK297 0; have hcz25_1 : w23.cell? ⟨gb297, 1, none⟩ = some (.int .i64 a1_1) := bc BK297 1; have hfz25_0 := blk_frozen BK297.out 0; have hfz25_1 := blk_frozen BK297.out 1) | ((with_reducible refine gate_callee (f := 70) rfl ?_); refine goesL_ (some 43) rfl rfl Tryd.func70 kk rfl #[.int .i64 a0_1, .int .i64 a1_1] rfl (by (try simp only [List.map_toArray, List.map_cons, List.map_nil]); first | done | rfl | (simp only [List.length_drop, List.length_take]; rfl)) ?_; (with_reducible refine (congr_times.calls a0_1 a1_1 t305 t306 _ A6.out).mono ?_); rintro e w26 ⟨rfl, hb⟩; refine ⟨_, rfl, ?_⟩; have n0_ := bb BK296 hb; have n1_ := bb BK297 hb; have n2_ := bb BK298 hb; have n3_ := am (below_step pw hb); clear BK296; clear BK297; clear BK298; clear HB; have BK296 := n0_; have BK297 := n1_; have BK298 := n2_; have HB := n3_; clear n0_ n1_ n2_ n3_; (try clear hb); (try clear hb2); (try clear hk); (try clear hi); have hcz27_0 : w26.cell? ⟨gb296, 0, none⟩ = some (.int .i64 a0_0) := bc BK296 0; have hcz27_1 : w26.cell? ⟨gb296, 1, none⟩ = some (.int .i64 a0_1) := bc BK296 1; have hfz27_0 := blk_frozen BK296.out 0; have hfz27_1 := blk_frozen BK296.out 1; have hcz28_0 : w26.cell? ⟨gb297, 0, none⟩ = some (.int .i64 a1_0) := bc BK297 0; have hcz28_1 : w26.cell? ⟨gb297, 1, none⟩ = some (.int .i64 a1_1) := bc BK297 1; have hfz28_0 := blk_frozen BK297.out 0; have hfz28_1 := blk_frozen BK297.out 1) | ((with_reducible refine gate_callee (f := 70) rfl ?_); refine goesL_ (some 51) rfl rfl Tryd.func70 kk rfl #[.int .i64 a0_0, .int .i64 a1_0] rfl (by (try simp only [List.map_toArray, List.map_cons, List.map_nil]); first | done | rfl | (simp only [List.length_drop, List.length_take]; rfl)) ?_; (with_reducible refine (congr_times.calls a0_0 a1_0 t307 t308 _ A7.out).mono ?_); rintro e w29 ⟨rfl, hb⟩; refine ⟨_, rfl, ?_⟩; have n0_ := bb BK296 hb; have n1_ := bb BK297 hb; have n2_ := bb BK298 hb; have n3_ := am (below_step pw hb); clear BK296; clear BK297; clear BK298; clear HB; have BK296 := n0_; have BK297 := n1_; have BK298 := n2_; have HB := n3_; clear n0_ n1_ n2_ n3_; (try clear hb); (try clear hb2); (try clear hk); (try clear hi)))
  (try simp only [Act.put, List.setIfInBounds_toArray, List.set_cons_zero, List.set_cons_succ])
  go_cut [63] (fun v63 wc => ∃ (kq : Nat) (x63_7 : Bool), v63 = .bool x63_7 ∧ Aside0 (congr_Mul.j0 kq t301 t303 t305 t307 x63_7 = some (r1, r2, r3)) ∧ Aside0 (kq ≤ k) ∧ Aside0 (wc.heap[gb296]? = some (.cells #[.int .i64 a0_0, .int .i64 a0_1] 34 (0, 0))) ∧ Aside0 (wc.heap[gb297]? = some (.cells #[.int .i64 a1_0, .int .i64 a1_1] 34 (0, 0))) ∧ Aside0 (wc.heap[gb298]? = some (.cells #[.int .i64 0, .int .i64 0] 34 (0, 0))) ∧ Aside0 (Below w.heap.size w wc))
  case first =>
   have H := HC8.out
   clear HC8
   by_cases c30 : t302 = true
   ·subst c30
    have H1 : (if t304 = true then (if t306 = true then (congr_Mul.j0 k t301 t303 t305 t307 t308) else (congr_Mul.j0 k t301 t303 t305 t307 false)) else (congr_Mul.j0 k t301 t303 t305 t307 false)) = some (r1, r2, r3) := by rw [if_pos rfl] at H; exact H
    clear H
    have H := H1
    clear H1
    by_cases c31 : t304 = true
    ·subst c31
     have H1 : (if t306 = true then (congr_Mul.j0 k t301 t303 t305 t307 t308) else (congr_Mul.j0 k t301 t303 t305 t307 false)) = some (r1, r2, r3) := by rw [if_pos rfl] at H; exact H
     clear H
     have H := H1
     clear H1
     by_cases c32 : t306 = true
     ·subst c32
      have H1 : (congr_Mul.j0 k t301 t303 t305 t307 t308) = some (r1, r2, r3) := by rw [if_pos rfl] at H; exact H
      clear H
      have H := H1
      clear H1
      have H' := am H
      clear H
      go_wp2
      go_meet
      case rel => exact ⟨_, (t308), pr, H', ⟨by first | omega | exact Nat.le_refl _⟩, ⟨by (with_reducible repeat (first | refine blk_drewN ?_ _ | refine blk_drew ?_ | refine blk_alloc ?_ _)); exact BK296.out⟩, ⟨by (with_reducible repeat (first | refine blk_drewN ?_ _ | refine blk_drew ?_ | refine blk_alloc ?_ _)); exact BK297.out⟩, ⟨by (with_reducible repeat (first | refine blk_drewN ?_ _ | refine blk_drew ?_ | refine blk_alloc ?_ _)); exact BK298.out⟩, ⟨pw⟩⟩
     replace c32 := Bool.eq_false_iff.mpr c32
     subst c32
     have H1 : (congr_Mul.j0 k t301 t303 t305 t307 false) = some (r1, r2, r3) := by rw [if_neg (show ¬ (false = true) by decide)] at H; exact H
     clear H
     have H := H1
     clear H1
     have H' := am H
     clear H
     go_wp2
     go_meet
     case rel => exact ⟨_, (false), pr, H', ⟨by first | omega | exact Nat.le_refl _⟩, ⟨by (with_reducible repeat (first | refine blk_drewN ?_ _ | refine blk_drew ?_ | refine blk_alloc ?_ _)); exact BK296.out⟩, ⟨by (with_reducible repeat (first | refine blk_drewN ?_ _ | refine blk_drew ?_ | refine blk_alloc ?_ _)); exact BK297.out⟩, ⟨by (with_reducible repeat (first | refine blk_drewN ?_ _ | refine blk_drew ?_ | refine blk_alloc ?_ _)); exact BK298.out⟩, ⟨pw⟩⟩
    replace c31 := Bool.eq_false_iff.mpr c31
    subst c31
    have H1 : (congr_Mul.j0 k t301 t303 t305 t307 false) = some (r1, r2, r3) := by rw [if_neg (show ¬ (false = true) by decide)] at H; exact H
    clear H
    have H := H1
    clear H1
    have H' := am H
    clear H
    go_wp2
    go_meet
    case rel => exact ⟨_, (false), pr, H', ⟨by first | omega | exact Nat.le_refl _⟩, ⟨by (with_reducible repeat (first | refine blk_drewN ?_ _ | refine blk_drew ?_ | refine blk_alloc ?_ _)); exact BK296.out⟩, ⟨by (with_reducible repeat (first | refine blk_drewN ?_ _ | refine blk_drew ?_ | refine blk_alloc ?_ _)); exact BK297.out⟩, ⟨by (with_reducible repeat (first | refine blk_drewN ?_ _ | refine blk_drew ?_ | refine blk_alloc ?_ _)); exact BK298.out⟩, ⟨pw⟩⟩
   replace c30 := Bool.eq_false_iff.mpr c30
   subst c30
   have H1 : (congr_Mul.j0 k t301 t303 t305 t307 false) = some (r1, r2, r3) := by rw [if_neg (show ¬ (false = true) by decide)] at H; exact H
   clear H
   have H := H1
   clear H1
   have H' := am H
   clear H
   go_wp2
   go_meet
   case rel => exact ⟨_, (false), pr, H', ⟨by first | omega | exact Nat.le_refl _⟩, ⟨by (with_reducible repeat (first | refine blk_drewN ?_ _ | refine blk_drew ?_ | refine blk_alloc ?_ _)); exact BK296.out⟩, ⟨by (with_reducible repeat (first | refine blk_drewN ?_ _ | refine blk_drew ?_ | refine blk_alloc ?_ _)); exact BK297.out⟩, ⟨by (with_reducible repeat (first | refine blk_drewN ?_ _ | refine blk_drew ?_ | refine blk_alloc ?_ _)); exact BK298.out⟩, ⟨pw⟩⟩
  clear HC8
  try clear c1
  try clear p2
  try clear c3
  try clear q3
  try clear c5
  try clear c7
  try clear c12
  try clear c13
  try clear c15
  try clear c30
  try clear q30
  try clear c31
  try clear c32
  try clear hcz14_0
  try clear hcz14_1
  try clear hcz16_0
  try clear hcz16_1
  try clear hcz18_0
  try clear hcz18_1
  try clear hcz19_0
  try clear hcz19_1
  try clear hcz21_0
  try clear hcz21_1
  try clear hcz22_0
  try clear hcz22_1
  try clear hcz24_0
  try clear hcz24_1
  try clear hcz25_0
  try clear hcz25_1
  try clear hcz27_0
  try clear hcz27_1
  try clear hcz28_0
  try clear hcz28_1
  try clear hfz14_0
  try clear hfz14_1
  try clear hfz16_0
  try clear hfz16_1
  try clear hfz18_0
  try clear hfz18_1
  try clear hfz19_0
  try clear hfz19_1
  try clear hfz21_0
  try clear hfz21_1
  try clear hfz22_0
  try clear hfz22_1
  try clear hfz24_0
  try clear hfz24_1
  try clear hfz25_0
  try clear hfz25_1
  try clear hfz27_0
  try clear hfz27_1
  try clear hfz28_0
  try clear hfz28_1
  try clear q300
  obtain ⟨kq, x63_7, rfl, HA, HJ7, BK296, BK297, BK298, HB⟩ := hcut
  cases kq with
  | zero => exact absurd HA.out (by simp [congr_Mul.j0])
  | succ kj7 =>
   have H := HA.out
   clear HA
   simp only [congr_Mul.j0] at H
   by_cases c33 : x63_7 = true
   ·subst c33
    have H1 : ((congr_gcd.f kj7 (([t301, t303, t305] : List Int))).bind fun t312 => ((congr_told.f kj7 t307 t312).bind fun bt313 => (some (bt313.1, bt313.2, none)))) = some (r1, r2, r3) := by rw [if_pos rfl] at H; exact H
    clear H
    have H := H1
    clear H1
    obtain ⟨y309, hy309⟩ : ∃ y_ : List Int, y_ = (([t301, t303, t305] : List Int)) := ⟨_, rfl⟩
    replace H : ((congr_gcd.f kj7 y309).bind fun t312 => ((congr_told.f kj7 t307 t312).bind fun bt313 => (some (bt313.1, bt313.2, none)))) = some (r1, r2, r3) := by first | (rw [hy309]; with_reducible exact H) | (have H2_ := (Option.bind_some _ _).symm.trans H; rw [hy309]; with_reducible exact H2_) | (have H2_ := (Option.bind_some _ _).symm.trans H; with_reducible exact H2_) | with_reducible exact H | (rw [hy309]; exact H) | exact H
    have Ny309 := am hy309
    clear hy309
    replace H := Option.bind_eq_some_iff.mp H
    obtain ⟨t312, A340, H⟩ := H
    replace H : ((congr_told.f kj7 t307 t312).bind fun bt313 => (some (bt313.1, bt313.2, none))) = some (r1, r2, r3) := H
    have A34 := am A340
    clear A340
    replace H := Option.bind_eq_some_iff.mp H
    obtain ⟨⟨t313, t314⟩, A350, H⟩ := H
    replace H : (some (t313, t314, none)) = some (r1, r2, r3) := H
    have A35 := am A350
    clear A350
    simp only [Option.some.injEq, Prod.mk.injEq] at H
    obtain ⟨rfl, rfl, rfl⟩ := H
    go_wp2_with (first | ((with_reducible refine gate_dst (N := 68) rfl ?_); refine Kd.R_lit (Kd.int .i64) _ 3 ?hg (N := 68) ?hd (xs := ([t301, t303, t305] : List Int)) (inner := [.int .i64 t301, .int .i64 t303, .int .i64 t305]) (ok := fun _ => True) (okp := fun _ => True) ?hr ?hp (fun _ hk => hk) trivial (Below.refl _ _) (Nat.le_refl _) (by simp) ?_; (case hd => rfl); (case hg => rfl); (case hr => first | (go_simp; done) | (go_simp; rfl)); (case hp => exact (Reps.one (show Kd.M (Kd.int .i64) _ _ _ t301 [.int .i64 t301] from rfl) (Reps.one (show Kd.M (Kd.int .i64) _ _ _ t303 [.int .i64 t303] from rfl) (Reps.one (show Kd.M (Kd.int .i64) _ _ _ t305 [.int .i64 t305] from rfl) (Reps.none _ _))))); intro v310 w36 ho37 hb hg_ hnew_; clear hg_ hnew_; (first | rw [← Ny309.out] at ho37 | (simp only [Int.reduceToNat] at ho37; rw [← Ny309.out] at ho37)); have n0_ := am (Kd.R_lower ho37 (below_size pw)); have n1_ := bb BK296 hb; have n2_ := bb BK297 hb; have n3_ := bb BK298 hb; have n4_ := am (below_step pw hb); clear BK296; clear BK297; clear BK298; clear HB; have HO311 := n0_; have BK296 := n1_; have BK297 := n2_; have BK298 := n3_; have HB := n4_; clear n0_ n1_ n2_ n3_ n4_; clear hb ho37; obtain ⟨Ao38, co38, eo38⟩ := Kd.R_slice HO311.out; subst eo38) | ((with_reducible refine gate_callee (f := 58) rfl ?_); refine goesL_ (some 69) rfl rfl Tryd.func58 kk rfl #[.slice Ao38 y309.length co38] rfl (by (try simp only [List.map_toArray, List.map_cons, List.map_nil]); first | done | rfl | (simp only [List.length_drop, List.length_take]; rfl)) ?_; (with_reducible refine (congr_gcd.calls kj7 _ _ y309 t312 _ ?side1 ?side2 A34.out).mono ?_); (case side1 => repeat (first | exact (Kd.R_reads' HO311.out).2.2 | (with_reducible refine Kd.C_alloc ?_ _) | (with_reducible refine Kd.C_drewN ?_ _) | (with_reducible refine Kd.C_drew ?_))); (case side2 => exact (Kd.R_reads' HO311.out).2.1); rintro e w39 ⟨rfl, hb⟩; refine ⟨_, rfl, ?_⟩; have n0_ := am (Kd.R_below (by (with_reducible repeat (first | apply Kd.R_alloc | apply Kd.R_drewN | apply Kd.R_drew)); exact HO311.out) hb); have n1_ := bb BK296 hb; have n2_ := bb BK297 hb; have n3_ := bb BK298 hb; have n4_ := am (below_step pw hb); clear HO311; clear BK296; clear BK297; clear BK298; clear HB; have HO311 := n0_; have BK296 := n1_; have BK297 := n2_; have BK298 := n3_; have HB := n4_; clear n0_ n1_ n2_ n3_ n4_; (try clear hb); (try clear hb2); (try clear hk); (try clear hi)) | ((with_reducible refine gate_callee (f := 59) rfl ?_); refine goesL_ (some 70) rfl rfl Tryd.func59 kk rfl #[.int .i64 t307, .int .i64 t312] rfl (by (try simp only [List.map_toArray, List.map_cons, List.map_nil]); first | done | rfl | (simp only [List.length_drop, List.length_take]; rfl)) ?_; (with_reducible refine (congr_told.calls kj7 t307 t312 t313 t314 _ A35.out).mono ?_); rintro e w40 ⟨rfl, hb⟩; refine ⟨_, rfl, ?_⟩; have n0_ := am (Kd.R_below (by (with_reducible repeat (first | apply Kd.R_alloc | apply Kd.R_drewN | apply Kd.R_drew)); exact HO311.out) hb); have n1_ := bb BK296 hb; have n2_ := bb BK297 hb; have n3_ := bb BK298 hb; have n4_ := am (below_step pw hb); clear HO311; clear BK296; clear BK297; clear BK298; clear HB; have HO311 := n0_; have BK296 := n1_; have BK297 := n2_; have BK298 := n3_; have HB := n4_; clear n0_ n1_ n2_ n3_ n4_; (try clear hb); (try clear hb2); (try clear hk); (try clear hi); have hnb41 := NB298_296.out; have hnc41 := NB296_298.out; have hnb42 := NB298_297.out; have hnc42 := NB297_298.out; have hcz43_0 : w40.cell? ⟨gb298, 0, none⟩ = some (.int .i64 0) := bc BK298 0; have hcz43_1 : w40.cell? ⟨gb298, 1, none⟩ = some (.int .i64 0) := bc BK298 1; have hfz43_0 := blk_frozen BK298.out 0; have hfz43_1 := blk_frozen BK298.out 1))
    refine bodyPost_ret (results_ct rfl _ _ gb298 34 #[.int .i64 t313, .int .i64 t314] (0, 0) _ rfl (by (with_reducible repeat (first | refine blk_drewN ?_ _ | refine blk_drew ?_ | refine blk_alloc ?_ _)); refine blk_put (cs := #[.int .i64 t313, .int .i64 0]) ?_ 1 _ rfl; (with_reducible repeat (first | refine blk_drewN ?_ _ | refine blk_drew ?_ | refine blk_alloc ?_ _)); refine blk_put (cs := #[.int .i64 0, .int .i64 0]) ?_ 0 _ rfl; (with_reducible repeat (first | refine blk_drewN ?_ _ | refine blk_drew ?_ | refine blk_alloc ?_ _)); exact BK298.out) Tryd.underlying34 rfl kk) rfl ?_
    exact ⟨pe, pw⟩
   replace c33 := Bool.eq_false_iff.mpr c33
   subst c33
   have H1 : (some (0, 1, none)) = some (r1, r2, r3) := by rw [if_neg (show ¬ (false = true) by decide)] at H; exact H
   clear H
   have H := H1
   clear H1
   simp only [Option.some.injEq, Prod.mk.injEq] at H
   obtain ⟨rfl, rfl, rfl⟩ := H
   have hnb44 := NB298_296.out
   have hnc44 := NB296_298.out
   have hnb45 := NB298_297.out
   have hnc45 := NB297_298.out
   have hcz46_0 : wc.cell? ⟨gb298, 0, none⟩ = some (.int .i64 0) := bc BK298 0
   have hcz46_1 : wc.cell? ⟨gb298, 1, none⟩ = some (.int .i64 0) := bc BK298 1
   have hfz46_0 := blk_frozen BK298.out 0
   have hfz46_1 := blk_frozen BK298.out 1
   go_wp2
   refine bodyPost_ret (results_ct rfl _ _ gb298 34 #[.int .i64 0, .int .i64 1] (0, 0) _ rfl (by (with_reducible repeat (first | refine blk_drewN ?_ _ | refine blk_drew ?_ | refine blk_alloc ?_ _)); refine blk_put (cs := #[.int .i64 0, .int .i64 0]) ?_ 1 _ rfl; (with_reducible repeat (first | refine blk_drewN ?_ _ | refine blk_drew ?_ | refine blk_alloc ?_ _)); refine blk_put (cs := #[.int .i64 0, .int .i64 0]) ?_ 0 _ rfl; (with_reducible repeat (first | refine blk_drewN ?_ _ | refine blk_drew ?_ | refine blk_alloc ?_ _)); exact BK298.out) Tryd.underlying34 rfl kk) rfl ?_
   exact ⟨pe, pw⟩
 have H1 : (some (0, 0, some q300)) = some (r1, r2, r3) := by rw [if_neg (show ¬ (some q300).isNone = true by simp)] at H; exact H
 clear H
 have H := H1
 clear H1
 try simp only [errW_none, errW_some]
 simp only [Option.some.injEq, Prod.mk.injEq] at H
 obtain ⟨rfl, rfl, rfl⟩ := H
 go_enter Tryd.func50, Tryd.ntmps50
 go_wp2_with (first | ((with_reducible refine gate_dst (N := 2) rfl ?_); refine box_event ?hg (N := 2) ?hd (cs := #[.int .i64 a0_0, .int .i64 a0_1]) (t := 34) ?hr ?_; (case hd => rfl); (case hg => rfl); (case hr => first | (go_simp; done) | (go_simp; rfl)); intro gb296 hg w47 hbox hb; have n0_ := am (below_step pw hb); have n1_ := am (hbox); have n2_ := am ((by rw [hg]; exact (below_size pw) : w.heap.size ≤ gb296)); have n3_ := am ((by rw [hg]; exact (below_size pw) : w.heap.size ≤ gb296)); clear HB; have HB := n0_; have BK296 := n1_; have GW296 := n2_; have GE296 := n3_; clear n0_ n1_ n2_ n3_; clear hb hbox hg) | ((with_reducible refine gate_dst (N := 3) rfl ?_); refine box_event ?hg (N := 3) ?hd (cs := #[.int .i64 a1_0, .int .i64 a1_1]) (t := 34) ?hr ?_; (case hd => rfl); (case hg => rfl); (case hr => first | (go_simp; done) | (go_simp; rfl)); intro gb297 hg w48 hbox hb; have n0_ := bb BK296 hb; have n1_ := am (below_step pw hb); have n2_ := am (hbox); have n3_ := am ((by rw [hg]; exact (below_size pw) : w.heap.size ≤ gb297)); have n4_ := am ((by rw [hg]; exact (below_size pw) : w.heap.size ≤ gb297)); have n5_ := am ((by rw [hg]; exact Nat.ne_of_lt (blk_lt pk) : gb296 ≠ gb297)); have n6_ := am ((by rw [hg]; exact Nat.ne_of_gt (blk_lt pk) : gb297 ≠ gb296)); clear BK296; clear HB; have BK296 := n0_; have HB := n1_; have BK297 := n2_; have GW297 := n3_; have GE297 := n4_; have NB296_297 := n5_; have NB297_296 := n6_; clear n0_ n1_ n2_ n3_ n4_ n5_ n6_; clear hb hbox hg) | ((with_reducible refine gate_dst (N := 4) rfl ?_); refine box_event ?hg (N := 4) ?hd (cs := #[.int .i64 0, .int .i64 0]) (t := 34) ?hr ?_; (case hd => rfl); (case hg => rfl); (case hr => first | (go_simp; done) | (go_simp; rfl)); intro gb298 hg w49 hbox hb; have n0_ := bb BK296 hb; have n1_ := bb BK297 hb; have n2_ := am (below_step pw hb); have n3_ := am (hbox); have n4_ := am ((by rw [hg]; exact (below_size pw) : w.heap.size ≤ gb298)); have n5_ := am ((by rw [hg]; exact (below_size pw) : w.heap.size ≤ gb298)); have n6_ := am ((by rw [hg]; exact Nat.ne_of_lt (blk_lt pk) : gb296 ≠ gb298)); have n7_ := am ((by rw [hg]; exact Nat.ne_of_gt (blk_lt pk) : gb298 ≠ gb296)); have n8_ := am ((by rw [hg]; exact Nat.ne_of_lt (blk_lt pk) : gb297 ≠ gb298)); have n9_ := am ((by rw [hg]; exact Nat.ne_of_gt (blk_lt pk) : gb298 ≠ gb297)); clear BK296; clear BK297; clear HB; have BK296 := n0_; have BK297 := n1_; have HB := n2_; have BK298 := n3_; have GW298 := n4_; have GE298 := n5_; have NB296_298 := n6_; have NB298_296 := n7_; have NB297_298 := n8_; have NB298_297 := n9_; clear n0_ n1_ n2_ n3_ n4_ n5_ n6_ n7_ n8_ n9_; clear hb hbox hg; have hnb50 := NB296_297.out; have hnc50 := NB297_296.out; have hnb51 := NB296_298.out; have hnc51 := NB298_296.out; have hcz52_0 : w49.cell? ⟨gb296, 0, none⟩ = some (.int .i64 a0_0) := bc BK296 0; have hcz52_1 : w49.cell? ⟨gb296, 1, none⟩ = some (.int .i64 a0_1) := bc BK296 1; have hfz52_0 := blk_frozen BK296.out 0; have hfz52_1 := blk_frozen BK296.out 1; have hnb53 := NB297_298.out; have hnc53 := NB298_297.out; have hcz54_0 : w49.cell? ⟨gb297, 0, none⟩ = some (.int .i64 a1_0) := bc BK297 0; have hcz54_1 : w49.cell? ⟨gb297, 1, none⟩ = some (.int .i64 a1_1) := bc BK297 1; have hfz54_0 := blk_frozen BK297.out 0; have hfz54_1 := blk_frozen BK297.out 1) | ((with_reducible refine gate_callee (f := 56) rfl ?_); refine goesL_ (some 17) rfl rfl Tryd.func56 kk rfl #[.agg #[.int .i64 a0_0, .int .i64 a0_1], .agg #[.int .i64 a1_0, .int .i64 a1_1]] rfl (by (try simp only [List.map_toArray, List.map_cons, List.map_nil]); first | done | rfl | (simp only [List.length_drop, List.length_take]; rfl)) ?_; (with_reducible refine (congr_two.calls k a0_0 a0_1 a1_0 a1_1 (some q300) _ A3.out (am (ErrAt.below hE2.out pw)).out (am (ErrAt.below hE3.out pw)).out).mono ?_); rintro e w55 ⟨rfl, hb⟩; refine ⟨_, rfl, ?_⟩; have n0_ := bb BK296 hb; have n1_ := bb BK297 hb; have n2_ := bb BK298 hb; have n3_ := am (below_step pw hb); clear BK296; clear BK297; clear BK298; clear HB; have BK296 := n0_; have BK297 := n1_; have BK298 := n2_; have HB := n3_; clear n0_ n1_ n2_ n3_; (try clear hb); (try clear hb2); (try clear hk); (try clear hi); (try simp only [errW_none, errW_some]); have hcz56_0 : w55.cell? ⟨gb298, 0, none⟩ = some (.int .i64 0) := bc BK298 0; have hcz56_1 : w55.cell? ⟨gb298, 1, none⟩ = some (.int .i64 0) := bc BK298 1; have hfz56_0 := blk_frozen BK298.out 0; have hfz56_1 := blk_frozen BK298.out 1))
 refine bodyPost_ret (results_ct rfl _ _ gb298 34 #[.int .i64 0, .int .i64 0] (0, 0) _ rfl (by (with_reducible repeat (first | refine blk_drewN ?_ _ | refine blk_drew ?_ | refine blk_alloc ?_ _)); refine blk_put (cs := #[.int .i64 0, .int .i64 0]) ?_ 1 _ rfl; (with_reducible repeat (first | refine blk_drewN ?_ _ | refine blk_drew ?_ | refine blk_alloc ?_ _)); refine blk_put (cs := #[.int .i64 0, .int .i64 0]) ?_ 0 _ rfl; (with_reducible repeat (first | refine blk_drewN ?_ _ | refine blk_drew ?_ | refine blk_alloc ?_ _)); exact BK298.out) Tryd.underlying34 rfl kk) rfl ?_
 exact ⟨pe, pw⟩

/-! ### congr_Scale: function 51 -/
def congr_Scale.f (k : Nat) (a0_0 : Int) (a0_1 : Int) (a1 : Int) : Option (Int × Int × Option Int) := (congr_Valid.f k a0_0 a0_1).bind fun t317 => (if t317.isNone = true then ((congr_far.f a1 1048576).bind fun t319 => (if t319 = true then (some (0, 0, some 2)) else ((congr_size.f (wrap64 (a0_1 * a1))).bind fun t320 => ((congr_told.f k (wrap64 (a0_0 * a1)) t320).bind fun bt321 => (some (bt321.1, bt321.2, none)))))) else (some (0, 0, some (t317.getD 0))))
theorem congr_Scale.mono : ∀ a0 a1 a2 k, LeO (congr_Scale.f k a0 a1 a2) (congr_Scale.f (k + 1) a0 a1 a2) := by
 intro a0 a1 a2 k
 unfold congr_Scale.f
 repeat' first
   | (with_reducible exact congr_Valid.mono _ _ _)
   | (with_reducible exact congr_told.mono _ _ _)
   | (with_reducible exact LeO.refl _)
   | (with_reducible exact LeO.none _)
   | (with_reducible refine LeO.ite ?_ ?_)
   | (with_reducible refine LeO.bind ?_ (fun _ => ?_))
   | exact congr_Valid.mono _ _ _
   | exact congr_told.mono _ _ _
   | exact LeO.none _
   | refine LeO.ite ?_ ?_
   | refine LeO.bind ?_ (fun _ => ?_)
def congr_Scale.T6 : Bool × List (List Nat × List Nat) := (true, [([], []), ([0], [0]), ([], []), ([1, 2], [1, 2]), ([], []), ([4], [4]), ([], []), ([5, 6], [5, 6]), ([7], [7]), ([3, 8, 8], [3, 8]), ([9, 9, 0, 1, 2, 3, 4, 5, 6, 7, 8, 9], [9]), ([10, 0, 1, 2, 3, 4, 5, 6, 7, 8, 9, 10], [])])
def congr_Scale.B6 : List Nat := [0, 1, 0, 7, 0, 16, 0, 112, 240, 511, 1023, 2047]
theorem congr_Scale.tab6 : rtab .any (opsOf Tryd.f51 6) = congr_Scale.T6 := by kernel_rfl
theorem congr_Scale.bits6 : waitsOk congr_Scale.T6.2 congr_Scale.B6 = true := by kernel_rfl
set_option maxHeartbeats 8000000 in
set_option maxRecDepth 100000 in
theorem congr_Scale.calls [EA] (k : Nat) (a0_0 : Int) (a0_1 : Int) (a1 : Int) (r1 : Int) (r2 : Int) (r3 : Option Int) (w : World) (h : congr_Scale.f k a0_0 a0_1 a1 = some (r1, r2, r3)) (h2_ : ErrAt 2 1 w) (h3_ : ErrAt 3 0 w) :
  Calls Tryd.prog 51 #[.agg #[.int .i64 a0_0, .int .i64 a0_1], .int .i64 a1] w fun e w' => e = .returned (.tuple #[.agg #[.int .i64 r1, .int .i64 r2], errW r3]) ∧ Below w.heap.size w w' := by
 have hE2 := am h2_
 clear h2_
 have hE3 := am h3_
 clear h3_
 have hu34 := Tryd.underlying34
 have hu28 := Tryd.underlying28
 have HB := am (Below.refl w.heap.size w)
 have H : ((congr_Valid.f k a0_0 a0_1).bind fun t317 => (if t317.isNone = true then ((congr_far.f a1 1048576).bind fun t319 => (if t319 = true then (some (0, 0, some 2)) else ((congr_size.f (wrap64 (a0_1 * a1))).bind fun t320 => ((congr_told.f k (wrap64 (a0_0 * a1)) t320).bind fun bt321 => (some (bt321.1, bt321.2, none)))))) else (some (0, 0, some (t317.getD 0))))) = some (r1, r2, r3) := h
 clear h
 replace H := Option.bind_eq_some_iff.mp H
 obtain ⟨t317, A30, H⟩ := H
 replace H : (if t317.isNone = true then ((congr_far.f a1 1048576).bind fun t319 => (if t319 = true then (some (0, 0, some 2)) else ((congr_size.f (wrap64 (a0_1 * a1))).bind fun t320 => ((congr_told.f k (wrap64 (a0_0 * a1)) t320).bind fun bt321 => (some (bt321.1, bt321.2, none)))))) else (some (0, 0, some (t317.getD 0)))) = some (r1, r2, r3) := H
 have A3 := am A30
 clear A30
 rcases t317 with _ | q318
 ·have H1 : ((congr_far.f a1 1048576).bind fun t319 => (if t319 = true then (some (0, 0, some 2)) else ((congr_size.f (wrap64 (a0_1 * a1))).bind fun t320 => ((congr_told.f k (wrap64 (a0_0 * a1)) t320).bind fun bt321 => (some (bt321.1, bt321.2, none)))))) = some (r1, r2, r3) := by rw [if_pos (show (none : Option Int).isNone = true by rfl)] at H; exact H
  clear H
  have H := H1
  clear H1
  try simp only [errW_none, errW_some]
  replace H := Option.bind_eq_some_iff.mp H
  obtain ⟨t319, A40, H⟩ := H
  replace H : (if t319 = true then (some (0, 0, some 2)) else ((congr_size.f (wrap64 (a0_1 * a1))).bind fun t320 => ((congr_told.f k (wrap64 (a0_0 * a1)) t320).bind fun bt321 => (some (bt321.1, bt321.2, none))))) = some (r1, r2, r3) := H
  have A4 := am A40
  clear A40
  by_cases c5 : t319 = true
  ·subst c5
   have H1 : (some (0, 0, some 2)) = some (r1, r2, r3) := by rw [if_pos rfl] at H; exact H
   clear H
   have H := H1
   clear H1
   simp only [Option.some.injEq, Prod.mk.injEq] at H
   obtain ⟨rfl, rfl, rfl⟩ := H
   go_enter Tryd.func51, Tryd.ntmps51
   try go_wp2_with (first | ((with_reducible refine gate_dst (N := 2) rfl ?_); refine box_event ?hg (N := 2) ?hd (cs := #[.int .i64 a0_0, .int .i64 a0_1]) (t := 34) ?hr ?_; (case hd => rfl); (case hg => rfl); (case hr => first | (go_simp; done) | (go_simp; rfl)); intro gb315 hg w6 hbox hb; have n0_ := am (below_step pw hb); have n1_ := am (hbox); have n2_ := am ((by rw [hg]; exact (below_size pw) : w.heap.size ≤ gb315)); have n3_ := am ((by rw [hg]; exact (below_size pw) : w.heap.size ≤ gb315)); clear HB; have HB := n0_; have BK315 := n1_; have GW315 := n2_; have GE315 := n3_; clear n0_ n1_ n2_ n3_; clear hb hbox hg) | ((with_reducible refine gate_dst (N := 4) rfl ?_); refine box_event ?hg (N := 4) ?hd (cs := #[.int .i64 0, .int .i64 0]) (t := 34) ?hr ?_; (case hd => rfl); (case hg => rfl); (case hr => first | (go_simp; done) | (go_simp; rfl)); intro gb316 hg w7 hbox hb; have n0_ := bb BK315 hb; have n1_ := am (below_step pw hb); have n2_ := am (hbox); have n3_ := am ((by rw [hg]; exact (below_size pw) : w.heap.size ≤ gb316)); have n4_ := am ((by rw [hg]; exact (below_size pw) : w.heap.size ≤ gb316)); have n5_ := am ((by rw [hg]; exact Nat.ne_of_lt (blk_lt pk) : gb315 ≠ gb316)); have n6_ := am ((by rw [hg]; exact Nat.ne_of_gt (blk_lt pk) : gb316 ≠ gb315)); clear BK315; clear HB; have BK315 := n0_; have HB := n1_; have BK316 := n2_; have GW316 := n3_; have GE316 := n4_; have NB315_316 := n5_; have NB316_315 := n6_; clear n0_ n1_ n2_ n3_ n4_ n5_ n6_; clear hb hbox hg; have hnb8 := NB315_316.out; have hnc8 := NB316_315.out; have hcz9_0 : w7.cell? ⟨gb315, 0, none⟩ = some (.int .i64 a0_0) := bc BK315 0; have hcz9_1 : w7.cell? ⟨gb315, 1, none⟩ = some (.int .i64 a0_1) := bc BK315 1; have hfz9_0 := blk_frozen BK315.out 0; have hfz9_1 := blk_frozen BK315.out 1) | ((with_reducible refine gate_callee (f := 29) rfl ?_); refine goesL_ (some 8) rfl rfl Tryd.func29 kk rfl #[.agg #[.int .i64 a0_0, .int .i64 a0_1]] rfl (by (try simp only [List.map_toArray, List.map_cons, List.map_nil]); first | done | rfl | (simp only [List.length_drop, List.length_take]; rfl)) ?_; (with_reducible refine (congr_Valid.calls k a0_0 a0_1 none _ A3.out (am (ErrAt.below hE2.out pw)).out (am (ErrAt.below hE3.out pw)).out).mono ?_); rintro e w10 ⟨rfl, hb⟩; refine ⟨_, rfl, ?_⟩; have n0_ := bb BK315 hb; have n1_ := bb BK316 hb; have n2_ := am (below_step pw hb); clear BK315; clear BK316; clear HB; have BK315 := n0_; have BK316 := n1_; have HB := n2_; clear n0_ n1_ n2_; (try clear hb); (try clear hb2); (try clear hk); (try clear hi); (try simp only [errW_none, errW_some])) | ((with_reducible refine gate_callee (f := 61) rfl ?_); refine goesL_ (some 14) rfl rfl Tryd.func61 kk rfl #[.int .i64 a1, .int .i64 1048576] rfl (by (try simp only [List.map_toArray, List.map_cons, List.map_nil]); first | done | rfl | (simp only [List.length_drop, List.length_take]; rfl)) ?_; (with_reducible refine (congr_far.calls a1 1048576 true _ A4.out).mono ?_); rintro e w' ⟨rfl, ⟨nd, rfl⟩⟩; refine ⟨_, rfl, ?_⟩; (try (rw [drewN_self w10]; generalize hq_ : World.drewN w10 _ = w10; have n0_ : Aside0 (w10.heap[gb315]? = some (.cells #[.int .i64 a0_0, .int .i64 a0_1] 34 (0, 0))) := ⟨by rw [← hq_]; exact pk⟩; have n1_ : Aside0 (w10.heap[gb316]? = some (.cells #[.int .i64 0, .int .i64 0] 34 (0, 0))) := ⟨by rw [← hq_]; exact pk⟩; have n2_ : Aside0 (Below w.heap.size w w10) := ⟨by rw [← hq_]; exact pw⟩; clear BK315 BK316 HB hq_; have BK315 := n0_; have BK316 := n1_; have HB := n2_; clear n0_ n1_ n2_))))
   have n0_ := am (blk_drew BK315.out)
   have n1_ := am (blk_drew BK316.out)
   have n2_ := am (below_drew1 HB.out)
   clear BK315 BK316 HB
   revert n0_ n1_ n2_
   intro BK315 BK316 HB
   refine start_ (n := 4) (S := fun w' => w'.cell? ⟨1, 0, none⟩ = some (.iface 130 (.pointer (some (EA.adr 2))))) (ds := []) #[false, false, false, false] kk rfl rfl (((HB.out.cell (World.block_lt_of_cell? w _ hE2.out.cell)).trans hE2.out.cell)) (fun hHeld => ?_)
   generalize w10.drew = w11 at BK315 BK316 HB hHeld ⊢
   refine pure_ (i := 0) (N := some 15) (v := ?_) (a' := ?_) #[true, false, false, false] rfl rfl kk (fun _ _ _ h => h) (Or.inl ⟨by rfl, ?_⟩) ?_ ?_
   rotate_left
   ·intro w'
    go_simp
    with_reducible rfl
   rotate_left
   ·simp only [Act.put, List.setIfInBounds_toArray, List.set_cons_zero, List.set_cons_succ, i64_w, i32_w]
    rfl
   refine take_ (i := 1) (N := some 16) (v := ?_) (a' := ?_) #[true, true, false, false] rfl rfl kk (fun _ _ _ h => h) (Or.inl ⟨by rfl, ?_⟩) hHeld ?_ ?_
   rotate_left
   ·intro w' s0
    go_simp
    with_reducible rfl
   rotate_left
   ·simp only [Act.put, List.setIfInBounds_toArray, List.set_cons_zero, List.set_cons_succ, i64_w, i32_w]
    rfl
   refine one_ (i := 2) (N := none) #[true, true, true, false] rfl rfl kk (by decide) (fun K hK => ?_)
   have hs12 : w11.cell? ⟨gb316, 0, none⟩ = some (.int .i64 0) := bc BK316 0
   have hfs12 := blk_frozen BK316.out 0
   have hns12_0 := NB315_316.out
   have hms12_0 := NB316_315.out
   have hs13 : w11.cell? ⟨gb316, 1, none⟩ = some (.int .i64 0) := bc BK316 1
   have hfs13 := blk_frozen BK316.out 1
   have hns13_0 := NB315_316.out
   have hms13_0 := NB316_315.out
   refine skip_ (w1 := ?_) (by rfl) rfl ?_ ?_
   rotate_left
   ·go_simp
    rfl
   refine hK.out _ _ (((cell_far (p := ⟨gb316, _, none⟩) (by first | exact Nat.ne_of_lt (Nat.lt_of_lt_of_le (ErrAt.lt hE2.out) GW316.out) | (rw [add_block]; exact Nat.ne_of_lt (Nat.lt_of_lt_of_le (ErrAt.lt hE2.out) GW316.out)) | (show (Addr.add _ _).block ≠ _; rw [add_block]; exact Nat.ne_of_lt (Nat.lt_of_lt_of_le (ErrAt.lt hE2.out) GW316.out)) | (dsimp only; exact Nat.ne_of_lt (Nat.lt_of_lt_of_le (ErrAt.lt hE2.out) GW316.out))) _).trans (((cell_far (p := ⟨gb316, _, none⟩) (by first | exact Nat.ne_of_lt (Nat.lt_of_lt_of_le (ErrAt.lt hE2.out) GW316.out) | (rw [add_block]; exact Nat.ne_of_lt (Nat.lt_of_lt_of_le (ErrAt.lt hE2.out) GW316.out)) | (show (Addr.add _ _).block ≠ _; rw [add_block]; exact Nat.ne_of_lt (Nat.lt_of_lt_of_le (ErrAt.lt hE2.out) GW316.out)) | (dsimp only; exact Nat.ne_of_lt (Nat.lt_of_lt_of_le (ErrAt.lt hE2.out) GW316.out))) _).trans (hHeld))))) (fun hHeld => ?_)
   clear hK K
   refine pure_ (i := 3) (N := some 5) (v := ?_) (a' := ?_) #[true, true, true, true] rfl rfl kk (fun _ _ _ h => h) (Or.inl ⟨by rfl, ?_⟩) ?_ ?_
   rotate_left
   ·intro w'
    go_simp
    with_reducible rfl
   rotate_left
   ·simp only [Act.put, List.setIfInBounds_toArray, List.set_cons_zero, List.set_cons_succ, i64_w, i32_w]
    rfl
   refine done_ kk ?_
   try go_wp2
   refine bodyPost_ret (results_ct rfl _ _ gb316 34 #[.int .i64 0, .int .i64 0] (0, 0) _ rfl (by (with_reducible repeat (first | refine blk_drewN ?_ _ | refine blk_drew ?_ | refine blk_alloc ?_ _)); refine blk_put (cs := #[.int .i64 0, .int .i64 0]) ?_ 1 _ rfl; (with_reducible repeat (first | refine blk_drewN ?_ _ | refine blk_drew ?_ | refine blk_alloc ?_ _)); refine blk_put (cs := #[.int .i64 0, .int .i64 0]) ?_ 0 _ rfl; (with_reducible repeat (first | refine blk_drewN ?_ _ | refine blk_drew ?_ | refine blk_alloc ?_ _)); exact BK316.out) Tryd.underlying34 rfl kk) rfl ?_
   exact ⟨pe, pw⟩
  replace c5 := Bool.eq_false_iff.mpr c5
  subst c5
  have H1 : ((congr_size.f (wrap64 (a0_1 * a1))).bind fun t320 => ((congr_told.f k (wrap64 (a0_0 * a1)) t320).bind fun bt321 => (some (bt321.1, bt321.2, none)))) = some (r1, r2, r3) := by rw [if_neg (show ¬ (false = true) by decide)] at H; exact H
  clear H
  have H := H1
  clear H1
  replace H := Option.bind_eq_some_iff.mp H
  obtain ⟨t320, A140, H⟩ := H
  replace H : ((congr_told.f k (wrap64 (a0_0 * a1)) t320).bind fun bt321 => (some (bt321.1, bt321.2, none))) = some (r1, r2, r3) := H
  have A14 := am A140
  clear A140
  replace H := Option.bind_eq_some_iff.mp H
  obtain ⟨⟨t321, t322⟩, A150, H⟩ := H
  replace H : (some (t321, t322, none)) = some (r1, r2, r3) := H
  have A15 := am A150
  clear A150
  simp only [Option.some.injEq, Prod.mk.injEq] at H
  obtain ⟨rfl, rfl, rfl⟩ := H
  go_enter Tryd.func51, Tryd.ntmps51
  try go_wp2_with (first | ((with_reducible refine gate_dst (N := 2) rfl ?_); refine box_event ?hg (N := 2) ?hd (cs := #[.int .i64 a0_0, .int .i64 a0_1]) (t := 34) ?hr ?_; (case hd => rfl); (case hg => rfl); (case hr => first | (go_simp; done) | (go_simp; rfl)); intro gb315 hg w16 hbox hb; have n0_ := am (below_step pw hb); have n1_ := am (hbox); have n2_ := am ((by rw [hg]; exact (below_size pw) : w.heap.size ≤ gb315)); have n3_ := am ((by rw [hg]; exact (below_size pw) : w.heap.size ≤ gb315)); clear HB; have HB := n0_; have BK315 := n1_; have GW315 := n2_; have GE315 := n3_; clear n0_ n1_ n2_ n3_; clear hb hbox hg) | ((with_reducible refine gate_dst (N := 4) rfl ?_); refine box_event ?hg (N := 4) ?hd (cs := #[.int .i64 0, .int .i64 0]) (t := 34) ?hr ?_; (case hd => rfl); (case hg => rfl); (case hr => first | (go_simp; done) | (go_simp; rfl)); intro gb316 hg w17 hbox hb; have n0_ := bb BK315 hb; have n1_ := am (below_step pw hb); have n2_ := am (hbox); have n3_ := am ((by rw [hg]; exact (below_size pw) : w.heap.size ≤ gb316)); have n4_ := am ((by rw [hg]; exact (below_size pw) : w.heap.size ≤ gb316)); have n5_ := am ((by rw [hg]; exact Nat.ne_of_lt (blk_lt pk) : gb315 ≠ gb316)); have n6_ := am ((by rw [hg]; exact Nat.ne_of_gt (blk_lt pk) : gb316 ≠ gb315)); clear BK315; clear HB; have BK315 := n0_; have HB := n1_; have BK316 := n2_; have GW316 := n3_; have GE316 := n4_; have NB315_316 := n5_; have NB316_315 := n6_; clear n0_ n1_ n2_ n3_ n4_ n5_ n6_; clear hb hbox hg; have hnb18 := NB315_316.out; have hnc18 := NB316_315.out; have hcz19_0 : w17.cell? ⟨gb315, 0, none⟩ = some (.int .i64 a0_0) := bc BK315 0; have hcz19_1 : w17.cell? ⟨gb315, 1, none⟩ = some (.int .i64 a0_1) := bc BK315 1; have hfz19_0 := blk_frozen BK315.out 0; have hfz19_1 := blk_frozen BK315.out 1) | ((with_reducible refine gate_callee (f := 29) rfl ?_); refine goesL_ (some 8) rfl rfl Tryd.func29 kk rfl #[.agg #[.int .i64 a0_0, .int .i64 a0_1]] rfl (by (try simp only [List.map_toArray, List.map_cons, List.map_nil]); first | done | rfl | (simp only [List.length_drop, List.length_take]; rfl)) ?_; (with_reducible refine (congr_Valid.calls k a0_0 a0_1 none _ A3.out (am (ErrAt.below hE2.out pw)).out (am (ErrAt.below hE3.out pw)).out).mono ?_); rintro e w20 ⟨rfl, hb⟩; refine ⟨_, rfl, ?_⟩; have n0_ := bb BK315 hb; have n1_ := bb BK316 hb; have n2_ := am (below_step pw hb); clear BK315; clear BK316; clear HB; have BK315 := n0_; have BK316 := n1_; have HB := n2_; clear n0_ n1_ n2_; (try clear hb); (try clear hb2); (try clear hk); (try clear hi); (try simp only [errW_none, errW_some])) | ((with_reducible refine gate_callee (f := 61) rfl ?_); refine goesL_ (some 14) rfl rfl Tryd.func61 kk rfl #[.int .i64 a1, .int .i64 1048576] rfl (by (try simp only [List.map_toArray, List.map_cons, List.map_nil]); first | done | rfl | (simp only [List.length_drop, List.length_take]; rfl)) ?_; (with_reducible refine (congr_far.calls a1 1048576 false _ A4.out).mono ?_); rintro e w' ⟨rfl, ⟨nd, rfl⟩⟩; refine ⟨_, rfl, ?_⟩; (try (rw [drewN_self w20]; generalize hq_ : World.drewN w20 _ = w20; have n0_ : Aside0 (w20.heap[gb315]? = some (.cells #[.int .i64 a0_0, .int .i64 a0_1] 34 (0, 0))) := ⟨by rw [← hq_]; exact pk⟩; have n1_ : Aside0 (w20.heap[gb316]? = some (.cells #[.int .i64 0, .int .i64 0] 34 (0, 0))) := ⟨by rw [← hq_]; exact pk⟩; have n2_ : Aside0 (Below w.heap.size w w20) := ⟨by rw [← hq_]; exact pw⟩; clear BK315 BK316 HB hq_; have BK315 := n0_; have BK316 := n1_; have HB := n2_; clear n0_ n1_ n2_))))
  have n0_ := am (blk_drew BK315.out)
  have n1_ := am (blk_drew BK316.out)
  have n2_ := am (below_drew1 HB.out)
  clear BK315 BK316 HB
  revert n0_ n1_ n2_
  intro BK315 BK316 HB
  refine start_ (n := 12) (S := fun w' => w'.cell? ⟨gb315, 0, none⟩ = some (.int .i64 a0_0) ∧ w'.cell? ⟨gb315, 1, none⟩ = some (.int .i64 a0_1)) (ds := []) #[false, false, false, false, false, false, false, false, false, false, false, false] kk rfl rfl ⟨bc BK315 0, bc BK315 1⟩ (fun hHeld => ?_); refine with_tabW congr_Scale.tab6 congr_Scale.bits6 (fun HT_ HW_ => ?_)
  generalize w20.drew = w21 at BK315 BK316 HB hHeld ⊢
  refine pure_ (i := 0) (N := some 17) (v := ?_) (a' := ?_) #[true, false, false, false, false, false, false, false, false, false, false, false] rfl rfl (any_of HT_.out kk) (fun _ _ _ h => h) (Or.inl ⟨by rfl, ?_⟩) ?_ ?_
  rotate_left
  ·intro w'
   go_simp
   with_reducible rfl
  rotate_left
  ·simp only [Act.put, List.setIfInBounds_toArray, List.set_cons_zero, List.set_cons_succ, i64_w, i32_w]
   rfl
  refine pure_ (i := 2) (N := some 19) (v := ?_) (a' := ?_) #[true, false, true, false, false, false, false, false, false, false, false, false] rfl rfl (any_of HT_.out kk) (fun _ _ _ h => h) (Or.inl ⟨by rfl, ?_⟩) ?_ ?_
  rotate_left
  ·intro w'
   go_simp
   with_reducible rfl
  rotate_left
  ·simp only [Act.put, List.setIfInBounds_toArray, List.set_cons_zero, List.set_cons_succ, i64_w, i32_w]
   rfl
  refine pure_ (i := 4) (N := some 21) (v := ?_) (a' := ?_) #[true, false, true, false, true, false, false, false, false, false, false, false] rfl rfl (any_of HT_.out kk) (fun _ _ _ h => h) (Or.inl ⟨by rfl, ?_⟩) ?_ ?_
  rotate_left
  ·intro w'
   go_simp
   with_reducible rfl
  rotate_left
  ·simp only [Act.put, List.setIfInBounds_toArray, List.set_cons_zero, List.set_cons_succ, i64_w, i32_w]
   rfl
  refine pure_ (i := 6) (N := some 23) (v := ?_) (a' := ?_) #[true, false, true, false, true, false, true, false, false, false, false, false] rfl rfl (any_of HT_.out kk) (fun _ _ _ h => h) (Or.inl ⟨by rfl, ?_⟩) ?_ ?_
  rotate_left
  ·intro w'
   go_simp
   with_reducible rfl
  rotate_left
  ·simp only [Act.put, List.setIfInBounds_toArray, List.set_cons_zero, List.set_cons_succ, i64_w, i32_w]
   rfl
  refine take_ (i := 1) (N := some 18) (v := ?_) (a' := ?_) #[true, true, true, false, true, false, true, false, false, false, false, false] rfl rfl (take_ofW HT_.out HW_.out kk) (fun _ _ _ h => h) (Or.inl ⟨by rfl, ?_⟩) hHeld ?_ ?_
  rotate_left
  ·rintro w' ⟨s0, s1⟩
   go_simp
   with_reducible rfl
  rotate_left
  ·simp only [Act.put, List.setIfInBounds_toArray, List.set_cons_zero, List.set_cons_succ, i64_w, i32_w]
   rfl
  refine pure_ (i := 3) (N := some 20) (v := ?_) (a' := ?_) #[true, true, true, true, true, false, true, false, false, false, false, false] rfl rfl (any_of HT_.out kk) (fun _ _ _ h => h) (Or.inl ⟨by rfl, ?_⟩) ?_ ?_
  rotate_left
  ·intro w'
   go_simp
   with_reducible rfl
  rotate_left
  ·simp only [Act.put, List.setIfInBounds_toArray, List.set_cons_zero, List.set_cons_succ, i64_w, i32_w]
   rfl
  refine take_ (i := 5) (N := some 22) (v := ?_) (a' := ?_) #[true, true, true, true, true, true, true, false, false, false, false, false] rfl rfl (take_ofW HT_.out HW_.out kk) (fun _ _ _ h => h) (Or.inl ⟨by rfl, ?_⟩) hHeld ?_ ?_
  rotate_left
  ·rintro w' ⟨s0, s1⟩
   go_simp
   with_reducible rfl
  rotate_left
  ·simp only [Act.put, List.setIfInBounds_toArray, List.set_cons_zero, List.set_cons_succ, i64_w, i32_w]
   rfl
  refine pure_ (i := 7) (N := some 24) (v := ?_) (a' := ?_) #[true, true, true, true, true, true, true, true, false, false, false, false] rfl rfl (any_of HT_.out kk) (fun _ _ _ h => h) (Or.inl ⟨by rfl, ?_⟩) ?_ ?_
  rotate_left
  ·intro w'
   go_simp
   with_reducible rfl
  rotate_left
  ·simp only [Act.put, List.setIfInBounds_toArray, List.set_cons_zero, List.set_cons_succ, i64_w, i32_w]
   rfl
  refine one_ (i := 8) (N := some 25) #[true, true, true, true, true, true, true, true, true, false, false, false] rfl rfl (one_of HT_.out kk) (by decide) (fun K hK => ?_)
  refine goes_ Tryd.func71 kk rfl #[.int .i64 (wrap64 (a0_1 * a1))] (by rfl) rfl rfl (by (try simp only [List.map_toArray, List.map_cons, List.map_nil]); first | done | rfl | (simp only [List.length_drop, List.length_take]; rfl)) ?_
  with_reducible refine (congr_size.calls (wrap64 (a0_1 * a1)) t320 _ A14.out).mono ?_
  rintro e w22 ⟨rfl, hb⟩
  refine ⟨_, rfl, ?_⟩
  have n0_ := bb BK315 hb
  have n1_ := bb BK316 hb
  have n2_ := am (below_step pw hb)
  clear BK315 BK316 HB
  revert n0_ n1_ n2_
  intro BK315 BK316 HB
  (try clear hb)
  (try clear hb2)
  (try clear hk)
  (try clear hi)
  refine hK.out _ _ ⟨bc BK315 0, bc BK315 1⟩ (fun hHeld => ?_)
  clear hK K
  refine norm_ (a' := ?_) ?_ ?_
  rotate_left
  ·show Act.put _ (some 25) _ = _
   simp only [Act.put, List.setIfInBounds_toArray, List.set_cons_zero, List.set_cons_succ, i64_w, i32_w]
   rfl
  refine one_ (i := 9) (N := some 26) #[true, true, true, true, true, true, true, true, true, true, false, false] rfl rfl (one_of HT_.out kk) (by decide) (fun K hK => ?_)
  refine goes_ Tryd.func59 kk rfl #[.int .i64 (wrap64 (a0_0 * a1)), .int .i64 t320] (by rfl) rfl rfl (by (try simp only [List.map_toArray, List.map_cons, List.map_nil]); first | done | rfl | (simp only [List.length_drop, List.length_take]; rfl)) ?_
  with_reducible refine (congr_told.calls k (wrap64 (a0_0 * a1)) t320 t321 t322 _ A15.out).mono ?_
  rintro e w23 ⟨rfl, hb⟩
  refine ⟨_, rfl, ?_⟩
  have n0_ := bb BK315 hb
  have n1_ := bb BK316 hb
  have n2_ := am (below_step pw hb)
  clear BK315 BK316 HB
  revert n0_ n1_ n2_
  intro BK315 BK316 HB
  (try clear hb)
  (try clear hb2)
  (try clear hk)
  (try clear hi)
  refine hK.out _ _ ⟨bc BK315 0, bc BK315 1⟩ (fun hHeld => ?_)
  clear hK K
  refine norm_ (a' := ?_) ?_ ?_
  rotate_left
  ·show Act.put _ (some 26) _ = _
   simp only [Act.put, List.setIfInBounds_toArray, List.set_cons_zero, List.set_cons_succ, i64_w, i32_w]
   rfl
  refine one_ (i := 10) (N := none) #[true, true, true, true, true, true, true, true, true, true, true, false] rfl rfl (one_of HT_.out kk) (by decide) (fun K hK => ?_)
  have hs24 : w23.cell? ⟨gb316, 0, none⟩ = some (.int .i64 0) := bc BK316 0
  have hfs24 := blk_frozen BK316.out 0
  have hns24_0 := NB315_316.out
  have hms24_0 := NB316_315.out
  have hs25 : w23.cell? ⟨gb316, 1, none⟩ = some (.int .i64 0) := bc BK316 1
  have hfs25 := blk_frozen BK316.out 1
  have hns25_0 := NB315_316.out
  have hms25_0 := NB316_315.out
  refine skip_ (w1 := ?_) (by rfl) rfl ?_ ?_
  rotate_left
  ·go_simp
   rfl
  refine hK.out _ _ ⟨((cell_far (p := ⟨gb316, _, none⟩) NB315_316.out _).trans (((cell_far (p := ⟨gb316, _, none⟩) NB315_316.out _).trans (hHeld.1)))), ((cell_far (p := ⟨gb316, _, none⟩) NB315_316.out _).trans (((cell_far (p := ⟨gb316, _, none⟩) NB315_316.out _).trans (hHeld.2))))⟩ (fun hHeld => ?_)
  clear hK K
  refine pure_ (i := 11) (N := some 5) (v := ?_) (a' := ?_) #[true, true, true, true, true, true, true, true, true, true, true, true] rfl rfl (any_of HT_.out kk) (fun _ _ _ h => h) (Or.inl ⟨by rfl, ?_⟩) ?_ ?_
  rotate_left
  ·intro w'
   go_simp
   with_reducible rfl
  rotate_left
  ·simp only [Act.put, List.setIfInBounds_toArray, List.set_cons_zero, List.set_cons_succ, i64_w, i32_w]
   rfl
  refine done_ (done_of HT_.out kk) ?_
  try go_wp2
  refine bodyPost_ret (results_ct rfl _ _ gb316 34 #[.int .i64 t321, .int .i64 t322] (0, 0) _ rfl (by (with_reducible repeat (first | refine blk_drewN ?_ _ | refine blk_drew ?_ | refine blk_alloc ?_ _)); refine blk_put (cs := #[.int .i64 t321, .int .i64 0]) ?_ 1 _ rfl; (with_reducible repeat (first | refine blk_drewN ?_ _ | refine blk_drew ?_ | refine blk_alloc ?_ _)); refine blk_put (cs := #[.int .i64 0, .int .i64 0]) ?_ 0 _ rfl; (with_reducible repeat (first | refine blk_drewN ?_ _ | refine blk_drew ?_ | refine blk_alloc ?_ _)); exact BK316.out) Tryd.underlying34 rfl kk) rfl ?_
  exact ⟨pe, pw⟩
 have H1 : (some (0, 0, some q318)) = some (r1, r2, r3) := by rw [if_neg (show ¬ (some q318).isNone = true by simp)] at H; exact H
 clear H
 have H := H1
 clear H1
 try simp only [errW_none, errW_some]
 simp only [Option.some.injEq, Prod.mk.injEq] at H
 obtain ⟨rfl, rfl, rfl⟩ := H
 go_enter Tryd.func51, Tryd.ntmps51
 go_wp2_with (first | ((with_reducible refine gate_dst (N := 2) rfl ?_); refine box_event ?hg (N := 2) ?hd (cs := #[.int .i64 a0_0, .int .i64 a0_1]) (t := 34) ?hr ?_; (case hd => rfl); (case hg => rfl); (case hr => first | (go_simp; done) | (go_simp; rfl)); intro gb315 hg w26 hbox hb; have n0_ := am (below_step pw hb); have n1_ := am (hbox); have n2_ := am ((by rw [hg]; exact (below_size pw) : w.heap.size ≤ gb315)); have n3_ := am ((by rw [hg]; exact (below_size pw) : w.heap.size ≤ gb315)); clear HB; have HB := n0_; have BK315 := n1_; have GW315 := n2_; have GE315 := n3_; clear n0_ n1_ n2_ n3_; clear hb hbox hg) | ((with_reducible refine gate_dst (N := 4) rfl ?_); refine box_event ?hg (N := 4) ?hd (cs := #[.int .i64 0, .int .i64 0]) (t := 34) ?hr ?_; (case hd => rfl); (case hg => rfl); (case hr => first | (go_simp; done) | (go_simp; rfl)); intro gb316 hg w27 hbox hb; have n0_ := bb BK315 hb; have n1_ := am (below_step pw hb); have n2_ := am (hbox); have n3_ := am ((by rw [hg]; exact (below_size pw) : w.heap.size ≤ gb316)); have n4_ := am ((by rw [hg]; exact (below_size pw) : w.heap.size ≤ gb316)); have n5_ := am ((by rw [hg]; exact Nat.ne_of_lt (blk_lt pk) : gb315 ≠ gb316)); have n6_ := am ((by rw [hg]; exact Nat.ne_of_gt (blk_lt pk) : gb316 ≠ gb315)); clear BK315; clear HB; have BK315 := n0_; have HB := n1_; have BK316 := n2_; have GW316 := n3_; have GE316 := n4_; have NB315_316 := n5_; have NB316_315 := n6_; clear n0_ n1_ n2_ n3_ n4_ n5_ n6_; clear hb hbox hg; have hnb28 := NB315_316.out; have hnc28 := NB316_315.out; have hcz29_0 : w27.cell? ⟨gb315, 0, none⟩ = some (.int .i64 a0_0) := bc BK315 0; have hcz29_1 : w27.cell? ⟨gb315, 1, none⟩ = some (.int .i64 a0_1) := bc BK315 1; have hfz29_0 := blk_frozen BK315.out 0; have hfz29_1 := blk_frozen BK315.out 1) | ((with_reducible refine gate_callee (f := 29) rfl ?_); refine goesL_ (some 8) rfl rfl Tryd.func29 kk rfl #[.agg #[.int .i64 a0_0, .int .i64 a0_1]] rfl (by (try simp only [List.map_toArray, List.map_cons, List.map_nil]); first | done | rfl | (simp only [List.length_drop, List.length_take]; rfl)) ?_; (with_reducible refine (congr_Valid.calls k a0_0 a0_1 (some q318) _ A3.out (am (ErrAt.below hE2.out pw)).out (am (ErrAt.below hE3.out pw)).out).mono ?_); rintro e w30 ⟨rfl, hb⟩; refine ⟨_, rfl, ?_⟩; have n0_ := bb BK315 hb; have n1_ := bb BK316 hb; have n2_ := am (below_step pw hb); clear BK315; clear BK316; clear HB; have BK315 := n0_; have BK316 := n1_; have HB := n2_; clear n0_ n1_ n2_; (try clear hb); (try clear hb2); (try clear hk); (try clear hi); (try simp only [errW_none, errW_some]); have hcz31_0 : w30.cell? ⟨gb316, 0, none⟩ = some (.int .i64 0) := bc BK316 0; have hcz31_1 : w30.cell? ⟨gb316, 1, none⟩ = some (.int .i64 0) := bc BK316 1; have hfz31_0 := blk_frozen BK316.out 0; have hfz31_1 := blk_frozen BK316.out 1))
 refine bodyPost_ret (results_ct rfl _ _ gb316 34 #[.int .i64 0, .int .i64 0] (0, 0) _ rfl (by (with_reducible repeat (first | refine blk_drewN ?_ _ | refine blk_drew ?_ | refine blk_alloc ?_ _)); refine blk_put (cs := #[.int .i64 0, .int .i64 0]) ?_ 1 _ rfl; (with_reducible repeat (first | refine blk_drewN ?_ _ | refine blk_drew ?_ | refine blk_alloc ?_ _)); refine blk_put (cs := #[.int .i64 0, .int .i64 0]) ?_ 0 _ rfl; (with_reducible repeat (first | refine blk_drewN ?_ _ | refine blk_drew ?_ | refine blk_alloc ?_ _)); exact BK316.out) Tryd.underlying34 rfl kk) rfl ?_
 exact ⟨pe, pw⟩

end Go.Proofs.YtimgfgambeffeaaDoor.C
