-- Written by wip/xprint.py (the session's program over the kit's print).
import Derived.Test.YtjpboodkmhikpaaDoorEb
import Derived.Test.YtjpboodkmhikpaaDoorC0
import Derived.Test.YtjpboodkmhikpaaDoorC1
import Derived.Test.YtjpboodkmhikpaaDoorC2
import Derived.Test.YtjpboodkmhikpaaDoorC3
import Derived.Test.YtjpboodkmhikpaaDoorC4
namespace Go.Proofs.YtjpboodkmhikpaaDoor.C
open Go.RowKit Go.Proofs.YtjpboodkmhikpaaDoorW.PrintWords Go.Proofs.YtjpboodkmhikpaaDoorW.PrintLast Go.Proofs.YtjpboodkmhikpaaDoorW.PrintMore Go.Proofs.Rcg
attribute [local go_sem] max2_int min2_int max_two min_two max_three min_three max_four min_four   -- for this text's walks alone
set_option linter.unusedVariables false
set_option linter.unusedSimpArgs false

attribute [local go_sem high] eqA24
/-! ### congr_Mul: function 44 -/
def congr_Mul.j0 : Nat → Int → Int → Int → Int → Bool → Option (Int × Int × Option Int)
 | 0, _, _, _, _, _ => none
 | k + 1, x7, x9, x11, x13, x63 => if x63 = true then ((congr_gcd.f k (([x7, x9, x11] : List Int))).bind fun t184 => ((congr_told.f k x13 t184).bind fun bt185 => (some (bt185.1, bt185.2, none)))) else (some (0, 1, none))
def congr_Mul.f (k : Nat) (a0_0 : Int) (a0_1 : Int) (a1_0 : Int) (a1_1 : Int) : Option (Int × Int × Option Int) := (congr_two.f k a0_0 a0_1 a1_0 a1_1).bind fun t171 => (if t171.isNone = true then ((congr_times.f a0_1 a1_0).bind fun bt173 => ((congr_times.f a1_1 a0_0).bind fun bt175 => ((congr_times.f a0_1 a1_1).bind fun bt177 => ((congr_times.f a0_0 a1_0).bind fun bt179 => (if bt173.2 = true then (if bt175.2 = true then (if bt177.2 = true then (congr_Mul.j0 k bt173.1 bt175.1 bt177.1 bt179.1 bt179.2) else (congr_Mul.j0 k bt173.1 bt175.1 bt177.1 bt179.1 false)) else (congr_Mul.j0 k bt173.1 bt175.1 bt177.1 bt179.1 false)) else (congr_Mul.j0 k bt173.1 bt175.1 bt177.1 bt179.1 false)))))) else (some (0, 0, some (t171.getD 0))))
theorem congr_Mul.mono_l : ∀ k, (∀ y0 y1 y2 y3 y4, LeO (congr_Mul.j0 k y0 y1 y2 y3 y4) (congr_Mul.j0 (k + 1) y0 y1 y2 y3 y4))
 | 0 => fun _ _ _ _ _ r h => by simp [congr_Mul.j0] at h
 | k + 1 => by
  have ih0 := congr_Mul.mono_l k
  intro y0 y1 y2 y3 y4
  unfold congr_Mul.j0
  repeat' first
  | (with_reducible exact ih0 _ _ _ _ _)
  | (with_reducible exact congr_gcd.mono _ _)
  | (with_reducible exact congr_told.mono _ _ _)
  | (with_reducible exact congr_two.mono _ _ _ _ _)
  | (with_reducible exact LeO.refl _)
  | (with_reducible exact LeO.none _)
  | (with_reducible refine LeO.ite ?_ ?_)
  | (with_reducible refine LeO.bind ?_ (fun _ => ?_))
  | exact ih0 _ _ _ _ _
  | exact congr_gcd.mono _ _
  | exact congr_told.mono _ _ _
  | exact congr_two.mono _ _ _ _ _
  | exact LeO.none _
  | refine LeO.ite ?_ ?_
  | refine LeO.bind ?_ (fun _ => ?_)
theorem congr_Mul.mono : ∀ a0 a1 a2 a3 k, LeO (congr_Mul.f k a0 a1 a2 a3) (congr_Mul.f (k + 1) a0 a1 a2 a3) := by
 intro a0 a1 a2 a3 k
 have ih0 := congr_Mul.mono_l k
 unfold congr_Mul.f
 repeat' first
   | (with_reducible exact ih0 _ _ _ _ _)
   | (with_reducible exact congr_gcd.mono _ _)
   | (with_reducible exact congr_told.mono _ _ _)
   | (with_reducible exact congr_two.mono _ _ _ _ _)
   | (with_reducible exact LeO.refl _)
   | (with_reducible exact LeO.none _)
   | (with_reducible refine LeO.ite ?_ ?_)
   | (with_reducible refine LeO.bind ?_ (fun _ => ?_))
   | exact ih0 _ _ _ _ _
   | exact congr_gcd.mono _ _
   | exact congr_told.mono _ _ _
   | exact congr_two.mono _ _ _ _ _
   | exact LeO.none _
   | refine LeO.ite ?_ ?_
   | refine LeO.bind ?_ (fun _ => ?_)
set_option maxHeartbeats 8000000 in
set_option maxRecDepth 100000 in
theorem congr_Mul.calls [EA] (k : Nat) (a0_0 : Int) (a0_1 : Int) (a1_0 : Int) (a1_1 : Int) (r1 : Int) (r2 : Int) (r3 : Option Int) (w : World) (h : congr_Mul.f k a0_0 a0_1 a1_0 a1_1 = some (r1, r2, r3)) (h2_ : ErrAt 2 1 w) (h3_ : ErrAt 3 0 w) :
  Calls Tryd.prog 44 #[.agg #[.int .i64 a0_0, .int .i64 a0_1], .agg #[.int .i64 a1_0, .int .i64 a1_1]] w fun e w' => e = .returned (.tuple #[.agg #[.int .i64 r1, .int .i64 r2], errW r3]) ∧ Below w.heap.size w w' := by
 have hE2 := am h2_
 clear h2_
 have hE3 := am h3_
 clear h3_
 have hu24 := Tryd.underlying24
 have hu26 := Tryd.underlying26
 have HB := am (Below.refl w.heap.size w)
 have H : ((congr_two.f k a0_0 a0_1 a1_0 a1_1).bind fun t171 => (if t171.isNone = true then ((congr_times.f a0_1 a1_0).bind fun bt173 => ((congr_times.f a1_1 a0_0).bind fun bt175 => ((congr_times.f a0_1 a1_1).bind fun bt177 => ((congr_times.f a0_0 a1_0).bind fun bt179 => (if bt173.2 = true then (if bt175.2 = true then (if bt177.2 = true then (congr_Mul.j0 k bt173.1 bt175.1 bt177.1 bt179.1 bt179.2) else (congr_Mul.j0 k bt173.1 bt175.1 bt177.1 bt179.1 false)) else (congr_Mul.j0 k bt173.1 bt175.1 bt177.1 bt179.1 false)) else (congr_Mul.j0 k bt173.1 bt175.1 bt177.1 bt179.1 false)))))) else (some (0, 0, some (t171.getD 0))))) = some (r1, r2, r3) := h
 clear h
 replace H := Option.bind_eq_some_iff.mp H
 obtain ⟨t171, A30, H⟩ := H
 replace H : (if t171.isNone = true then ((congr_times.f a0_1 a1_0).bind fun bt173 => ((congr_times.f a1_1 a0_0).bind fun bt175 => ((congr_times.f a0_1 a1_1).bind fun bt177 => ((congr_times.f a0_0 a1_0).bind fun bt179 => (if bt173.2 = true then (if bt175.2 = true then (if bt177.2 = true then (congr_Mul.j0 k bt173.1 bt175.1 bt177.1 bt179.1 bt179.2) else (congr_Mul.j0 k bt173.1 bt175.1 bt177.1 bt179.1 false)) else (congr_Mul.j0 k bt173.1 bt175.1 bt177.1 bt179.1 false)) else (congr_Mul.j0 k bt173.1 bt175.1 bt177.1 bt179.1 false)))))) else (some (0, 0, some (t171.getD 0)))) = some (r1, r2, r3) := H
 have A3 := am A30
 clear A30
 rcases t171 with _ | q172
 ·have H1 : ((congr_times.f a0_1 a1_0).bind fun bt173 => ((congr_times.f a1_1 a0_0).bind fun bt175 => ((congr_times.f a0_1 a1_1).bind fun bt177 => ((congr_times.f a0_0 a1_0).bind fun bt179 => (if bt173.2 = true then (if bt175.2 = true then (if bt177.2 = true then (congr_Mul.j0 k bt173.1 bt175.1 bt177.1 bt179.1 bt179.2) else (congr_Mul.j0 k bt173.1 bt175.1 bt177.1 bt179.1 false)) else (congr_Mul.j0 k bt173.1 bt175.1 bt177.1 bt179.1 false)) else (congr_Mul.j0 k bt173.1 bt175.1 bt177.1 bt179.1 false)))))) = some (r1, r2, r3) := by rw [if_pos (show (none : Option Int).isNone = true by rfl)] at H; exact H
  clear H
  have H := H1
  clear H1
  try simp only [errW_none, errW_some]
  replace H := Option.bind_eq_some_iff.mp H
  obtain ⟨⟨t173, t174⟩, A40, H⟩ := H
  replace H : ((congr_times.f a1_1 a0_0).bind fun bt175 => ((congr_times.f a0_1 a1_1).bind fun bt177 => ((congr_times.f a0_0 a1_0).bind fun bt179 => (if t174 = true then (if bt175.2 = true then (if bt177.2 = true then (congr_Mul.j0 k t173 bt175.1 bt177.1 bt179.1 bt179.2) else (congr_Mul.j0 k t173 bt175.1 bt177.1 bt179.1 false)) else (congr_Mul.j0 k t173 bt175.1 bt177.1 bt179.1 false)) else (congr_Mul.j0 k t173 bt175.1 bt177.1 bt179.1 false))))) = some (r1, r2, r3) := H
  have A4 := am A40
  clear A40
  replace H := Option.bind_eq_some_iff.mp H
  obtain ⟨⟨t175, t176⟩, A50, H⟩ := H
  replace H : ((congr_times.f a0_1 a1_1).bind fun bt177 => ((congr_times.f a0_0 a1_0).bind fun bt179 => (if t174 = true then (if t176 = true then (if bt177.2 = true then (congr_Mul.j0 k t173 t175 bt177.1 bt179.1 bt179.2) else (congr_Mul.j0 k t173 t175 bt177.1 bt179.1 false)) else (congr_Mul.j0 k t173 t175 bt177.1 bt179.1 false)) else (congr_Mul.j0 k t173 t175 bt177.1 bt179.1 false)))) = some (r1, r2, r3) := H
  have A5 := am A50
  clear A50
  replace H := Option.bind_eq_some_iff.mp H
  obtain ⟨⟨t177, t178⟩, A60, H⟩ := H
  replace H : ((congr_times.f a0_0 a1_0).bind fun bt179 => (if t174 = true then (if t176 = true then (if t178 = true then (congr_Mul.j0 k t173 t175 t177 bt179.1 bt179.2) else (congr_Mul.j0 k t173 t175 t177 bt179.1 false)) else (congr_Mul.j0 k t173 t175 t177 bt179.1 false)) else (congr_Mul.j0 k t173 t175 t177 bt179.1 false))) = some (r1, r2, r3) := H
  have A6 := am A60
  clear A60
  replace H := Option.bind_eq_some_iff.mp H
  obtain ⟨⟨t179, t180⟩, A70, H⟩ := H
  replace H : (if t174 = true then (if t176 = true then (if t178 = true then (congr_Mul.j0 k t173 t175 t177 t179 t180) else (congr_Mul.j0 k t173 t175 t177 t179 false)) else (congr_Mul.j0 k t173 t175 t177 t179 false)) else (congr_Mul.j0 k t173 t175 t177 t179 false)) = some (r1, r2, r3) := H
  have A7 := am A70
  clear A70
  have HC8 := am H
  clear H
  go_enter Tryd.func44, Tryd.ntmps44
  go_upto_region 8 with (first | ((with_reducible refine gate_dst (N := 2) rfl ?_); refine box_event ?hg (N := 2) ?hd (cs := #[.int .i64 a0_0, .int .i64 a0_1]) (t := 24) ?hr ?_; (case hd => rfl); (case hg => rfl); (case hr => first | (go_simp; done) | (go_simp; rfl)); intro gb168 hg w9 hbox hb; have n0_ := am (below_step pw hb); have n1_ := am (hbox); have n2_ := am ((by rw [hg]; exact (below_size pw) : w.heap.size ≤ gb168)); have n3_ := am ((by rw [hg]; exact (below_size pw) : w.heap.size ≤ gb168)); clear HB; have HB := n0_; have BK168 := n1_; have GW168 := n2_; have GE168 := n3_; clear n0_ n1_ n2_ n3_; clear hb hbox hg) | ((with_reducible refine gate_dst (N := 3) rfl ?_); refine box_event ?hg (N := 3) ?hd (cs := #[.int .i64 a1_0, .int .i64 a1_1]) (t := 24) ?hr ?_; (case hd => rfl); (case hg => rfl); (case hr => first | (go_simp; done) | (go_simp; rfl)); intro gb169 hg w10 hbox hb; have n0_ := bb BK168 hb; have n1_ := am (below_step pw hb); have n2_ := am (hbox); have n3_ := am ((by rw [hg]; exact (below_size pw) : w.heap.size ≤ gb169)); have n4_ := am ((by rw [hg]; exact (below_size pw) : w.heap.size ≤ gb169)); have n5_ := am ((by rw [hg]; exact Nat.ne_of_lt (blk_lt pk) : gb168 ≠ gb169)); have n6_ := am ((by rw [hg]; exact Nat.ne_of_gt (blk_lt pk) : gb169 ≠ gb168)); clear BK168; clear HB; have BK168 := n0_; have HB := n1_; have BK169 := n2_; have GW169 := n3_; have GE169 := n4_; have NB168_169 := n5_; have NB169_168 := n6_; clear n0_ n1_ n2_ n3_ n4_ n5_ n6_; clear hb hbox hg) | ((with_reducible refine gate_dst (N := 4) rfl ?_); refine box_event ?hg (N := 4) ?hd (cs := #[.int .i64 0, .int .i64 0]) (t := 24) ?hr ?_; (case hd => rfl); (case hg => rfl); (case hr => first | (go_simp; done) | (go_simp; rfl)); intro gb170 hg w11 hbox hb; have n0_ := bb BK168 hb; have n1_ := bb BK169 hb; have n2_ := am (below_step pw hb); have n3_ := am (hbox); have n4_ := am ((by rw [hg]; exact (below_size pw) : w.heap.size ≤ gb170)); have n5_ := am ((by rw [hg]; exact (below_size pw) : w.heap.size ≤ gb170)); have n6_ := am ((by rw [hg]; exact Nat.ne_of_lt (blk_lt pk) : gb168 ≠ gb170)); have n7_ := am ((by rw [hg]; exact Nat.ne_of_gt (blk_lt pk) : gb170 ≠ gb168)); have n8_ := am ((by rw [hg]; exact Nat.ne_of_lt (blk_lt pk) : gb169 ≠ gb170)); have n9_ := am ((by rw [hg]; exact Nat.ne_of_gt (blk_lt pk) : gb170 ≠ gb169)); clear BK168; clear BK169; clear HB; have BK168 := n0_; have BK169 := n1_; have HB := n2_; have BK170 := n3_; have GW170 := n4_; have GE170 := n5_; have NB168_170 := n6_; have NB170_168 := n7_; have NB169_170 := n8_; have NB170_169 := n9_; clear n0_ n1_ n2_ n3_ n4_ n5_ n6_ n7_ n8_ n9_; clear hb hbox hg; have hnb12 := NB168_169.out; have hnc12 := NB169_168.out; have hnb13 := NB168_170.out; have hnc13 := NB170_168.out; have hcz14_0 : w11.cell? ⟨gb168, 0, none⟩ = some (.int .i64 a0_0) := bc BK168 0; have hcz14_1 : w11.cell? ⟨gb168, 1, none⟩ = some (.int .i64 a0_1) := bc BK168 1; have hfz14_0 := blk_frozen BK168.out 0; have hfz14_1 := blk_frozen BK168.out 1; have hnb15 := NB169_170.out; have hnc15 := NB170_169.out; have hcz16_0 : w11.cell? ⟨gb169, 0, none⟩ = some (.int .i64 a1_0) := bc BK169 0; have hcz16_1 : w11.cell? ⟨gb169, 1, none⟩ = some (.int .i64 a1_1) := bc BK169 1; have hfz16_0 := blk_frozen BK169.out 0; have hfz16_1 := blk_frozen BK169.out 1) | ((with_reducible refine gate_callee (f := 64) rfl ?_); refine goesL_ (some 17) rfl rfl Tryd.func64 kk rfl #[.agg #[.int .i64 a0_0, .int .i64 a0_1], .agg #[.int .i64 a1_0, .int .i64 a1_1]] rfl (by (try simp only [List.map_toArray, List.map_cons, List.map_nil]); first | done | rfl | (simp only [List.length_drop, List.length_take]; rfl)) ?_; (with_reducible refine (congr_two.calls k a0_0 a0_1 a1_0 a1_1 none _ A3.out (am (ErrAt.below hE2.out pw)).out (am (ErrAt.below hE3.out pw)).out).mono ?_); rintro e w17 ⟨rfl, hb⟩; refine ⟨_, rfl, ?_⟩; have n0_ := bb BK168 hb; have n1_ := bb BK169 hb; have n2_ := bb BK170 hb; have n3_ := am (below_step pw hb); clear BK168; clear BK169; clear BK170; clear HB; have BK168 := n0_; have BK169 := n1_; have BK170 := n2_; have HB := n3_; clear n0_ n1_ n2_ n3_; (try clear hb); (try clear hb2); (try clear hk); (try clear hi); (try simp only [errW_none, errW_some]); have hcz18_0 : w17.cell? ⟨gb168, 0, none⟩ = some (.int .i64 a0_0) := bc BK168 0; have hcz18_1 : w17.cell? ⟨gb168, 1, none⟩ = some (.int .i64 a0_1) := bc BK168 1; have hfz18_0 := blk_frozen BK168.out 0; have hfz18_1 := blk_frozen BK168.out 1; have hcz19_0 : w17.cell? ⟨gb169, 0, none⟩ = some (.int .i64 a1_0) := bc BK169 0; have hcz19_1 : w17.cell? ⟨gb169, 1, none⟩ = some (.int .i64 a1_1) := bc BK169 1; have hfz19_0 := blk_frozen BK169.out 0; have hfz19_1 := blk_frozen BK169.out 1) | ((with_reducible refine gate_callee (f := 92) rfl ?_); refine goesL_ (some 27) rfl rfl Tryd.func92 kk rfl #[.int .i64 a0_1, .int .i64 a1_0] rfl (by (try simp only [List.map_toArray, List.map_cons, List.map_nil]); first | done | rfl | (simp only [List.length_drop, List.length_take]; rfl)) ?_; (with_reducible refine (congr_times.calls a0_1 a1_0 t173 t174 _ A4.out).mono ?_); rintro e w20 ⟨rfl, hb⟩; refine ⟨_, rfl, ?_⟩; have n0_ := bb BK168 hb; have n1_ := bb BK169 hb; have n2_ := bb BK170 hb; have n3_ := am (below_step pw hb); clear BK168; clear BK169; clear BK170; clear HB; have BK168 := n0_; have BK169 := n1_; have BK170 := n2_; have HB := n3_; clear n0_ n1_ n2_ n3_; (try clear hb); (try clear hb2); (try clear hk); (try clear hi); have hcz21_0 : w20.cell? ⟨gb169, 0, none⟩ = some (.int .i64 a1_0) := bc BK169 0; have hcz21_1 : w20.cell? ⟨gb169, 1, none⟩ = some (.int .i64 a1_1) := bc BK169 1; have hfz21_0 := blk_frozen BK169.out 0; have hfz21_1 := blk_frozen BK169.out 1; have hcz22_0 : w20.cell? ⟨gb168, 0, none⟩ = some (.int .i64 a0_0) := bc BK168 0; have hcz22_1 : w20.cell? ⟨gb168, 1, none⟩ = some (.int .i64 a0_1) := bc BK168 1; have hfz22_0 := blk_frozen BK168.out 0; have hfz22_1 := blk_frozen BK168.out 1) | ((with_reducible refine gate_callee (f := 92) rfl ?_); refine goesL_ (some 35) rfl rfl Tryd.func92 kk rfl #[.int .i64 a1_1, .int .i64 a0_0] rfl (by (try simp only [List.map_toArray, List.map_cons, List.map_nil]); first | done | rfl | (simp only [List.length_drop, List.length_take]; rfl)) ?_; (with_reducible refine (congr_times.calls a1_1 a0_0 t175 t176 _ A5.out).mono ?_); rintro e w23 ⟨rfl, hb⟩; refine ⟨_, rfl, ?_⟩; have n0_ := bb BK168 hb; have n1_ := bb BK169 hb; have n2_ := bb BK170 hb; have n3_ := am (below_step pw hb); clear BK168; clear BK169; clear BK170; clear HB; have BK168 := n0_; have BK169 := n1_; have BK170 := n2_; have HB := n3_; clear n0_ n1_ n2_ n3_; (try clear hb); (try clear hb2); (try clear hk); (try clear hi); have hcz24_0 : w23.cell? ⟨gb168, 0, none⟩ = some (.int .i64 a0_0) := bc BK168 0; have hcz24_1 : w23.cell? ⟨gb168, 1, none⟩ = some (.int .i64 a0_1) := bc BK168 1; have hfz24_0 := blk_frozen BK168.out 0; have hfz24_1 := blk_frozen BK168.out 1; have hcz25_0 : w23.cell? ⟨gb169, 0, none⟩ = some (.int .i64 a1_0) := bc BK169 0; have hcz25_1 : w23.cell? ⟨gb169, 1, none⟩ = some (.int .i64 a1_1) := bc BK169 1; have hfz25_0 := blk_frozen BK169.out 0; have hfz25_1 := blk_frozen BK169.out 1) | ((with_reducible refine gate_callee (f := 92) rfl ?_); refine goesL_ (some 43) rfl rfl Tryd.func92 kk rfl #[.int .i64 a0_1, .int .i64 a1_1] rfl (by (try simp only [List.map_toArray, List.map_cons, List.map_nil]); first | done | rfl | (simp only [List.length_drop, List.length_take]; rfl)) ?_; (with_reducible refine (congr_times.calls a0_1 a1_1 t177 t178 _ A6.out).mono ?_); rintro e w26 ⟨rfl, hb⟩; refine ⟨_, rfl, ?_⟩; have n0_ := bb BK168 hb; have n1_ := bb BK169 hb; have n2_ := bb BK170 hb; have n3_ := am (below_step pw hb); clear BK168; clear BK169; clear BK170; clear HB; have BK168 := n0_; have BK169 := n1_; have BK170 := n2_; have HB := n3_; clear n0_ n1_ n2_ n3_; (try clear hb); (try clear hb2); (try clear hk); (try clear hi); have hcz27_0 : w26.cell? ⟨gb168, 0, none⟩ = some (.int .i64 a0_0) := bc BK168 0; have hcz27_1 : w26.cell? ⟨gb168, 1, none⟩ = some (.int .i64 a0_1) := bc BK168 1; have hfz27_0 := blk_frozen BK168.out 0; have hfz27_1 := blk_frozen BK168.out 1; have hcz28_0 : w26.cell? ⟨gb169, 0, none⟩ = some (.int .i64 a1_0) := bc BK169 0; have hcz28_1 : w26.cell? ⟨gb169, 1, none⟩ = some (.int .i64 a1_1) := bc BK169 1; have hfz28_0 := blk_frozen BK169.out 0; have hfz28_1 := blk_frozen BK169.out 1) | ((with_reducible refine gate_callee (f := 92) rfl ?_); refine goesL_ (some 51) rfl rfl Tryd.func92 kk rfl #[.int .i64 a0_0, .int .i64 a1_0] rfl (by (try simp only [List.map_toArray, List.map_cons, List.map_nil]); first | done | rfl | (simp only [List.length_drop, List.length_take]; rfl)) ?_; (with_reducible refine (congr_times.calls a0_0 a1_0 t179 t180 _ A7.out).mono ?_); rintro e w29 ⟨rfl, hb⟩; refine ⟨_, rfl, ?_⟩; have n0_ := bb BK168 hb; have n1_ := bb BK169 hb; have n2_ := bb BK170 hb; have n3_ := am (below_step pw hb); clear BK168; clear BK169; clear BK170; clear HB; have BK168 := n0_; have BK169 := n1_; have BK170 := n2_; have HB := n3_; clear n0_ n1_ n2_ n3_; (try clear hb); (try clear hb2); (try clear hk); (try clear hi)))
  (try simp only [Act.put, List.setIfInBounds_toArray, List.set_cons_zero, List.set_cons_succ])
  go_cut [63] (fun v63 wc => ∃ (kq : Nat) (x63_7 : Bool), v63 = .bool x63_7 ∧ Aside0 (congr_Mul.j0 kq t173 t175 t177 t179 x63_7 = some (r1, r2, r3)) ∧ Aside0 (kq ≤ k) ∧ Aside0 (wc.heap[gb168]? = some (.cells #[.int .i64 a0_0, .int .i64 a0_1] 24 (0, 0))) ∧ Aside0 (wc.heap[gb169]? = some (.cells #[.int .i64 a1_0, .int .i64 a1_1] 24 (0, 0))) ∧ Aside0 (wc.heap[gb170]? = some (.cells #[.int .i64 0, .int .i64 0] 24 (0, 0))) ∧ Aside0 (Below w.heap.size w wc))
  case first =>
   have H := HC8.out
   clear HC8
   by_cases c30 : t174 = true
   ·subst c30
    have H1 : (if t176 = true then (if t178 = true then (congr_Mul.j0 k t173 t175 t177 t179 t180) else (congr_Mul.j0 k t173 t175 t177 t179 false)) else (congr_Mul.j0 k t173 t175 t177 t179 false)) = some (r1, r2, r3) := by rw [if_pos rfl] at H; exact H
    clear H
    have H := H1
    clear H1
    by_cases c31 : t176 = true
    ·subst c31
     have H1 : (if t178 = true then (congr_Mul.j0 k t173 t175 t177 t179 t180) else (congr_Mul.j0 k t173 t175 t177 t179 false)) = some (r1, r2, r3) := by rw [if_pos rfl] at H; exact H
     clear H
     have H := H1
     clear H1
     by_cases c32 : t178 = true
     ·subst c32
      have H1 : (congr_Mul.j0 k t173 t175 t177 t179 t180) = some (r1, r2, r3) := by rw [if_pos rfl] at H; exact H
      clear H
      have H := H1
      clear H1
      have H' := am H
      clear H
      go_wp2
      go_meet
      case rel => exact ⟨_, (t180), pr, H', ⟨by first | omega | exact Nat.le_refl _⟩, ⟨by (with_reducible repeat (first | refine blk_drewN ?_ _ | refine blk_drew ?_ | refine blk_alloc ?_ _)); exact BK168.out⟩, ⟨by (with_reducible repeat (first | refine blk_drewN ?_ _ | refine blk_drew ?_ | refine blk_alloc ?_ _)); exact BK169.out⟩, ⟨by (with_reducible repeat (first | refine blk_drewN ?_ _ | refine blk_drew ?_ | refine blk_alloc ?_ _)); exact BK170.out⟩, ⟨pw⟩⟩
     replace c32 := Bool.eq_false_iff.mpr c32
     subst c32
     have H1 : (congr_Mul.j0 k t173 t175 t177 t179 false) = some (r1, r2, r3) := by rw [if_neg (show ¬ (false = true) by decide)] at H; exact H
     clear H
     have H := H1
     clear H1
     have H' := am H
     clear H
     go_wp2
     go_meet
     case rel => exact ⟨_, (false), pr, H', ⟨by first | omega | exact Nat.le_refl _⟩, ⟨by (with_reducible repeat (first | refine blk_drewN ?_ _ | refine blk_drew ?_ | refine blk_alloc ?_ _)); exact BK168.out⟩, ⟨by (with_reducible repeat (first | refine blk_drewN ?_ _ | refine blk_drew ?_ | refine blk_alloc ?_ _)); exact BK169.out⟩, ⟨by (with_reducible repeat (first | refine blk_drewN ?_ _ | refine blk_drew ?_ | refine blk_alloc ?_ _)); exact BK170.out⟩, ⟨pw⟩⟩
    replace c31 := Bool.eq_false_iff.mpr c31
    subst c31
    have H1 : (congr_Mul.j0 k t173 t175 t177 t179 false) = some (r1, r2, r3) := by rw [if_neg (show ¬ (false = true) by decide)] at H; exact H
    clear H
    have H := H1
    clear H1
    have H' := am H
    clear H
    go_wp2
    go_meet
    case rel => exact ⟨_, (false), pr, H', ⟨by first | omega | exact Nat.le_refl _⟩, ⟨by (with_reducible repeat (first | refine blk_drewN ?_ _ | refine blk_drew ?_ | refine blk_alloc ?_ _)); exact BK168.out⟩, ⟨by (with_reducible repeat (first | refine blk_drewN ?_ _ | refine blk_drew ?_ | refine blk_alloc ?_ _)); exact BK169.out⟩, ⟨by (with_reducible repeat (first | refine blk_drewN ?_ _ | refine blk_drew ?_ | refine blk_alloc ?_ _)); exact BK170.out⟩, ⟨pw⟩⟩
   replace c30 := Bool.eq_false_iff.mpr c30
   subst c30
   have H1 : (congr_Mul.j0 k t173 t175 t177 t179 false) = some (r1, r2, r3) := by rw [if_neg (show ¬ (false = true) by decide)] at H; exact H
   clear H
   have H := H1
   clear H1
   have H' := am H
   clear H
   go_wp2
   go_meet
   case rel => exact ⟨_, (false), pr, H', ⟨by first | omega | exact Nat.le_refl _⟩, ⟨by (with_reducible repeat (first | refine blk_drewN ?_ _ | refine blk_drew ?_ | refine blk_alloc ?_ _)); exact BK168.out⟩, ⟨by (with_reducible repeat (first | refine blk_drewN ?_ _ | refine blk_drew ?_ | refine blk_alloc ?_ _)); exact BK169.out⟩, ⟨by (with_reducible repeat (first | refine blk_drewN ?_ _ | refine blk_drew ?_ | refine blk_alloc ?_ _)); exact BK170.out⟩, ⟨pw⟩⟩
  clear HC8
  try clear c1
  try clear q1
  try clear p2
  try clear c3
  try clear c4
  try clear c6
  try clear c9
  try clear c12
  try clear c13
  try clear c15
  try clear q17
  try clear c30
  try clear c31
  try clear c32
  try clear hcz14_0
  try clear hcz14_1
  try clear hcz16_0
  try clear hcz16_1
  try clear hcz18_0
  try clear hcz18_1
  try clear hcz19_0
  try clear hcz19_1
  try clear hcz21_0
  try clear hcz21_1
  try clear hcz22_0
  try clear hcz22_1
  try clear hcz24_0
  try clear hcz24_1
  try clear hcz25_0
  try clear hcz25_1
  try clear hcz27_0
  try clear hcz27_1
  try clear hcz28_0
  try clear hcz28_1
  try clear hfz14_0
  try clear hfz14_1
  try clear hfz16_0
  try clear hfz16_1
  try clear hfz18_0
  try clear hfz18_1
  try clear hfz19_0
  try clear hfz19_1
  try clear hfz21_0
  try clear hfz21_1
  try clear hfz22_0
  try clear hfz22_1
  try clear hfz24_0
  try clear hfz24_1
  try clear hfz25_0
  try clear hfz25_1
  try clear hfz27_0
  try clear hfz27_1
  try clear hfz28_0
  try clear hfz28_1
  try clear q172
  obtain ⟨kq, x63_7, rfl, HA, HJ7, BK168, BK169, BK170, HB⟩ := hcut
  cases kq with
  | zero => exact absurd HA.out (by simp [congr_Mul.j0])
  | succ kj7 =>
   have H := HA.out
   clear HA
   simp only [congr_Mul.j0] at H
   by_cases c33 : x63_7 = true
   ·subst c33
    have H1 : ((congr_gcd.f kj7 (([t173, t175, t177] : List Int))).bind fun t184 => ((congr_told.f kj7 t179 t184).bind fun bt185 => (some (bt185.1, bt185.2, none)))) = some (r1, r2, r3) := by rw [if_pos rfl] at H; exact H
    clear H
    have H := H1
    clear H1
    obtain ⟨y181, hy181⟩ : ∃ y_ : List Int, y_ = (([t173, t175, t177] : List Int)) := ⟨_, rfl⟩
    replace H : ((congr_gcd.f kj7 y181).bind fun t184 => ((congr_told.f kj7 t179 t184).bind fun bt185 => (some (bt185.1, bt185.2, none)))) = some (r1, r2, r3) := by first | (rw [hy181]; with_reducible exact H) | (have H2_ := (Option.bind_some _ _).symm.trans H; rw [hy181]; with_reducible exact H2_) | (have H2_ := (Option.bind_some _ _).symm.trans H; with_reducible exact H2_) | with_reducible exact H | (rw [hy181]; exact H) | exact H
    have Ny181 := am hy181
    clear hy181
    replace H := Option.bind_eq_some_iff.mp H
    obtain ⟨t184, A340, H⟩ := H
    replace H : ((congr_told.f kj7 t179 t184).bind fun bt185 => (some (bt185.1, bt185.2, none))) = some (r1, r2, r3) := H
    have A34 := am A340
    clear A340
    replace H := Option.bind_eq_some_iff.mp H
    obtain ⟨⟨t185, t186⟩, A350, H⟩ := H
    replace H : (some (t185, t186, none)) = some (r1, r2, r3) := H
    have A35 := am A350
    clear A350
    simp only [Option.some.injEq, Prod.mk.injEq] at H
    obtain ⟨rfl, rfl, rfl⟩ := H
    go_wp2_with (first | ((with_reducible refine gate_dst (N := 68) rfl ?_); refine Kd.R_lit (Kd.int .i64) _ 3 ?hg (N := 68) ?hd (xs := ([t173, t175, t177] : List Int)) (inner := [.int .i64 t173, .int .i64 t175, .int .i64 t177]) (ok := fun _ => True) (okp := fun _ => True) ?hr ?hp (fun _ hk => hk) trivial (Below.refl _ _) (Nat.le_refl _) (by simp) ?_; (case hd => rfl); (case hg => rfl); (case hr => first | (go_simp; done) | (go_simp; rfl)); (case hp => exact (Reps.one (show Kd.M (Kd.int .i64) _ _ _ t173 [.int .i64 t173] from rfl) (Reps.one (show Kd.M (Kd.int .i64) _ _ _ t175 [.int .i64 t175] from rfl) (Reps.one (show Kd.M (Kd.int .i64) _ _ _ t177 [.int .i64 t177] from rfl) (Reps.none _ _))))); intro v182 w36 ho37 hb hg_ hnew_; clear hg_ hnew_; (first | rw [← Ny181.out] at ho37 | (simp only [Int.reduceToNat] at ho37; rw [← Ny181.out] at ho37)); have n0_ := am (Kd.R_lower ho37 (below_size pw)); have n1_ := bb BK168 hb; have n2_ := bb BK169 hb; have n3_ := bb BK170 hb; have n4_ := am (below_step pw hb); clear BK168; clear BK169; clear BK170; clear HB; have HO183 := n0_; have BK168 := n1_; have BK169 := n2_; have BK170 := n3_; have HB := n4_; clear n0_ n1_ n2_ n3_ n4_; clear hb ho37; obtain ⟨Ao38, co38, eo38⟩ := Kd.R_slice HO183.out; subst eo38) | ((with_reducible refine gate_callee (f := 66) rfl ?_); refine goesL_ (some 69) rfl rfl Tryd.func66 kk rfl #[.slice Ao38 y181.length co38] rfl (by (try simp only [List.map_toArray, List.map_cons, List.map_nil]); first | done | rfl | (simp only [List.length_drop, List.length_take]; rfl)) ?_; (with_reducible refine (congr_gcd.calls kj7 _ _ y181 t184 _ ?side1 ?side2 A34.out).mono ?_); (case side1 => repeat (first | exact (Kd.R_reads' HO183.out).2.2 | (with_reducible refine Kd.C_alloc ?_ _) | (with_reducible refine Kd.C_drewN ?_ _) | (with_reducible refine Kd.C_drew ?_))); (case side2 => exact (Kd.R_reads' HO183.out).2.1); rintro e w39 ⟨rfl, hb⟩; refine ⟨_, rfl, ?_⟩; have n0_ := am (Kd.R_below (by (with_reducible repeat (first | apply Kd.R_alloc | apply Kd.R_drewN | apply Kd.R_drew)); exact HO183.out) hb); have n1_ := bb BK168 hb; have n2_ := bb BK169 hb; have n3_ := bb BK170 hb; have n4_ := am (below_step pw hb); clear HO183; clear BK168; clear BK169; clear BK170; clear HB; have HO183 := n0_; have BK168 := n1_; have BK169 := n2_; have BK170 := n3_; have HB := n4_; clear n0_ n1_ n2_ n3_ n4_; (try clear hb); (try clear hb2); (try clear hk); (try clear hi)) | ((with_reducible refine gate_callee (f := 67) rfl ?_); refine goesL_ (some 70) rfl rfl Tryd.func67 kk rfl #[.int .i64 t179, .int .i64 t184] rfl (by (try simp only [List.map_toArray, List.map_cons, List.map_nil]); first | done | rfl | (simp only [List.length_drop, List.length_take]; rfl)) ?_; (with_reducible refine (congr_told.calls kj7 t179 t184 t185 t186 _ A35.out).mono ?_); rintro e w40 ⟨rfl, hb⟩; refine ⟨_, rfl, ?_⟩; have n0_ := am (Kd.R_below (by (with_reducible repeat (first | apply Kd.R_alloc | apply Kd.R_drewN | apply Kd.R_drew)); exact HO183.out) hb); have n1_ := bb BK168 hb; have n2_ := bb BK169 hb; have n3_ := bb BK170 hb; have n4_ := am (below_step pw hb); clear HO183; clear BK168; clear BK169; clear BK170; clear HB; have HO183 := n0_; have BK168 := n1_; have BK169 := n2_; have BK170 := n3_; have HB := n4_; clear n0_ n1_ n2_ n3_ n4_; (try clear hb); (try clear hb2); (try clear hk); (try clear hi); have hnb41 := NB170_168.out; have hnc41 := NB168_170.out; have hnb42 := NB170_169.out; have hnc42 := NB169_170.out; have hcz43_0 : w40.cell? ⟨gb170, 0, none⟩ = some (.int .i64 0) := bc BK170 0; have hcz43_1 : w40.cell? ⟨gb170, 1, none⟩ = some (.int .i64 0) := bc BK170 1; have hfz43_0 := blk_frozen BK170.out 0; have hfz43_1 := blk_frozen BK170.out 1))
    refine bodyPost_ret (results_ct rfl _ _ gb170 24 #[.int .i64 t185, .int .i64 t186] (0, 0) _ rfl (by (with_reducible repeat (first | refine blk_drewN ?_ _ | refine blk_drew ?_ | refine blk_alloc ?_ _)); refine blk_put (cs := #[.int .i64 t185, .int .i64 0]) ?_ 1 _ rfl; (with_reducible repeat (first | refine blk_drewN ?_ _ | refine blk_drew ?_ | refine blk_alloc ?_ _)); refine blk_put (cs := #[.int .i64 0, .int .i64 0]) ?_ 0 _ rfl; (with_reducible repeat (first | refine blk_drewN ?_ _ | refine blk_drew ?_ | refine blk_alloc ?_ _)); exact BK170.out) Tryd.underlying24 rfl kk) rfl ?_
    exact ⟨pe, pw⟩
   replace c33 := Bool.eq_false_iff.mpr c33
   subst c33
   have H1 : (some (0, 1, none)) = some (r1, r2, r3) := by rw [if_neg (show ¬ (false = true) by decide)] at H; exact H
   clear H
   have H := H1
   clear H1
   simp only [Option.some.injEq, Prod.mk.injEq] at H
   obtain ⟨rfl, rfl, rfl⟩ := H
   have hnb44 := NB170_168.out
   have hnc44 := NB168_170.out
   have hnb45 := NB170_169.out
   have hnc45 := NB169_170.out
   have hcz46_0 : wc.cell? ⟨gb170, 0, none⟩ = some (.int .i64 0) := bc BK170 0
   have hcz46_1 : wc.cell? ⟨gb170, 1, none⟩ = some (.int .i64 0) := bc BK170 1
   have hfz46_0 := blk_frozen BK170.out 0
   have hfz46_1 := blk_frozen BK170.out 1
   go_wp2
   refine bodyPost_ret (results_ct rfl _ _ gb170 24 #[.int .i64 0, .int .i64 1] (0, 0) _ rfl (by (with_reducible repeat (first | refine blk_drewN ?_ _ | refine blk_drew ?_ | refine blk_alloc ?_ _)); refine blk_put (cs := #[.int .i64 0, .int .i64 0]) ?_ 1 _ rfl; (with_reducible repeat (first | refine blk_drewN ?_ _ | refine blk_drew ?_ | refine blk_alloc ?_ _)); refine blk_put (cs := #[.int .i64 0, .int .i64 0]) ?_ 0 _ rfl; (with_reducible repeat (first | refine blk_drewN ?_ _ | refine blk_drew ?_ | refine blk_alloc ?_ _)); exact BK170.out) Tryd.underlying24 rfl kk) rfl ?_
   exact ⟨pe, pw⟩
 have H1 : (some (0, 0, some q172)) = some (r1, r2, r3) := by rw [if_neg (show ¬ (some q172).isNone = true by simp)] at H; exact H
 clear H
 have H := H1
 clear H1
 try simp only [errW_none, errW_some]
 simp only [Option.some.injEq, Prod.mk.injEq] at H
 obtain ⟨rfl, rfl, rfl⟩ := H
 go_enter Tryd.func44, Tryd.ntmps44
 go_wp2_with (first | ((with_reducible refine gate_dst (N := 2) rfl ?_); refine box_event ?hg (N := 2) ?hd (cs := #[.int .i64 a0_0, .int .i64 a0_1]) (t := 24) ?hr ?_; (case hd => rfl); (case hg => rfl); (case hr => first | (go_simp; done) | (go_simp; rfl)); intro gb168 hg w47 hbox hb; have n0_ := am (below_step pw hb); have n1_ := am (hbox); have n2_ := am ((by rw [hg]; exact (below_size pw) : w.heap.size ≤ gb168)); have n3_ := am ((by rw [hg]; exact (below_size pw) : w.heap.size ≤ gb168)); clear HB; have HB := n0_; have BK168 := n1_; have GW168 := n2_; have GE168 := n3_; clear n0_ n1_ n2_ n3_; clear hb hbox hg) | ((with_reducible refine gate_dst (N := 3) rfl ?_); refine box_event ?hg (N := 3) ?hd (cs := #[.int .i64 a1_0, .int .i64 a1_1]) (t := 24) ?hr ?_; (case hd => rfl); (case hg => rfl); (case hr => first | (go_simp; done) | (go_simp; rfl)); intro gb169 hg w48 hbox hb; have n0_ := bb BK168 hb; have n1_ := am (below_step pw hb); have n2_ := am (hbox); have n3_ := am ((by rw [hg]; exact (below_size pw) : w.heap.size ≤ gb169)); have n4_ := am ((by rw [hg]; exact (below_size pw) : w.heap.size ≤ gb169)); have n5_ := am ((by rw [hg]; exact Nat.ne_of_lt (blk_lt pk) : gb168 ≠ gb169)); have n6_ := am ((by rw [hg]; exact Nat.ne_of_gt (blk_lt pk) : gb169 ≠ gb168)); clear BK168; clear HB; have BK168 := n0_; have HB := n1_; have BK169 := n2_; have GW169 := n3_; have GE169 := n4_; have NB168_169 := n5_; have NB169_168 := n6_; clear n0_ n1_ n2_ n3_ n4_ n5_ n6_; clear hb hbox hg) | ((with_reducible refine gate_dst (N := 4) rfl ?_); refine box_event ?hg (N := 4) ?hd (cs := #[.int .i64 0, .int .i64 0]) (t := 24) ?hr ?_; (case hd => rfl); (case hg => rfl); (case hr => first | (go_simp; done) | (go_simp; rfl)); intro gb170 hg w49 hbox hb; have n0_ := bb BK168 hb; have n1_ := bb BK169 hb; have n2_ := am (below_step pw hb); have n3_ := am (hbox); have n4_ := am ((by rw [hg]; exact (below_size pw) : w.heap.size ≤ gb170)); have n5_ := am ((by rw [hg]; exact (below_size pw) : w.heap.size ≤ gb170)); have n6_ := am ((by rw [hg]; exact Nat.ne_of_lt (blk_lt pk) : gb168 ≠ gb170)); have n7_ := am ((by rw [hg]; exact Nat.ne_of_gt (blk_lt pk) : gb170 ≠ gb168)); have n8_ := am ((by rw [hg]; exact Nat.ne_of_lt (blk_lt pk) : gb169 ≠ gb170)); have n9_ := am ((by rw [hg]; exact Nat.ne_of_gt (blk_lt pk) : gb170 ≠ gb169)); clear BK168; clear BK169; clear HB; have BK168 := n0_; have BK169 := n1_; have HB := n2_; have BK170 := n3_; have GW170 := n4_; have GE170 := n5_; have NB168_170 := n6_; have NB170_168 := n7_; have NB169_170 := n8_; have NB170_169 := n9_; clear n0_ n1_ n2_ n3_ n4_ n5_ n6_ n7_ n8_ n9_; clear hb hbox hg; have hnb50 := NB168_169.out; have hnc50 := NB169_168.out; have hnb51 := NB168_170.out; have hnc51 := NB170_168.out; have hcz52_0 : w49.cell? ⟨gb168, 0, none⟩ = some (.int .i64 a0_0) := bc BK168 0; have hcz52_1 : w49.cell? ⟨gb168, 1, none⟩ = some (.int .i64 a0_1) := bc BK168 1; have hfz52_0 := blk_frozen BK168.out 0; have hfz52_1 := blk_frozen BK168.out 1; have hnb53 := NB169_170.out; have hnc53 := NB170_169.out; have hcz54_0 : w49.cell? ⟨gb169, 0, none⟩ = some (.int .i64 a1_0) := bc BK169 0; have hcz54_1 : w49.cell? ⟨gb169, 1, none⟩ = some (.int .i64 a1_1) := bc BK169 1; have hfz54_0 := blk_frozen BK169.out 0; have hfz54_1 := blk_frozen BK169.out 1) | ((with_reducible refine gate_callee (f := 64) rfl ?_); refine goesL_ (some 17) rfl rfl Tryd.func64 kk rfl #[.agg #[.int .i64 a0_0, .int .i64 a0_1], .agg #[.int .i64 a1_0, .int .i64 a1_1]] rfl (by (try simp only [List.map_toArray, List.map_cons, List.map_nil]); first | done | rfl | (simp only [List.length_drop, List.length_take]; rfl)) ?_; (with_reducible refine (congr_two.calls k a0_0 a0_1 a1_0 a1_1 (some q172) _ A3.out (am (ErrAt.below hE2.out pw)).out (am (ErrAt.below hE3.out pw)).out).mono ?_); rintro e w55 ⟨rfl, hb⟩; refine ⟨_, rfl, ?_⟩; have n0_ := bb BK168 hb; have n1_ := bb BK169 hb; have n2_ := bb BK170 hb; have n3_ := am (below_step pw hb); clear BK168; clear BK169; clear BK170; clear HB; have BK168 := n0_; have BK169 := n1_; have BK170 := n2_; have HB := n3_; clear n0_ n1_ n2_ n3_; (try clear hb); (try clear hb2); (try clear hk); (try clear hi); (try simp only [errW_none, errW_some]); have hcz56_0 : w55.cell? ⟨gb170, 0, none⟩ = some (.int .i64 0) := bc BK170 0; have hcz56_1 : w55.cell? ⟨gb170, 1, none⟩ = some (.int .i64 0) := bc BK170 1; have hfz56_0 := blk_frozen BK170.out 0; have hfz56_1 := blk_frozen BK170.out 1))
 refine bodyPost_ret (results_ct rfl _ _ gb170 24 #[.int .i64 0, .int .i64 0] (0, 0) _ rfl (by (with_reducible repeat (first | refine blk_drewN ?_ _ | refine blk_drew ?_ | refine blk_alloc ?_ _)); refine blk_put (cs := #[.int .i64 0, .int .i64 0]) ?_ 1 _ rfl; (with_reducible repeat (first | refine blk_drewN ?_ _ | refine blk_drew ?_ | refine blk_alloc ?_ _)); refine blk_put (cs := #[.int .i64 0, .int .i64 0]) ?_ 0 _ rfl; (with_reducible repeat (first | refine blk_drewN ?_ _ | refine blk_drew ?_ | refine blk_alloc ?_ _)); exact BK170.out) Tryd.underlying24 rfl kk) rfl ?_
 exact ⟨pe, pw⟩

/-! ### congr_Mul, where there is no error -/
def congr_Mul_ok.f (k : Nat) (a0_0 : Int) (a0_1 : Int) (a1_0 : Int) (a1_1 : Int) : Option (Int × Int) := (congr_Mul.f k a0_0 a0_1 a1_0 a1_1).bind fun t_ => match t_ with | (q0_, q1_, q2_) => if q2_.isNone = true then some (q0_, q1_) else none
theorem congr_Mul_ok.calls [EA] (k : Nat) (a0_0 : Int) (a0_1 : Int) (a1_0 : Int) (a1_1 : Int) (r1 : Int) (r2 : Int) (w : World) (h : congr_Mul_ok.f k a0_0 a0_1 a1_0 a1_1 = some (r1, r2)) (h2_ : ErrAt 2 1 w) (h3_ : ErrAt 3 0 w) :
  Calls Tryd.prog 44 #[.agg #[.int .i64 a0_0, .int .i64 a0_1], .agg #[.int .i64 a1_0, .int .i64 a1_1]] w fun e w' => e = .returned (.tuple #[.agg #[.int .i64 r1, .int .i64 r2], .nilIface]) ∧ Below w.heap.size w w' := by
 obtain ⟨t_, h1_, h2_⟩ := Option.bind_eq_some_iff.mp h
 obtain ⟨q0_, q1_, q2_⟩ := t_
 cases q2_ with
 | some c_ => exact absurd h2_ (by simp)
 | none =>
  simp only [Option.isNone_none, if_true, Option.some.injEq, Prod.mk.injEq] at h2_
  obtain ⟨rfl, rfl⟩ := h2_
  exact congr_Mul.calls k a0_0 a0_1 a1_0 a1_1 _ _ none w h1_ h2_ h3_
theorem congr_Mul_ok.mono : ∀ a0_ a1_ a2_ a3_ k, LeO (congr_Mul_ok.f k a0_ a1_ a2_ a3_) (congr_Mul_ok.f (k + 1) a0_ a1_ a2_ a3_) := by
 intro a0_ a1_ a2_ a3_ k
 unfold congr_Mul_ok.f
 exact LeO.bind (congr_Mul.mono a0_ a1_ a2_ a3_ k) (fun _ => LeO.refl _)

/-! ### congr_Sub: function 45 -/
def congr_Sub.f (k : Nat) (a0_0 : Int) (a0_1 : Int) (a1_0 : Int) (a1_1 : Int) : Option (Int × Int × Option Int) := (congr_two.f k a0_0 a0_1 a1_0 a1_1).bind fun t190 => (if t190.isNone = true then ((congr_gcd.f k (([a0_1, a1_1] : List Int))).bind fun t195 => ((congr_told.f k (wrap64 (a0_0 - a1_0)) t195).bind fun bt196 => (some (bt196.1, bt196.2, none)))) else (some (0, 0, some (t190.getD 0))))
theorem congr_Sub.mono : ∀ a0 a1 a2 a3 k, LeO (congr_Sub.f k a0 a1 a2 a3) (congr_Sub.f (k + 1) a0 a1 a2 a3) := by
 intro a0 a1 a2 a3 k
 unfold congr_Sub.f
 repeat' first
   | (with_reducible exact congr_gcd.mono _ _)
   | (with_reducible exact congr_told.mono _ _ _)
   | (with_reducible exact congr_two.mono _ _ _ _ _)
   | (with_reducible exact LeO.refl _)
   | (with_reducible exact LeO.none _)
   | (with_reducible refine LeO.ite ?_ ?_)
   | (with_reducible refine LeO.bind ?_ (fun _ => ?_))
   | exact congr_gcd.mono _ _
   | exact congr_told.mono _ _ _
   | exact congr_two.mono _ _ _ _ _
   | exact LeO.none _
   | refine LeO.ite ?_ ?_
   | refine LeO.bind ?_ (fun _ => ?_)
def congr_Sub.T4 : Bool × List (List Nat × List Nat) := (true, [([], []), ([0], [0]), ([], []), ([2], [2]), ([1, 3], [1, 3]), ([], []), ([5], [5]), ([], []), ([7], [7]), ([6, 8], [6, 8]), ([9], [9]), ([4, 10, 10], [4, 10]), ([11, 11, 0, 1, 2, 3, 4, 5, 6, 7, 8, 9, 10, 11], [11]), ([12, 0, 1, 2, 3, 4, 5, 6, 7, 8, 9, 10, 11, 12], [])])
def congr_Sub.B4 : List Nat := [0, 1, 0, 4, 15, 0, 32, 0, 128, 480, 992, 2047, 4095, 8191]
theorem congr_Sub.tab4 : rtab .any (opsOf Tryd.f45 4) = congr_Sub.T4 := by kernel_rfl
theorem congr_Sub.bits4 : waitsOk congr_Sub.T4.2 congr_Sub.B4 = true := by kernel_rfl
set_option maxHeartbeats 8000000 in
set_option maxRecDepth 100000 in
theorem congr_Sub.calls [EA] (k : Nat) (a0_0 : Int) (a0_1 : Int) (a1_0 : Int) (a1_1 : Int) (r1 : Int) (r2 : Int) (r3 : Option Int) (w : World) (h : congr_Sub.f k a0_0 a0_1 a1_0 a1_1 = some (r1, r2, r3)) (h2_ : ErrAt 2 1 w) (h3_ : ErrAt 3 0 w) :
  Calls Tryd.prog 45 #[.agg #[.int .i64 a0_0, .int .i64 a0_1], .agg #[.int .i64 a1_0, .int .i64 a1_1]] w fun e w' => e = .returned (.tuple #[.agg #[.int .i64 r1, .int .i64 r2], errW r3]) ∧ Below w.heap.size w w' := by
 have hE2 := am h2_
 clear h2_
 have hE3 := am h3_
 clear h3_
 have hu24 := Tryd.underlying24
 have hu26 := Tryd.underlying26
 have HB := am (Below.refl w.heap.size w)
 have H : ((congr_two.f k a0_0 a0_1 a1_0 a1_1).bind fun t190 => (if t190.isNone = true then ((congr_gcd.f k (([a0_1, a1_1] : List Int))).bind fun t195 => ((congr_told.f k (wrap64 (a0_0 - a1_0)) t195).bind fun bt196 => (some (bt196.1, bt196.2, none)))) else (some (0, 0, some (t190.getD 0))))) = some (r1, r2, r3) := h
 clear h
 replace H := Option.bind_eq_some_iff.mp H
 obtain ⟨t190, A30, H⟩ := H
 replace H : (if t190.isNone = true then ((congr_gcd.f k (([a0_1, a1_1] : List Int))).bind fun t195 => ((congr_told.f k (wrap64 (a0_0 - a1_0)) t195).bind fun bt196 => (some (bt196.1, bt196.2, none)))) else (some (0, 0, some (t190.getD 0)))) = some (r1, r2, r3) := H
 have A3 := am A30
 clear A30
 rcases t190 with _ | q191
 ·have H1 : ((congr_gcd.f k (([a0_1, a1_1] : List Int))).bind fun t195 => ((congr_told.f k (wrap64 (a0_0 - a1_0)) t195).bind fun bt196 => (some (bt196.1, bt196.2, none)))) = some (r1, r2, r3) := by rw [if_pos (show (none : Option Int).isNone = true by rfl)] at H; exact H
  clear H
  have H := H1
  clear H1
  try simp only [errW_none, errW_some]
  obtain ⟨y192, hy192⟩ : ∃ y_ : List Int, y_ = (([a0_1, a1_1] : List Int)) := ⟨_, rfl⟩
  replace H : ((congr_gcd.f k y192).bind fun t195 => ((congr_told.f k (wrap64 (a0_0 - a1_0)) t195).bind fun bt196 => (some (bt196.1, bt196.2, none)))) = some (r1, r2, r3) := by first | (rw [hy192]; with_reducible exact H) | (have H2_ := (Option.bind_some _ _).symm.trans H; rw [hy192]; with_reducible exact H2_) | (have H2_ := (Option.bind_some _ _).symm.trans H; with_reducible exact H2_) | with_reducible exact H | (rw [hy192]; exact H) | exact H
  have Ny192 := am hy192
  clear hy192
  replace H := Option.bind_eq_some_iff.mp H
  obtain ⟨t195, A40, H⟩ := H
  replace H : ((congr_told.f k (wrap64 (a0_0 - a1_0)) t195).bind fun bt196 => (some (bt196.1, bt196.2, none))) = some (r1, r2, r3) := H
  have A4 := am A40
  clear A40
  replace H := Option.bind_eq_some_iff.mp H
  obtain ⟨⟨t196, t197⟩, A50, H⟩ := H
  replace H : (some (t196, t197, none)) = some (r1, r2, r3) := H
  have A5 := am A50
  clear A50
  simp only [Option.some.injEq, Prod.mk.injEq] at H
  obtain ⟨rfl, rfl, rfl⟩ := H
  go_enter Tryd.func45, Tryd.ntmps45
  try go_wp2_with (first | ((with_reducible refine gate_dst (N := 2) rfl ?_); refine box_event ?hg (N := 2) ?hd (cs := #[.int .i64 a0_0, .int .i64 a0_1]) (t := 24) ?hr ?_; (case hd => rfl); (case hg => rfl); (case hr => first | (go_simp; done) | (go_simp; rfl)); intro gb187 hg w6 hbox hb; have n0_ := am (below_step pw hb); have n1_ := am (hbox); have n2_ := am ((by rw [hg]; exact (below_size pw) : w.heap.size ≤ gb187)); have n3_ := am ((by rw [hg]; exact (below_size pw) : w.heap.size ≤ gb187)); clear HB; have HB := n0_; have BK187 := n1_; have GW187 := n2_; have GE187 := n3_; clear n0_ n1_ n2_ n3_; clear hb hbox hg) | ((with_reducible refine gate_dst (N := 3) rfl ?_); refine box_event ?hg (N := 3) ?hd (cs := #[.int .i64 a1_0, .int .i64 a1_1]) (t := 24) ?hr ?_; (case hd => rfl); (case hg => rfl); (case hr => first | (go_simp; done) | (go_simp; rfl)); intro gb188 hg w7 hbox hb; have n0_ := bb BK187 hb; have n1_ := am (below_step pw hb); have n2_ := am (hbox); have n3_ := am ((by rw [hg]; exact (below_size pw) : w.heap.size ≤ gb188)); have n4_ := am ((by rw [hg]; exact (below_size pw) : w.heap.size ≤ gb188)); have n5_ := am ((by rw [hg]; exact Nat.ne_of_lt (blk_lt pk) : gb187 ≠ gb188)); have n6_ := am ((by rw [hg]; exact Nat.ne_of_gt (blk_lt pk) : gb188 ≠ gb187)); clear BK187; clear HB; have BK187 := n0_; have HB := n1_; have BK188 := n2_; have GW188 := n3_; have GE188 := n4_; have NB187_188 := n5_; have NB188_187 := n6_; clear n0_ n1_ n2_ n3_ n4_ n5_ n6_; clear hb hbox hg) | ((with_reducible refine gate_dst (N := 4) rfl ?_); refine box_event ?hg (N := 4) ?hd (cs := #[.int .i64 0, .int .i64 0]) (t := 24) ?hr ?_; (case hd => rfl); (case hg => rfl); (case hr => first | (go_simp; done) | (go_simp; rfl)); intro gb189 hg w8 hbox hb; have n0_ := bb BK187 hb; have n1_ := bb BK188 hb; have n2_ := am (below_step pw hb); have n3_ := am (hbox); have n4_ := am ((by rw [hg]; exact (below_size pw) : w.heap.size ≤ gb189)); have n5_ := am ((by rw [hg]; exact (below_size pw) : w.heap.size ≤ gb189)); have n6_ := am ((by rw [hg]; exact Nat.ne_of_lt (blk_lt pk) : gb187 ≠ gb189)); have n7_ := am ((by rw [hg]; exact Nat.ne_of_gt (blk_lt pk) : gb189 ≠ gb187)); have n8_ := am ((by rw [hg]; exact Nat.ne_of_lt (blk_lt pk) : gb188 ≠ gb189)); have n9_ := am ((by rw [hg]; exact Nat.ne_of_gt (blk_lt pk) : gb189 ≠ gb188)); clear BK187; clear BK188; clear HB; have BK187 := n0_; have BK188 := n1_; have HB := n2_; have BK189 := n3_; have GW189 := n4_; have GE189 := n5_; have NB187_189 := n6_; have NB189_187 := n7_; have NB188_189 := n8_; have NB189_188 := n9_; clear n0_ n1_ n2_ n3_ n4_ n5_ n6_ n7_ n8_ n9_; clear hb hbox hg; have hnb9 := NB187_188.out; have hnc9 := NB188_187.out; have hnb10 := NB187_189.out; have hnc10 := NB189_187.out; have hcz11_0 : w8.cell? ⟨gb187, 0, none⟩ = some (.int .i64 a0_0) := bc BK187 0; have hcz11_1 : w8.cell? ⟨gb187, 1, none⟩ = some (.int .i64 a0_1) := bc BK187 1; have hfz11_0 := blk_frozen BK187.out 0; have hfz11_1 := blk_frozen BK187.out 1; have hnb12 := NB188_189.out; have hnc12 := NB189_188.out; have hcz13_0 : w8.cell? ⟨gb188, 0, none⟩ = some (.int .i64 a1_0) := bc BK188 0; have hcz13_1 : w8.cell? ⟨gb188, 1, none⟩ = some (.int .i64 a1_1) := bc BK188 1; have hfz13_0 := blk_frozen BK188.out 0; have hfz13_1 := blk_frozen BK188.out 1) | ((with_reducible refine gate_callee (f := 64) rfl ?_); refine goesL_ (some 9) rfl rfl Tryd.func64 kk rfl #[.agg #[.int .i64 a0_0, .int .i64 a0_1], .agg #[.int .i64 a1_0, .int .i64 a1_1]] rfl (by (try simp only [List.map_toArray, List.map_cons, List.map_nil]); first | done | rfl | (simp only [List.length_drop, List.length_take]; rfl)) ?_; (with_reducible refine (congr_two.calls k a0_0 a0_1 a1_0 a1_1 none _ A3.out (am (ErrAt.below hE2.out pw)).out (am (ErrAt.below hE3.out pw)).out).mono ?_); rintro e w14 ⟨rfl, hb⟩; refine ⟨_, rfl, ?_⟩; have n0_ := bb BK187 hb; have n1_ := bb BK188 hb; have n2_ := bb BK189 hb; have n3_ := am (below_step pw hb); clear BK187; clear BK188; clear BK189; clear HB; have BK187 := n0_; have BK188 := n1_; have BK189 := n2_; have HB := n3_; clear n0_ n1_ n2_ n3_; (try clear hb); (try clear hb2); (try clear hk); (try clear hi); (try simp only [errW_none, errW_some])))
  have n0_ := am (blk_drew BK187.out)
  have n1_ := am (blk_drew BK188.out)
  have n2_ := am (blk_drew BK189.out)
  have n3_ := am (below_drew1 HB.out)
  clear BK187 BK188 BK189 HB
  revert n0_ n1_ n2_ n3_
  intro BK187 BK188 BK189 HB
  refine start_ (n := 14) (S := fun w' => w'.cell? ⟨gb187, 0, none⟩ = some (.int .i64 a0_0) ∧ w'.cell? ⟨gb187, 1, none⟩ = some (.int .i64 a0_1) ∧ w'.cell? ⟨gb188, 0, none⟩ = some (.int .i64 a1_0) ∧ w'.cell? ⟨gb188, 1, none⟩ = some (.int .i64 a1_1)) (ds := []) #[false, false, false, false, false, false, false, false, false, false, false, false, false, false] kk rfl rfl ⟨bc BK187 0, bc BK187 1, bc BK188 0, bc BK188 1⟩ (fun hHeld => ?_); refine with_tabW congr_Sub.tab4 congr_Sub.bits4 (fun HT_ HW_ => ?_)
  generalize w14.drew = w15 at BK187 BK188 BK189 HB hHeld ⊢
  refine pure_ (i := 0) (N := some 14) (v := ?_) (a' := ?_) #[true, false, false, false, false, false, false, false, false, false, false, false, false, false] rfl rfl (any_of HT_.out kk) (fun _ _ _ h => h) (Or.inl ⟨by rfl, ?_⟩) ?_ ?_
  rotate_left
  ·intro w'
   go_simp
   with_reducible rfl
  rotate_left
  ·simp only [Act.put, List.setIfInBounds_toArray, List.set_cons_zero, List.set_cons_succ, i64_w, i32_w]
   rfl
  refine pure_ (i := 2) (N := some 16) (v := ?_) (a' := ?_) #[true, false, true, false, false, false, false, false, false, false, false, false, false, false] rfl rfl (any_of HT_.out kk) (fun _ _ _ h => h) (Or.inl ⟨by rfl, ?_⟩) ?_ ?_
  rotate_left
  ·intro w'
   go_simp
   with_reducible rfl
  rotate_left
  ·simp only [Act.put, List.setIfInBounds_toArray, List.set_cons_zero, List.set_cons_succ, i64_w, i32_w]
   rfl
  refine pure_ (i := 5) (N := some 19) (v := ?_) (a' := ?_) #[true, false, true, false, false, true, false, false, false, false, false, false, false, false] rfl rfl (any_of HT_.out kk) (fun _ _ _ h => h) (Or.inl ⟨by rfl, ?_⟩) ?_ ?_
  rotate_left
  ·intro w'
   go_simp
   with_reducible rfl
  rotate_left
  ·simp only [Act.put, List.setIfInBounds_toArray, List.set_cons_zero, List.set_cons_succ, i64_w, i32_w]
   rfl
  refine pure_ (i := 7) (N := some 21) (v := ?_) (a' := ?_) #[true, false, true, false, false, true, false, true, false, false, false, false, false, false] rfl rfl (any_of HT_.out kk) (fun _ _ _ h => h) (Or.inl ⟨by rfl, ?_⟩) ?_ ?_
  rotate_left
  ·intro w'
   go_simp
   with_reducible rfl
  rotate_left
  ·simp only [Act.put, List.setIfInBounds_toArray, List.set_cons_zero, List.set_cons_succ, i64_w, i32_w]
   rfl
  refine take_ (i := 1) (N := some 15) (v := ?_) (a' := ?_) #[true, true, true, false, false, true, false, true, false, false, false, false, false, false] rfl rfl (take_ofW HT_.out HW_.out kk) (fun _ _ _ h => h) (Or.inl ⟨by rfl, ?_⟩) hHeld ?_ ?_
  rotate_left
  ·rintro w' ⟨s0, s1, s2, s3⟩
   go_simp
   with_reducible rfl
  rotate_left
  ·simp only [Act.put, List.setIfInBounds_toArray, List.set_cons_zero, List.set_cons_succ, i64_w, i32_w]
   rfl
  refine take_ (i := 3) (N := some 17) (v := ?_) (a' := ?_) #[true, true, true, true, false, true, false, true, false, false, false, false, false, false] rfl rfl (take_ofW HT_.out HW_.out kk) (fun _ _ _ h => h) (Or.inl ⟨by rfl, ?_⟩) hHeld ?_ ?_
  rotate_left
  ·rintro w' ⟨s0, s1, s2, s3⟩
   go_simp
   with_reducible rfl
  rotate_left
  ·simp only [Act.put, List.setIfInBounds_toArray, List.set_cons_zero, List.set_cons_succ, i64_w, i32_w]
   rfl
  refine pure_ (i := 4) (N := some 18) (v := ?_) (a' := ?_) #[true, true, true, true, true, true, false, true, false, false, false, false, false, false] rfl rfl (any_of HT_.out kk) (fun _ _ _ h => h) (Or.inl ⟨by rfl, ?_⟩) ?_ ?_
  rotate_left
  ·intro w'
   go_simp
   with_reducible rfl
  rotate_left
  ·simp only [Act.put, List.setIfInBounds_toArray, List.set_cons_zero, List.set_cons_succ, i64_w, i32_w]
   rfl
  refine take_ (i := 6) (N := some 20) (v := ?_) (a' := ?_) #[true, true, true, true, true, true, true, true, false, false, false, false, false, false] rfl rfl (take_ofW HT_.out HW_.out kk) (fun _ _ _ h => h) (Or.inl ⟨by rfl, ?_⟩) hHeld ?_ ?_
  rotate_left
  ·rintro w' ⟨s0, s1, s2, s3⟩
   go_simp
   with_reducible rfl
  rotate_left
  ·simp only [Act.put, List.setIfInBounds_toArray, List.set_cons_zero, List.set_cons_succ, i64_w, i32_w]
   rfl
  refine take_ (i := 8) (N := some 22) (v := ?_) (a' := ?_) #[true, true, true, true, true, true, true, true, true, false, false, false, false, false] rfl rfl (take_ofW HT_.out HW_.out kk) (fun _ _ _ h => h) (Or.inl ⟨by rfl, ?_⟩) hHeld ?_ ?_
  rotate_left
  ·rintro w' ⟨s0, s1, s2, s3⟩
   go_simp
   with_reducible rfl
  rotate_left
  ·simp only [Act.put, List.setIfInBounds_toArray, List.set_cons_zero, List.set_cons_succ, i64_w, i32_w]
   rfl
  refine one_ (i := 9) (N := some 23) #[true, true, true, true, true, true, true, true, true, true, false, false, false, false] rfl rfl (one_of HT_.out kk) (by decide) (fun K hK => ?_)
  refine Kd.R_lit_step (Kd.int .i64) _ 3 ?hg (N := 23) ?hd (xs := ([a0_1, a1_1] : List Int)) (inner := [.int .i64 a0_1, .int .i64 a1_1]) (ok := fun _ => True) (okp := fun _ => True) ?hr ?hp (fun _ hk => hk) trivial (Below.refl _ _) (Nat.le_refl _) (by simp) ?_; (case hd => rfl); (case hg => rfl); (case hr => first | (go_simp; done) | (go_simp; rfl)); (case hp => exact (Reps.one (show Kd.M (Kd.int .i64) _ _ _ a0_1 [.int .i64 a0_1] from rfl) (Reps.one (show Kd.M (Kd.int .i64) _ _ _ a1_1 [.int .i64 a1_1] from rfl) (Reps.none _ _))))
  intro v193 w16 ho17 hb hg_ hnew_
  clear hg_ hnew_
  (first | rw [← Ny192.out] at ho17 | (simp only [Int.reduceToNat] at ho17; rw [← Ny192.out] at ho17))
  have n0_ := am (Kd.R_lower ho17 (below_size pw))
  have n1_ := bb BK187 hb
  have n2_ := bb BK188 hb
  have n3_ := bb BK189 hb
  have n4_ := am (below_step pw hb)
  clear BK187 BK188 BK189 HB
  revert n0_ n1_ n2_ n3_ n4_
  intro HO194 BK187 BK188 BK189 HB
  clear hb ho17
  obtain ⟨Ao18, co18, eo18⟩ := Kd.R_slice HO194.out
  (first | subst eo18 | (injection eo18 with f1_ f2_ f3_; have f4_ := f1_.symm; have f5_ := f3_.symm; clear f1_ f2_ f3_; subst f4_; subst f5_))
  refine hK.out _ _ ⟨bc BK187 0, bc BK187 1, bc BK188 0, bc BK188 1⟩ (fun hHeld => ?_)
  clear hK K
  refine norm_ (a' := ?_) ?_ ?_
  rotate_left
  ·show Act.put _ (some 23) _ = _
   simp only [Act.put, List.setIfInBounds_toArray, List.set_cons_zero, List.set_cons_succ, i64_w, i32_w]
   rfl
  refine one_ (i := 10) (N := some 24) #[true, true, true, true, true, true, true, true, true, true, true, false, false, false] rfl rfl (one_of HT_.out kk) (by decide) (fun K hK => ?_)
  refine goes_ Tryd.func66 kk rfl #[.slice Ao18 y192.length co18] (by rfl) rfl rfl (by (try simp only [List.map_toArray, List.map_cons, List.map_nil]); first | done | rfl | (simp only [List.length_drop, List.length_take]; rfl)) ?_
  with_reducible refine (congr_gcd.calls k _ _ y192 t195 _ ?side1 ?side2 A4.out).mono ?_
  (case side1 => repeat (first | exact (Kd.R_reads' HO194.out).2.2 | (with_reducible refine Kd.C_alloc ?_ _) | (with_reducible refine Kd.C_drewN ?_ _) | (with_reducible refine Kd.C_drew ?_)))
  (case side2 => exact (Kd.R_reads' HO194.out).2.1)
  rintro e w19 ⟨rfl, hb⟩
  refine ⟨_, rfl, ?_⟩
  have n0_ := am (Kd.R_below (by (with_reducible repeat (first | apply Kd.R_alloc | apply Kd.R_drewN | apply Kd.R_drew)); exact HO194.out) hb)
  have n1_ := bb BK187 hb
  have n2_ := bb BK188 hb
  have n3_ := bb BK189 hb
  have n4_ := am (below_step pw hb)
  clear HO194 BK187 BK188 BK189 HB
  revert n0_ n1_ n2_ n3_ n4_
  intro HO194 BK187 BK188 BK189 HB
  (try clear hb)
  (try clear hb2)
  (try clear hk)
  (try clear hi)
  refine hK.out _ _ ⟨bc BK187 0, bc BK187 1, bc BK188 0, bc BK188 1⟩ (fun hHeld => ?_)
  clear hK K
  refine norm_ (a' := ?_) ?_ ?_
  rotate_left
  ·show Act.put _ (some 24) _ = _
   simp only [Act.put, List.setIfInBounds_toArray, List.set_cons_zero, List.set_cons_succ, i64_w, i32_w]
   rfl
  refine one_ (i := 11) (N := some 25) #[true, true, true, true, true, true, true, true, true, true, true, true, false, false] rfl rfl (one_of HT_.out kk) (by decide) (fun K hK => ?_)
  refine goes_ Tryd.func67 kk rfl #[.int .i64 (wrap64 (a0_0 - a1_0)), .int .i64 t195] (by rfl) rfl rfl (by (try simp only [List.map_toArray, List.map_cons, List.map_nil]); first | done | rfl | (simp only [List.length_drop, List.length_take]; rfl)) ?_
  with_reducible refine (congr_told.calls k (wrap64 (a0_0 - a1_0)) t195 t196 t197 _ A5.out).mono ?_
  rintro e w20 ⟨rfl, hb⟩
  refine ⟨_, rfl, ?_⟩
  have n0_ := am (Kd.R_below (by (with_reducible repeat (first | apply Kd.R_alloc | apply Kd.R_drewN | apply Kd.R_drew)); exact HO194.out) hb)
  have n1_ := bb BK187 hb
  have n2_ := bb BK188 hb
  have n3_ := bb BK189 hb
  have n4_ := am (below_step pw hb)
  clear HO194 BK187 BK188 BK189 HB
  revert n0_ n1_ n2_ n3_ n4_
  intro HO194 BK187 BK188 BK189 HB
  (try clear hb)
  (try clear hb2)
  (try clear hk)
  (try clear hi)
  refine hK.out _ _ ⟨bc BK187 0, bc BK187 1, bc BK188 0, bc BK188 1⟩ (fun hHeld => ?_)
  clear hK K
  refine norm_ (a' := ?_) ?_ ?_
  rotate_left
  ·show Act.put _ (some 25) _ = _
   simp only [Act.put, List.setIfInBounds_toArray, List.set_cons_zero, List.set_cons_succ, i64_w, i32_w]
   rfl
  refine one_ (i := 12) (N := none) #[true, true, true, true, true, true, true, true, true, true, true, true, true, false] rfl rfl (one_of HT_.out kk) (by decide) (fun K hK => ?_)
  have hs21 : w20.cell? ⟨gb189, 0, none⟩ = some (.int .i64 0) := bc BK189 0
  have hfs21 := blk_frozen BK189.out 0
  have hns21_0 := NB187_189.out
  have hns21_1 := NB188_189.out
  have hms21_0 := NB189_187.out
  have hms21_1 := NB189_188.out
  have hs22 : w20.cell? ⟨gb189, 1, none⟩ = some (.int .i64 0) := bc BK189 1
  have hfs22 := blk_frozen BK189.out 1
  have hns22_0 := NB187_189.out
  have hns22_1 := NB188_189.out
  have hms22_0 := NB189_187.out
  have hms22_1 := NB189_188.out
  refine skip_ (w1 := ?_) (by rfl) rfl ?_ ?_
  rotate_left
  ·go_simp
   rfl
  refine hK.out _ _ ⟨((cell_far (p := ⟨gb189, _, none⟩) NB187_189.out _).trans (((cell_far (p := ⟨gb189, _, none⟩) NB187_189.out _).trans (hHeld.1)))), ((cell_far (p := ⟨gb189, _, none⟩) NB187_189.out _).trans (((cell_far (p := ⟨gb189, _, none⟩) NB187_189.out _).trans (hHeld.2.1)))), ((cell_far (p := ⟨gb189, _, none⟩) NB188_189.out _).trans (((cell_far (p := ⟨gb189, _, none⟩) NB188_189.out _).trans (hHeld.2.2.1)))), ((cell_far (p := ⟨gb189, _, none⟩) NB188_189.out _).trans (((cell_far (p := ⟨gb189, _, none⟩) NB188_189.out _).trans (hHeld.2.2.2))))⟩ (fun hHeld => ?_)
  clear hK K
  refine pure_ (i := 13) (N := some 5) (v := ?_) (a' := ?_) #[true, true, true, true, true, true, true, true, true, true, true, true, true, true] rfl rfl (any_of HT_.out kk) (fun _ _ _ h => h) (Or.inl ⟨by rfl, ?_⟩) ?_ ?_
  rotate_left
  ·intro w'
   go_simp
   with_reducible rfl
  rotate_left
  ·simp only [Act.put, List.setIfInBounds_toArray, List.set_cons_zero, List.set_cons_succ, i64_w, i32_w]
   rfl
  refine done_ (done_of HT_.out kk) ?_
  try go_wp2
  refine bodyPost_ret (results_ct rfl _ _ gb189 24 #[.int .i64 t196, .int .i64 t197] (0, 0) _ rfl (by (with_reducible repeat (first | refine blk_drewN ?_ _ | refine blk_drew ?_ | refine blk_alloc ?_ _)); refine blk_put (cs := #[.int .i64 t196, .int .i64 0]) ?_ 1 _ rfl; (with_reducible repeat (first | refine blk_drewN ?_ _ | refine blk_drew ?_ | refine blk_alloc ?_ _)); refine blk_put (cs := #[.int .i64 0, .int .i64 0]) ?_ 0 _ rfl; (with_reducible repeat (first | refine blk_drewN ?_ _ | refine blk_drew ?_ | refine blk_alloc ?_ _)); exact BK189.out) Tryd.underlying24 rfl kk) rfl ?_
  exact ⟨pe, pw⟩
 have H1 : (some (0, 0, some q191)) = some (r1, r2, r3) := by rw [if_neg (show ¬ (some q191).isNone = true by simp)] at H; exact H
 clear H
 have H := H1
 clear H1
 try simp only [errW_none, errW_some]
 simp only [Option.some.injEq, Prod.mk.injEq] at H
 obtain ⟨rfl, rfl, rfl⟩ := H
 go_enter Tryd.func45, Tryd.ntmps45
 go_wp2_with (first | ((with_reducible refine gate_dst (N := 2) rfl ?_); refine box_event ?hg (N := 2) ?hd (cs := #[.int .i64 a0_0, .int .i64 a0_1]) (t := 24) ?hr ?_; (case hd => rfl); (case hg => rfl); (case hr => first | (go_simp; done) | (go_simp; rfl)); intro gb187 hg w23 hbox hb; have n0_ := am (below_step pw hb); have n1_ := am (hbox); have n2_ := am ((by rw [hg]; exact (below_size pw) : w.heap.size ≤ gb187)); have n3_ := am ((by rw [hg]; exact (below_size pw) : w.heap.size ≤ gb187)); clear HB; have HB := n0_; have BK187 := n1_; have GW187 := n2_; have GE187 := n3_; clear n0_ n1_ n2_ n3_; clear hb hbox hg) | ((with_reducible refine gate_dst (N := 3) rfl ?_); refine box_event ?hg (N := 3) ?hd (cs := #[.int .i64 a1_0, .int .i64 a1_1]) (t := 24) ?hr ?_; (case hd => rfl); (case hg => rfl); (case hr => first | (go_simp; done) | (go_simp; rfl)); intro gb188 hg w24 hbox hb; have n0_ := bb BK187 hb; have n1_ := am (below_step pw hb); have n2_ := am (hbox); have n3_ := am ((by rw [hg]; exact (below_size pw) : w.heap.size ≤ gb188)); have n4_ := am ((by rw [hg]; exact (below_size pw) : w.heap.size ≤ gb188)); have n5_ := am ((by rw [hg]; exact Nat.ne_of_lt (blk_lt pk) : gb187 ≠ gb188)); have n6_ := am ((by rw [hg]; exact Nat.ne_of_gt (blk_lt pk) : gb188 ≠ gb187)); clear BK187; clear HB; have BK187 := n0_; have HB := n1_; have BK188 := n2_; have GW188 := n3_; have GE188 := n4_; have NB187_188 := n5_; have NB188_187 := n6_; clear n0_ n1_ n2_ n3_ n4_ n5_ n6_; clear hb hbox hg) | ((with_reducible refine gate_dst (N := 4) rfl ?_); refine box_event ?hg (N := 4) ?hd (cs := #[.int .i64 0, .int .i64 0]) (t := 24) ?hr ?_; (case hd => rfl); (case hg => rfl); (case hr => first | (go_simp; done) | (go_simp; rfl)); intro gb189 hg w25 hbox hb; have n0_ := bb BK187 hb; have n1_ := bb BK188 hb; have n2_ := am (below_step pw hb); have n3_ := am (hbox); have n4_ := am ((by rw [hg]; exact (below_size pw) : w.heap.size ≤ gb189)); have n5_ := am ((by rw [hg]; exact (below_size pw) : w.heap.size ≤ gb189)); have n6_ := am ((by rw [hg]; exact Nat.ne_of_lt (blk_lt pk) : gb187 ≠ gb189)); have n7_ := am ((by rw [hg]; exact Nat.ne_of_gt (blk_lt pk) : gb189 ≠ gb187)); have n8_ := am ((by rw [hg]; exact Nat.ne_of_lt (blk_lt pk) : gb188 ≠ gb189)); have n9_ := am ((by rw [hg]; exact Nat.ne_of_gt (blk_lt pk) : gb189 ≠ gb188)); clear BK187; clear BK188; clear HB; have BK187 := n0_; have BK188 := n1_; have HB := n2_; have BK189 := n3_; have GW189 := n4_; have GE189 := n5_; have NB187_189 := n6_; have NB189_187 := n7_; have NB188_189 := n8_; have NB189_188 := n9_; clear n0_ n1_ n2_ n3_ n4_ n5_ n6_ n7_ n8_ n9_; clear hb hbox hg; have hnb26 := NB187_188.out; have hnc26 := NB188_187.out; have hnb27 := NB187_189.out; have hnc27 := NB189_187.out; have hcz28_0 : w25.cell? ⟨gb187, 0, none⟩ = some (.int .i64 a0_0) := bc BK187 0; have hcz28_1 : w25.cell? ⟨gb187, 1, none⟩ = some (.int .i64 a0_1) := bc BK187 1; have hfz28_0 := blk_frozen BK187.out 0; have hfz28_1 := blk_frozen BK187.out 1; have hnb29 := NB188_189.out; have hnc29 := NB189_188.out; have hcz30_0 : w25.cell? ⟨gb188, 0, none⟩ = some (.int .i64 a1_0) := bc BK188 0; have hcz30_1 : w25.cell? ⟨gb188, 1, none⟩ = some (.int .i64 a1_1) := bc BK188 1; have hfz30_0 := blk_frozen BK188.out 0; have hfz30_1 := blk_frozen BK188.out 1) | ((with_reducible refine gate_callee (f := 64) rfl ?_); refine goesL_ (some 9) rfl rfl Tryd.func64 kk rfl #[.agg #[.int .i64 a0_0, .int .i64 a0_1], .agg #[.int .i64 a1_0, .int .i64 a1_1]] rfl (by (try simp only [List.map_toArray, List.map_cons, List.map_nil]); first | done | rfl | (simp only [List.length_drop, List.length_take]; rfl)) ?_; (with_reducible refine (congr_two.calls k a0_0 a0_1 a1_0 a1_1 (some q191) _ A3.out (am (ErrAt.below hE2.out pw)).out (am (ErrAt.below hE3.out pw)).out).mono ?_); rintro e w31 ⟨rfl, hb⟩; refine ⟨_, rfl, ?_⟩; have n0_ := bb BK187 hb; have n1_ := bb BK188 hb; have n2_ := bb BK189 hb; have n3_ := am (below_step pw hb); clear BK187; clear BK188; clear BK189; clear HB; have BK187 := n0_; have BK188 := n1_; have BK189 := n2_; have HB := n3_; clear n0_ n1_ n2_ n3_; (try clear hb); (try clear hb2); (try clear hk); (try clear hi); (try simp only [errW_none, errW_some]); have hcz32_0 : w31.cell? ⟨gb189, 0, none⟩ = some (.int .i64 0) := bc BK189 0; have hcz32_1 : w31.cell? ⟨gb189, 1, none⟩ = some (.int .i64 0) := bc BK189 1; have hfz32_0 := blk_frozen BK189.out 0; have hfz32_1 := blk_frozen BK189.out 1))
 refine bodyPost_ret (results_ct rfl _ _ gb189 24 #[.int .i64 0, .int .i64 0] (0, 0) _ rfl (by (with_reducible repeat (first | refine blk_drewN ?_ _ | refine blk_drew ?_ | refine blk_alloc ?_ _)); refine blk_put (cs := #[.int .i64 0, .int .i64 0]) ?_ 1 _ rfl; (with_reducible repeat (first | refine blk_drewN ?_ _ | refine blk_drew ?_ | refine blk_alloc ?_ _)); refine blk_put (cs := #[.int .i64 0, .int .i64 0]) ?_ 0 _ rfl; (with_reducible repeat (first | refine blk_drewN ?_ _ | refine blk_drew ?_ | refine blk_alloc ?_ _)); exact BK189.out) Tryd.underlying24 rfl kk) rfl ?_
 exact ⟨pe, pw⟩

/-! ### congr_Sub, where there is no error -/
def congr_Sub_ok.f (k : Nat) (a0_0 : Int) (a0_1 : Int) (a1_0 : Int) (a1_1 : Int) : Option (Int × Int) := (congr_Sub.f k a0_0 a0_1 a1_0 a1_1).bind fun t_ => match t_ with | (q0_, q1_, q2_) => if q2_.isNone = true then some (q0_, q1_) else none
theorem congr_Sub_ok.calls [EA] (k : Nat) (a0_0 : Int) (a0_1 : Int) (a1_0 : Int) (a1_1 : Int) (r1 : Int) (r2 : Int) (w : World) (h : congr_Sub_ok.f k a0_0 a0_1 a1_0 a1_1 = some (r1, r2)) (h2_ : ErrAt 2 1 w) (h3_ : ErrAt 3 0 w) :
  Calls Tryd.prog 45 #[.agg #[.int .i64 a0_0, .int .i64 a0_1], .agg #[.int .i64 a1_0, .int .i64 a1_1]] w fun e w' => e = .returned (.tuple #[.agg #[.int .i64 r1, .int .i64 r2], .nilIface]) ∧ Below w.heap.size w w' := by
 obtain ⟨t_, h1_, h2_⟩ := Option.bind_eq_some_iff.mp h
 obtain ⟨q0_, q1_, q2_⟩ := t_
 cases q2_ with
 | some c_ => exact absurd h2_ (by simp)
 | none =>
  simp only [Option.isNone_none, if_true, Option.some.injEq, Prod.mk.injEq] at h2_
  obtain ⟨rfl, rfl⟩ := h2_
  exact congr_Sub.calls k a0_0 a0_1 a1_0 a1_1 _ _ none w h1_ h2_ h3_
theorem congr_Sub_ok.mono : ∀ a0_ a1_ a2_ a3_ k, LeO (congr_Sub_ok.f k a0_ a1_ a2_ a3_) (congr_Sub_ok.f (k + 1) a0_ a1_ a2_ a3_) := by
 intro a0_ a1_ a2_ a3_ k
 unfold congr_Sub_ok.f
 exact LeO.bind (congr_Sub.mono a0_ a1_ a2_ a3_ k) (fun _ => LeO.refl _)

/-! ### L2_sixth: function 17 -/
def L2_sixth.f (k : Nat)  : Option (Bool) := (congr_Meet_ok.f k 2 4 4 6).bind fun bt198 => (if bt198.2.2 = true then (some (bt198.1 == 10 && (bt198.2.1 == 12))) else (some false))
theorem L2_sixth.mono : ∀ k, LeO (L2_sixth.f k ) (L2_sixth.f (k + 1) ) := by
 intro  k
 unfold L2_sixth.f
 repeat' first
   | (with_reducible exact congr_Meet_ok.mono _ _ _ _ _)
   | (with_reducible exact LeO.refl _)
   | (with_reducible exact LeO.none _)
   | (with_reducible refine LeO.ite ?_ ?_)
   | (with_reducible refine LeO.bind ?_ (fun _ => ?_))
   | exact congr_Meet_ok.mono _ _ _ _ _
   | exact LeO.none _
   | refine LeO.ite ?_ ?_
   | refine LeO.bind ?_ (fun _ => ?_)
set_option maxHeartbeats 8000000 in
set_option maxRecDepth 100000 in
theorem L2_sixth.calls [EA] (k : Nat)  (r : Bool) (w : World) (h : L2_sixth.f k  = some r) (h2_ : ErrAt 2 1 w) (h3_ : ErrAt 3 0 w) :
  Calls Tryd.prog 17 #[] w fun e w' => e = .returned (.bool r) ∧ Below w.heap.size w w' := by
 have hE2 := am h2_
 clear h2_
 have hE3 := am h3_
 clear h3_
 have hu24 := Tryd.underlying24
 have hu26 := Tryd.underlying26
 have HB := am (Below.refl w.heap.size w)
 have H : ((congr_Meet_ok.f k 2 4 4 6).bind fun bt198 => (if bt198.2.2 = true then (some (bt198.1 == 10 && (bt198.2.1 == 12))) else (some false))) = some r := h
 clear h
 replace H := Option.bind_eq_some_iff.mp H
 obtain ⟨⟨t198, t199, t200⟩, A10, H⟩ := H
 replace H : (if t200 = true then (some (t198 == 10 && (t199 == 12))) else (some false)) = some r := H
 have A1 := am A10
 clear A10
 by_cases c2 : t200 = true
 ·subst c2
  have H1 : (some (t198 == 10 && (t199 == 12))) = some r := by rw [if_pos rfl] at H; exact H
  clear H
  have H := H1
  clear H1
  obtain rfl := Option.some.inj H
  go_enter Tryd.func17, Tryd.ntmps17
  go_wp2_with (first | ((with_reducible refine gate_callee (f := 18) rfl ?_); refine goesL_ (some 7) rfl rfl Tryd.func18 kk rfl #[.agg #[.int .i64 2, .int .i64 4], .agg #[.int .i64 4, .int .i64 6]] rfl (by (try simp only [List.map_toArray, List.map_cons, List.map_nil]); first | done | rfl | (simp only [List.length_drop, List.length_take]; rfl)) ?_; (with_reducible refine (congr_Meet_ok.calls k 2 4 4 6 t198 t199 true _ A1.out (am (ErrAt.below hE2.out pw)).out (am (ErrAt.below hE3.out pw)).out).mono ?_); rintro e w3 ⟨rfl, hb⟩; refine ⟨_, rfl, ?_⟩; have n0_ := am (below_step pw hb); clear HB; have HB := n0_; clear n0_; (try clear hb); (try clear hb2); (try clear hk); (try clear hi)) | ((with_reducible refine gate_dst (N := 1) rfl ?_); refine box_event ?hg (N := 1) ?hd (cs := #[.int .i64 0, .int .i64 0]) (t := 24) ?hr ?_; (case hd => rfl); (case hg => rfl); (case hr => first | (go_simp; done) | (go_simp; rfl)); intro gb201 hg w4 hbox hb; have n0_ := am (below_step pw hb); have n1_ := am (hbox); have n2_ := am ((by rw [hg]; exact (below_size pw) : w.heap.size ≤ gb201)); have n3_ := am ((by rw [hg]; exact (below_size pw) : w.heap.size ≤ gb201)); clear HB; have HB := n0_; have BK201 := n1_; have GW201 := n2_; have GE201 := n3_; clear n0_ n1_ n2_ n3_; clear hb hbox hg; have hcz5_0 : w4.cell? ⟨gb201, 0, none⟩ = some (.int .i64 0) := bc BK201 0; have hcz5_1 : w4.cell? ⟨gb201, 1, none⟩ = some (.int .i64 0) := bc BK201 1; have hfz5_0 := blk_frozen BK201.out 0; have hfz5_1 := blk_frozen BK201.out 1))
  go_ret
  exact ⟨pe, pw⟩
 replace c2 := Bool.eq_false_iff.mpr c2
 subst c2
 have H1 : (some false) = some r := by rw [if_neg (show ¬ (false = true) by decide)] at H; exact H
 clear H
 have H := H1
 clear H1
 obtain rfl := Option.some.inj H
 go_enter Tryd.func17, Tryd.ntmps17
 go_wp2_with (first | ((with_reducible refine gate_callee (f := 18) rfl ?_); refine goesL_ (some 7) rfl rfl Tryd.func18 kk rfl #[.agg #[.int .i64 2, .int .i64 4], .agg #[.int .i64 4, .int .i64 6]] rfl (by (try simp only [List.map_toArray, List.map_cons, List.map_nil]); first | done | rfl | (simp only [List.length_drop, List.length_take]; rfl)) ?_; (with_reducible refine (congr_Meet_ok.calls k 2 4 4 6 t198 t199 false _ A1.out (am (ErrAt.below hE2.out pw)).out (am (ErrAt.below hE3.out pw)).out).mono ?_); rintro e w6 ⟨rfl, hb⟩; refine ⟨_, rfl, ?_⟩; have n0_ := am (below_step pw hb); clear HB; have HB := n0_; clear n0_; (try clear hb); (try clear hb2); (try clear hk); (try clear hi)) | ((with_reducible refine gate_dst (N := 1) rfl ?_); refine box_event ?hg (N := 1) ?hd (cs := #[.int .i64 0, .int .i64 0]) (t := 24) ?hr ?_; (case hd => rfl); (case hg => rfl); (case hr => first | (go_simp; done) | (go_simp; rfl)); intro gb201 hg w7 hbox hb; have n0_ := am (below_step pw hb); have n1_ := am (hbox); have n2_ := am ((by rw [hg]; exact (below_size pw) : w.heap.size ≤ gb201)); have n3_ := am ((by rw [hg]; exact (below_size pw) : w.heap.size ≤ gb201)); clear HB; have HB := n0_; have BK201 := n1_; have GW201 := n2_; have GE201 := n3_; clear n0_ n1_ n2_ n3_; clear hb hbox hg; have hcz8_0 : w7.cell? ⟨gb201, 0, none⟩ = some (.int .i64 0) := bc BK201 0; have hcz8_1 : w7.cell? ⟨gb201, 1, none⟩ = some (.int .i64 0) := bc BK201 1; have hfz8_0 := blk_frozen BK201.out 0; have hfz8_1 := blk_frozen BK201.out 1))
 go_ret
 exact ⟨pe, pw⟩

/-! ### R2_Far: function 37 -/
def R2_Far.f (a0 : Int) (a1 : Int) : Option (Bool) := if a0 > a1 then (some true) else (some (decide (a0 < (wrap64 (-a1)))))
set_option maxHeartbeats 8000000 in
set_option maxRecDepth 100000 in
theorem R2_Far.calls [EA] (a0 : Int) (a1 : Int) (r : Bool) (w : World) (h : R2_Far.f a0 a1 = some r) :
  Calls Tryd.prog 37 #[.int .i64 a0, .int .i64 a1] w fun e w' => e = .returned (.bool r) ∧ Drawn0 w w' := by
 have H : (if a0 > a1 then (some true) else (some (decide (a0 < (wrap64 (-a1)))))) = some r := h
 clear h
 by_cases c3 : a0 > a1
 ·rw [if_pos c3] at H
  have c3b0 : decide (a1 < a0) = true := decide_eq_true c3
  clear c3
  obtain rfl := Option.some.inj H
  go_enter Tryd.func37, Tryd.ntmps37
  go_wp2
  go_ret
  exact ⟨by first | rfl | (simp; done) | (simp [*]; done), by repeat (first | exact Drawn0.refl _ | apply Drawn0.step)⟩
 rw [if_neg c3] at H
 have c3b0 : decide (a1 < a0) = false := decide_eq_false c3
 clear c3
 obtain rfl := Option.some.inj H
 go_enter Tryd.func37, Tryd.ntmps37
 go_wp2
 go_ret
 exact ⟨by first | rfl | (simp; done) | (simp [*]; done), by repeat (first | exact Drawn0.refl _ | apply Drawn0.step)⟩

end Go.Proofs.YtjpboodkmhikpaaDoor.C
