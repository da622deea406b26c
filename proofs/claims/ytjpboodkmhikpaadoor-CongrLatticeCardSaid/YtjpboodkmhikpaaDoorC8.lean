-- Written by wip/xprint.py (the session's program over the kit's print).
import Derived.Test.YtjpboodkmhikpaaDoorEb
import Derived.Test.YtjpboodkmhikpaaDoorC0
import Derived.Test.YtjpboodkmhikpaaDoorC1
import Derived.Test.YtjpboodkmhikpaaDoorC2
import Derived.Test.YtjpboodkmhikpaaDoorC3
import Derived.Test.YtjpboodkmhikpaaDoorC4
import Derived.Test.YtjpboodkmhikpaaDoorC5
import Derived.Test.YtjpboodkmhikpaaDoorC6
import Derived.Test.YtjpboodkmhikpaaDoorC7
namespace Go.Proofs.YtjpboodkmhikpaaDoor.C
open Go.RowKit Go.Proofs.YtjpboodkmhikpaaDoorW.PrintWords Go.Proofs.YtjpboodkmhikpaaDoorW.PrintLast Go.Proofs.YtjpboodkmhikpaaDoorW.PrintMore Go.Proofs.Rcg
attribute [local go_sem] max2_int min2_int max_two min_two max_three min_three max_four min_four   -- for this text's walks alone
set_option linter.unusedVariables false
set_option linter.unusedSimpArgs false

attribute [local go_sem high] eqA24
/-! ### L2_CongrLattice: function 8 -/
set_option maxHeartbeats 8000000 in
set_option maxRecDepth 100000 in
theorem L2_CongrLattice.calls [EA] (k : Nat) (a0_0 : Int) (a0_1 : Int) (a1_0 : Int) (a1_1 : Int) (r : Bool) (w : World) (h : L2_CongrLattice.f k a0_0 a0_1 a1_0 a1_1 = some r) (h2_ : ErrAt 2 1 w) (h3_ : ErrAt 3 0 w) :
  Calls Tryd.prog 8 #[.agg #[.int .i64 a0_0, .int .i64 a0_1], .agg #[.int .i64 a1_0, .int .i64 a1_1]] w fun e w' => e = .returned (.bool r) ∧ Below w.heap.size w w' := by
 have hE2 := am h2_
 clear h2_
 have hE3 := am h3_
 clear h3_
 have hu69 := Tryd.underlying69
 have hu24 := Tryd.underlying24
 have hu26 := Tryd.underlying26
 have HB := am (Below.refl w.heap.size w)
 have H : ((L2_sixth.f k).bind fun t212 => (if t212 = true then ((R2_TwoCongrs.f k a0_0 a0_1 a1_0 a1_1).bind fun t213 => (L2_CongrLattice.j0 k t212 (decide (t213 > 0)) a0_0 a0_1 a1_0 a1_1)) else (L2_CongrLattice.j0 k t212 true a0_0 a0_1 a1_0 a1_1))) = some r := h
 clear h
 replace H := Option.bind_eq_some_iff.mp H
 obtain ⟨t212, A30, H⟩ := H
 replace H : (if t212 = true then ((R2_TwoCongrs.f k a0_0 a0_1 a1_0 a1_1).bind fun t213 => (L2_CongrLattice.j0 k t212 (decide (t213 > 0)) a0_0 a0_1 a1_0 a1_1)) else (L2_CongrLattice.j0 k t212 true a0_0 a0_1 a1_0 a1_1)) = some r := H
 have A3 := am A30
 clear A30
 have HC4 := am H
 clear H
 go_enter Tryd.func8, Tryd.ntmps8
 go_upto_region 2 with (first | ((with_reducible refine gate_dst (N := 2) rfl ?_); refine box_event ?hg (N := 2) ?hd (cs := #[.int .i64 a0_0, .int .i64 a0_1]) (t := 69) ?hr ?_; (case hd => rfl); (case hg => rfl); (case hr => first | (go_simp; done) | (go_simp; rfl)); intro gb210 hg w5 hbox hb; have n0_ := am (below_step pw hb); have n1_ := am (hbox); have n2_ := am ((by rw [hg]; exact (below_size pw) : w.heap.size ≤ gb210)); have n3_ := am ((by rw [hg]; exact (below_size pw) : w.heap.size ≤ gb210)); clear HB; have HB := n0_; have BK210 := n1_; have GW210 := n2_; have GE210 := n3_; clear n0_ n1_ n2_ n3_; clear hb hbox hg) | ((with_reducible refine gate_dst (N := 3) rfl ?_); refine box_event ?hg (N := 3) ?hd (cs := #[.int .i64 a1_0, .int .i64 a1_1]) (t := 69) ?hr ?_; (case hd => rfl); (case hg => rfl); (case hr => first | (go_simp; done) | (go_simp; rfl)); intro gb211 hg w6 hbox hb; have n0_ := bb BK210 hb; have n1_ := am (below_step pw hb); have n2_ := am (hbox); have n3_ := am ((by rw [hg]; exact (below_size pw) : w.heap.size ≤ gb211)); have n4_ := am ((by rw [hg]; exact (below_size pw) : w.heap.size ≤ gb211)); have n5_ := am ((by rw [hg]; exact Nat.ne_of_lt (blk_lt pk) : gb210 ≠ gb211)); have n6_ := am ((by rw [hg]; exact Nat.ne_of_gt (blk_lt pk) : gb211 ≠ gb210)); clear BK210; clear HB; have BK210 := n0_; have HB := n1_; have BK211 := n2_; have GW211 := n3_; have GE211 := n4_; have NB210_211 := n5_; have NB211_210 := n6_; clear n0_ n1_ n2_ n3_ n4_ n5_ n6_; clear hb hbox hg) | ((with_reducible refine gate_callee (f := 17) rfl ?_); refine goesL_ (some 25) rfl rfl Tryd.func17 kk rfl #[] rfl (by (try simp only [List.map_toArray, List.map_cons, List.map_nil]); first | done | rfl | (simp only [List.length_drop, List.length_take]; rfl)) ?_; (with_reducible refine (L2_sixth.calls k  t212 _ A3.out (am (ErrAt.below hE2.out pw)).out (am (ErrAt.below hE3.out pw)).out).mono ?_); rintro e w7 ⟨rfl, hb⟩; refine ⟨_, rfl, ?_⟩; have n0_ := bb BK210 hb; have n1_ := bb BK211 hb; have n2_ := am (below_step pw hb); clear BK210; clear BK211; clear HB; have BK210 := n0_; have BK211 := n1_; have HB := n2_; clear n0_ n1_ n2_; (try clear hb); (try clear hb2); (try clear hk); (try clear hi)))
 (try simp only [Act.put, List.setIfInBounds_toArray, List.set_cons_zero, List.set_cons_succ])
 go_cut [33] (fun v33 wc => ∃ (kq : Nat) (x33_3 : Bool), v33 = .bool x33_3 ∧ Aside0 (L2_CongrLattice.j0 kq t212 x33_3 a0_0 a0_1 a1_0 a1_1 = some r) ∧ Aside0 (kq ≤ k) ∧ Aside0 (wc.heap[gb210]? = some (.cells #[.int .i64 a0_0, .int .i64 a0_1] 69 (0, 0))) ∧ Aside0 (wc.heap[gb211]? = some (.cells #[.int .i64 a1_0, .int .i64 a1_1] 69 (0, 0))) ∧ Aside0 (Below w.heap.size w wc))
 case first =>
  have H := HC4.out
  clear HC4
  by_cases c8 : t212 = true
  ·subst c8
   have H1 : ((R2_TwoCongrs.f k a0_0 a0_1 a1_0 a1_1).bind fun t213 => (L2_CongrLattice.j0 k true (decide (t213 > 0)) a0_0 a0_1 a1_0 a1_1)) = some r := by rw [if_pos rfl] at H; exact H
   clear H
   have H := H1
   clear H1
   replace H := Option.bind_eq_some_iff.mp H
   obtain ⟨t213, A90, H⟩ := H
   replace H : (L2_CongrLattice.j0 k true (decide (t213 > 0)) a0_0 a0_1 a1_0 a1_1) = some r := H
   have A9 := am A90
   clear A90
   have H' := am H
   clear H
   have hnb10 := NB210_211.out
   have hnc10 := NB211_210.out
   have hcz11_0 : w7.cell? ⟨gb210, 0, none⟩ = some (.int .i64 a0_0) := bc BK210 0
   have hcz11_1 : w7.cell? ⟨gb210, 1, none⟩ = some (.int .i64 a0_1) := bc BK210 1
   have hfz11_0 := blk_frozen BK210.out 0
   have hfz11_1 := blk_frozen BK210.out 1
   have hcz12_0 : w7.cell? ⟨gb211, 0, none⟩ = some (.int .i64 a1_0) := bc BK211 0
   have hcz12_1 : w7.cell? ⟨gb211, 1, none⟩ = some (.int .i64 a1_1) := bc BK211 1
   have hfz12_0 := blk_frozen BK211.out 0
   have hfz12_1 := blk_frozen BK211.out 1
   go_wp2_with (first | (go_at_call 39; (with_reducible refine (R2_TwoCongrs.calls k a0_0 a0_1 a1_0 a1_1 t213 _ A9.out).mono ?_); rintro e w13 ⟨rfl, hb⟩; have n0_ := bb BK210 hb; have n1_ := bb BK211 hb; have n2_ := am (below_step pw hb); clear BK210; clear BK211; clear HB; have BK210 := n0_; have BK211 := n1_; have HB := n2_; clear n0_ n1_ n2_; (try clear hb); (try clear hb2); (try clear hk); (try clear hi)))
   go_meet
   case rel => exact ⟨_, (decide (t213 > 0)), pr, H', ⟨by first | omega | exact Nat.le_refl _⟩, ⟨by (with_reducible repeat (first | refine blk_drewN ?_ _ | refine blk_drew ?_ | refine blk_alloc ?_ _)); exact BK210.out⟩, ⟨by (with_reducible repeat (first | refine blk_drewN ?_ _ | refine blk_drew ?_ | refine blk_alloc ?_ _)); exact BK211.out⟩, ⟨pw⟩⟩
  replace c8 := Bool.eq_false_iff.mpr c8
  subst c8
  have H1 : (L2_CongrLattice.j0 k false true a0_0 a0_1 a1_0 a1_1) = some r := by rw [if_neg (show ¬ (false = true) by decide)] at H; exact H
  clear H
  have H := H1
  clear H1
  have H' := am H
  clear H
  go_wp2
  go_meet
  case rel => exact ⟨_, (true), pr, H', ⟨by first | omega | exact Nat.le_refl _⟩, ⟨by (with_reducible repeat (first | refine blk_drewN ?_ _ | refine blk_drew ?_ | refine blk_alloc ?_ _)); exact BK210.out⟩, ⟨by (with_reducible repeat (first | refine blk_drewN ?_ _ | refine blk_drew ?_ | refine blk_alloc ?_ _)); exact BK211.out⟩, ⟨pw⟩⟩
 clear HC4
 try clear c1
 try clear p2
 try clear c8
 try clear c10
 try clear hcz11_0
 try clear hcz11_1
 try clear hcz12_0
 try clear hcz12_1
 try clear hfz11_0
 try clear hfz11_1
 try clear hfz12_0
 try clear hfz12_1
 obtain ⟨kq, x33_3, rfl, HA, HJ3, BK210, BK211, HB⟩ := hcut
 cases kq with
 | zero => exact absurd HA.out (by simp [L2_CongrLattice.j0])
 | succ kj3 =>
  have H := HA.out
  clear HA
  simp only [L2_CongrLattice.j0] at H
  by_cases c14 : x33_3 = true
  ·subst c14
   have H1 : (some t212) = some r := by rw [if_pos rfl] at H; exact H
   clear H
   have H := H1
   clear H1
   obtain rfl := Option.some.inj H
   go_wp2
   go_ret
   exact ⟨pe, pw⟩
  replace c14 := Bool.eq_false_iff.mpr c14
  subst c14
  have H1 : ((L2_own.f a0_0 a0_1).bind fun bt214 => ((L2_own.f a1_0 a1_1).bind fun bt216 => ((congr_Join_ok.f kj3 bt214.1 bt214.2 bt216.1 bt216.2).bind fun bt218 => ((L2_own.f a0_0 a0_1).bind fun bt221 => ((L2_own.f a1_0 a1_1).bind fun bt223 => ((congr_Meet_ok.f kj3 bt221.1 bt221.2 bt223.1 bt223.2).bind fun bt225 => ((L2_own.f a0_0 a0_1).bind fun bt229 => ((congr_Within_ok.f kj3 bt229.1 bt229.2 bt218.1 bt218.2).bind fun t231 => ((L2_own.f a1_0 a1_1).bind fun bt232 => ((congr_Within_ok.f kj3 bt232.1 bt232.2 bt218.1 bt218.2).bind fun t234 => (if t231 = true then (L2_CongrLattice.j1 kj3 bt225.2.2 (!t234) a0_0 a0_1 a1_0 a1_1 bt225.1 bt225.2.1) else (L2_CongrLattice.j1 kj3 bt225.2.2 true a0_0 a0_1 a1_0 a1_1 bt225.1 bt225.2.1)))))))))))) = some r := by rw [if_neg (show ¬ (false = true) by decide)] at H; exact H
  clear H
  have H := H1
  clear H1
  replace H := Option.bind_eq_some_iff.mp H
  obtain ⟨⟨t214, t215⟩, A150, H⟩ := H
  replace H : ((L2_own.f a1_0 a1_1).bind fun bt216 => ((congr_Join_ok.f kj3 t214 t215 bt216.1 bt216.2).bind fun bt218 => ((L2_own.f a0_0 a0_1).bind fun bt221 => ((L2_own.f a1_0 a1_1).bind fun bt223 => ((congr_Meet_ok.f kj3 bt221.1 bt221.2 bt223.1 bt223.2).bind fun bt225 => ((L2_own.f a0_0 a0_1).bind fun bt229 => ((congr_Within_ok.f kj3 bt229.1 bt229.2 bt218.1 bt218.2).bind fun t231 => ((L2_own.f a1_0 a1_1).bind fun bt232 => ((congr_Within_ok.f kj3 bt232.1 bt232.2 bt218.1 bt218.2).bind fun t234 => (if t231 = true then (L2_CongrLattice.j1 kj3 bt225.2.2 (!t234) a0_0 a0_1 a1_0 a1_1 bt225.1 bt225.2.1) else (L2_CongrLattice.j1 kj3 bt225.2.2 true a0_0 a0_1 a1_0 a1_1 bt225.1 bt225.2.1))))))))))) = some r := H
  have A15 := am A150
  clear A150
  replace H := Option.bind_eq_some_iff.mp H
  obtain ⟨⟨t216, t217⟩, A160, H⟩ := H
  replace H : ((congr_Join_ok.f kj3 t214 t215 t216 t217).bind fun bt218 => ((L2_own.f a0_0 a0_1).bind fun bt221 => ((L2_own.f a1_0 a1_1).bind fun bt223 => ((congr_Meet_ok.f kj3 bt221.1 bt221.2 bt223.1 bt223.2).bind fun bt225 => ((L2_own.f a0_0 a0_1).bind fun bt229 => ((congr_Within_ok.f kj3 bt229.1 bt229.2 bt218.1 bt218.2).bind fun t231 => ((L2_own.f a1_0 a1_1).bind fun bt232 => ((congr_Within_ok.f kj3 bt232.1 bt232.2 bt218.1 bt218.2).bind fun t234 => (if t231 = true then (L2_CongrLattice.j1 kj3 bt225.2.2 (!t234) a0_0 a0_1 a1_0 a1_1 bt225.1 bt225.2.1) else (L2_CongrLattice.j1 kj3 bt225.2.2 true a0_0 a0_1 a1_0 a1_1 bt225.1 bt225.2.1)))))))))) = some r := H
  have A16 := am A160
  clear A160
  replace H := Option.bind_eq_some_iff.mp H
  obtain ⟨⟨t218, t219⟩, A170, H⟩ := H
  replace H : ((L2_own.f a0_0 a0_1).bind fun bt221 => ((L2_own.f a1_0 a1_1).bind fun bt223 => ((congr_Meet_ok.f kj3 bt221.1 bt221.2 bt223.1 bt223.2).bind fun bt225 => ((L2_own.f a0_0 a0_1).bind fun bt229 => ((congr_Within_ok.f kj3 bt229.1 bt229.2 t218 t219).bind fun t231 => ((L2_own.f a1_0 a1_1).bind fun bt232 => ((congr_Within_ok.f kj3 bt232.1 bt232.2 t218 t219).bind fun t234 => (if t231 = true then (L2_CongrLattice.j1 kj3 bt225.2.2 (!t234) a0_0 a0_1 a1_0 a1_1 bt225.1 bt225.2.1) else (L2_CongrLattice.j1 kj3 bt225.2.2 true a0_0 a0_1 a1_0 a1_1 bt225.1 bt225.2.1))))))))) = some r := H
  have A17 := am A170
  clear A170
  replace H := Option.bind_eq_some_iff.mp H
  obtain ⟨⟨t221, t222⟩, A180, H⟩ := H
  replace H : ((L2_own.f a1_0 a1_1).bind fun bt223 => ((congr_Meet_ok.f kj3 t221 t222 bt223.1 bt223.2).bind fun bt225 => ((L2_own.f a0_0 a0_1).bind fun bt229 => ((congr_Within_ok.f kj3 bt229.1 bt229.2 t218 t219).bind fun t231 => ((L2_own.f a1_0 a1_1).bind fun bt232 => ((congr_Within_ok.f kj3 bt232.1 bt232.2 t218 t219).bind fun t234 => (if t231 = true then (L2_CongrLattice.j1 kj3 bt225.2.2 (!t234) a0_0 a0_1 a1_0 a1_1 bt225.1 bt225.2.1) else (L2_CongrLattice.j1 kj3 bt225.2.2 true a0_0 a0_1 a1_0 a1_1 bt225.1 bt225.2.1)))))))) = some r := H
  have A18 := am A180
  clear A180
  replace H := Option.bind_eq_some_iff.mp H
  obtain ⟨⟨t223, t224⟩, A190, H⟩ := H
  replace H : ((congr_Meet_ok.f kj3 t221 t222 t223 t224).bind fun bt225 => ((L2_own.f a0_0 a0_1).bind fun bt229 => ((congr_Within_ok.f kj3 bt229.1 bt229.2 t218 t219).bind fun t231 => ((L2_own.f a1_0 a1_1).bind fun bt232 => ((congr_Within_ok.f kj3 bt232.1 bt232.2 t218 t219).bind fun t234 => (if t231 = true then (L2_CongrLattice.j1 kj3 bt225.2.2 (!t234) a0_0 a0_1 a1_0 a1_1 bt225.1 bt225.2.1) else (L2_CongrLattice.j1 kj3 bt225.2.2 true a0_0 a0_1 a1_0 a1_1 bt225.1 bt225.2.1))))))) = some r := H
  have A19 := am A190
  clear A190
  replace H := Option.bind_eq_some_iff.mp H
  obtain ⟨⟨t225, t226, t227⟩, A200, H⟩ := H
  replace H : ((L2_own.f a0_0 a0_1).bind fun bt229 => ((congr_Within_ok.f kj3 bt229.1 bt229.2 t218 t219).bind fun t231 => ((L2_own.f a1_0 a1_1).bind fun bt232 => ((congr_Within_ok.f kj3 bt232.1 bt232.2 t218 t219).bind fun t234 => (if t231 = true then (L2_CongrLattice.j1 kj3 t227 (!t234) a0_0 a0_1 a1_0 a1_1 t225 t226) else (L2_CongrLattice.j1 kj3 t227 true a0_0 a0_1 a1_0 a1_1 t225 t226)))))) = some r := H
  have A20 := am A200
  clear A200
  replace H := Option.bind_eq_some_iff.mp H
  obtain ⟨⟨t229, t230⟩, A210, H⟩ := H
  replace H : ((congr_Within_ok.f kj3 t229 t230 t218 t219).bind fun t231 => ((L2_own.f a1_0 a1_1).bind fun bt232 => ((congr_Within_ok.f kj3 bt232.1 bt232.2 t218 t219).bind fun t234 => (if t231 = true then (L2_CongrLattice.j1 kj3 t227 (!t234) a0_0 a0_1 a1_0 a1_1 t225 t226) else (L2_CongrLattice.j1 kj3 t227 true a0_0 a0_1 a1_0 a1_1 t225 t226))))) = some r := H
  have A21 := am A210
  clear A210
  replace H := Option.bind_eq_some_iff.mp H
  obtain ⟨t231, A220, H⟩ := H
  replace H : ((L2_own.f a1_0 a1_1).bind fun bt232 => ((congr_Within_ok.f kj3 bt232.1 bt232.2 t218 t219).bind fun t234 => (if t231 = true then (L2_CongrLattice.j1 kj3 t227 (!t234) a0_0 a0_1 a1_0 a1_1 t225 t226) else (L2_CongrLattice.j1 kj3 t227 true a0_0 a0_1 a1_0 a1_1 t225 t226)))) = some r := H
  have A22 := am A220
  clear A220
  replace H := Option.bind_eq_some_iff.mp H
  obtain ⟨⟨t232, t233⟩, A230, H⟩ := H
  replace H : ((congr_Within_ok.f kj3 t232 t233 t218 t219).bind fun t234 => (if t231 = true then (L2_CongrLattice.j1 kj3 t227 (!t234) a0_0 a0_1 a1_0 a1_1 t225 t226) else (L2_CongrLattice.j1 kj3 t227 true a0_0 a0_1 a1_0 a1_1 t225 t226))) = some r := H
  have A23 := am A230
  clear A230
  replace H := Option.bind_eq_some_iff.mp H
  obtain ⟨t234, A240, H⟩ := H
  replace H : (if t231 = true then (L2_CongrLattice.j1 kj3 t227 (!t234) a0_0 a0_1 a1_0 a1_1 t225 t226) else (L2_CongrLattice.j1 kj3 t227 true a0_0 a0_1 a1_0 a1_1 t225 t226)) = some r := H
  have A24 := am A240
  clear A240
  have HC25 := am H
  clear H
  try go_wp2
  have n0_ := am (blk_drew BK210.out)
  have n1_ := am (blk_drew BK211.out)
  have n2_ := am (below_drew1 HB.out)
  clear BK210 BK211 HB
  revert n0_ n1_ n2_
  intro BK210 BK211 HB
  refine start_ (n := 11) (S := fun w' => True) (ds := []) #[false, false, false, false, false, false, false, false, false, false, false] kk rfl rfl trivial (fun hHeld => ?_); refine with_tabW L2_CongrLattice.tab4 L2_CongrLattice.bits4 (fun HT_ HW_ => ?_)
  generalize wc.drew = w26 at BK210 BK211 HB hHeld ⊢
  refine inv_at [0, 1, 2, 3, 4, 5, 6, 7, 8, 9, 10] (fun a0_ b a w' => ∃ (gb220 : Nat) (m8_ : Value), a = putSel a0_ b [(0, 36, .agg #[.int .i64 a0_0, .int .i64 a0_1]), (1, 37, .agg #[.int .i64 t214, .int .i64 t215]), (2, 38, .agg #[.int .i64 a1_0, .int .i64 a1_1]), (3, 39, .agg #[.int .i64 t216, .int .i64 t217]), (4, 40, .tuple #[.agg #[.int .i64 t218, .int .i64 t219], .nilIface]), (5, 35, .tuple #[.agg #[.int .i64 t218, .int .i64 t219], .nilIface]), (6, 41, .agg #[.int .i64 t218, .int .i64 t219]), (7, 42, .nilIface), (8, 6, m8_), (10, 7, .nilIface)] ∧ (w'.heap[gb210]? = some (.cells #[.int .i64 a0_0, .int .i64 a0_1] 69 (0, 0))) ∧ (w'.heap[gb211]? = some (.cells #[.int .i64 a1_0, .int .i64 a1_1] 69 (0, 0))) ∧ (Below w.heap.size w w') ∧ (b 8 = true → b 9 = false → w'.heap[gb220]? = some (.cells #[.int .i64 0, .int .i64 0] 24 (0, 0))) ∧ (b 8 = true → w.heap.size ≤ gb220) ∧ (b 8 = true → w.heap.size ≤ gb220) ∧ (b 8 = true → gb210 ≠ gb220) ∧ (b 8 = true → gb220 ≠ gb210) ∧ (b 8 = true → gb211 ≠ gb220) ∧ (b 8 = true → gb220 ≠ gb211) ∧ (b 9 = true → w'.heap[gb220]? = some (.cells #[.int .i64 t218, .int .i64 t219] 24 (0, 0))) ∧ (b 8 = true → (m8_ : Value) = .pointer (some ⟨gb220, 0, none⟩))) HT_.out HW_.out kk kk ?_ ?_ ?_
  ·exact ⟨0, .bool false, by simp only [putSel, Bool.false_eq_true, if_false], BK210.out, BK211.out, HB.out, fun h_ => absurd h_ (by decide), fun h_ => absurd h_ (by decide), fun h_ => absurd h_ (by decide), fun h_ => absurd h_ (by decide), fun h_ => absurd h_ (by decide), fun h_ => absurd h_ (by decide), fun h_ => absurd h_ (by decide), fun h_ => absurd h_ (by decide), fun h_ => absurd h_ (by decide)⟩
  ·skip
   clear BK210 BK211 HB
   refine steps_cons ?_ ?_
   ·rintro b a w' ⟨gb220, m8_, ha, qB210, qB211, qHB, qB220, qW220, qE220, q210_220, q220_210, q211_220, q220_211, qB220_e9, Q_X8_⟩ hb_ hon hoff
    refine ⟨_, rfl, fun K hK => ?_⟩
    have e2 : a.tmps[2]? = some (.pointer (some ⟨gb210, 0, none⟩)) := by rw [ha]; exact (putSel_off rfl).trans rfl
    replace ha := am ha
    have BK210 := am qB210
    have BK211 := am qB211
    have HB := am qHB
    have hc0_ : w'.cell? ⟨gb210, 0, none⟩ = some (.int .i64 a0_0) := bc BK210 0
    have hc1_ : w'.cell? ⟨gb210, 1, none⟩ = some (.int .i64 a0_1) := bc BK210 1
    refine value_ (w1 := w') (v := .agg #[.int .i64 a0_0, .int .i64 a0_1]) (by rfl) rfl ?_ ?_
    ·go_simp
     (try simp only [i64_w])
     try rfl
    refine hK.out _ _ ⟨gb220, m8_, (by rw [ha.out]; exact putSel_upk 0 hb_ rfl rfl rfl), qB210, qB211, qHB, qB220, qW220, qE220, q210_220, q220_210, q211_220, q220_211, fun h0_ => absurd ((hoff 9 kk).symm.trans h0_) (by decide), Q_X8_⟩
   refine steps_cons ?_ ?_
   ·rintro b a w' ⟨gb220, m8_, ha, qB210, qB211, qHB, qB220, qW220, qE220, q210_220, q220_210, q211_220, q220_211, qB220_e9, Q_X8_⟩ hb_ hon hoff
    refine ⟨_, rfl, fun K hK => ?_⟩
    have e36 : a.tmps[36]? = some (.agg #[.int .i64 a0_0, .int .i64 a0_1]) := by rw [ha]; exact putSel_on (e := (0, 36, .agg #[.int .i64 a0_0, .int .i64 a0_1])) 0 rfl rfl (hon 0 kk) rfl
    replace ha := am ha
    have BK210 := am qB210
    have BK211 := am qB211
    have HB := am qHB
    refine goes_ Tryd.func41 kk rfl #[.agg #[.int .i64 a0_0, .int .i64 a0_1]] (by rfl) rfl rfl (by first | (simp only [List.map_toArray, List.map_cons, List.map_nil, Act.eval, Array.getD_eq_getD_getElem?, Option.getD_some, e36]; done) | (simp only [List.map_toArray, List.map_cons, List.map_nil, Act.eval, Array.getD_eq_getD_getElem?, Option.getD_some, e36]; rfl)) ?_
    with_reducible refine (L2_own.calls a0_0 a0_1 t214 t215 _ A15.out).mono ?_
    rintro e w27 ⟨rfl, hb⟩
    refine ⟨_, rfl, ?_⟩
    have n0_ := bb BK210 hb
    have n1_ := bb BK211 hb
    have n2_ := am (below_step pw hb)
    have z_BK220 := fun (h0_ : b 8 = true) (h1_ : b 9 = false) => (show w27.heap[gb220]? = some (.cells #[.int .i64 0, .int .i64 0] 24 (0, 0)) from by first | exact (blk_below (g := gb220) (o := .cells #[.int .i64 0, .int .i64 0] 24 (0, 0)) (by (with_reducible repeat (first | refine blk_drewN ?_ _ | refine blk_drew ?_ | refine blk_alloc ?_ _)); exact (qB220 h0_ h1_)) hb))
    clear BK210 BK211 HB
    revert n0_ n1_ n2_
    intro BK210 BK211 HB
    (try clear hb)
    (try clear hb2)
    (try clear hk)
    (try clear hi)
    refine hK.out _ _ ⟨gb220, m8_, (by rw [ha.out]; exact putSel_upk 1 hb_ rfl rfl rfl), pk, pk, pw, z_BK220, qW220, qE220, q210_220, q220_210, q211_220, q220_211, fun h0_ => absurd ((hoff 9 kk).symm.trans h0_) (by decide), Q_X8_⟩
   refine steps_cons ?_ ?_
   ·rintro b a w' ⟨gb220, m8_, ha, qB210, qB211, qHB, qB220, qW220, qE220, q210_220, q220_210, q211_220, q220_211, qB220_e9, Q_X8_⟩ hb_ hon hoff
    refine ⟨_, rfl, fun K hK => ?_⟩
    have e3 : a.tmps[3]? = some (.pointer (some ⟨gb211, 0, none⟩)) := by rw [ha]; exact (putSel_off rfl).trans rfl
    replace ha := am ha
    have BK210 := am qB210
    have BK211 := am qB211
    have HB := am qHB
    have hc0_ : w'.cell? ⟨gb211, 0, none⟩ = some (.int .i64 a1_0) := bc BK211 0
    have hc1_ : w'.cell? ⟨gb211, 1, none⟩ = some (.int .i64 a1_1) := bc BK211 1
    refine value_ (w1 := w') (v := .agg #[.int .i64 a1_0, .int .i64 a1_1]) (by rfl) rfl ?_ ?_
    ·go_simp
     (try simp only [i64_w])
     try rfl
    refine hK.out _ _ ⟨gb220, m8_, (by rw [ha.out]; exact putSel_upk 2 hb_ rfl rfl rfl), qB210, qB211, qHB, qB220, qW220, qE220, q210_220, q220_210, q211_220, q220_211, fun h0_ => absurd ((hoff 9 kk).symm.trans h0_) (by decide), Q_X8_⟩
   refine steps_cons ?_ ?_
   ·rintro b a w' ⟨gb220, m8_, ha, qB210, qB211, qHB, qB220, qW220, qE220, q210_220, q220_210, q211_220, q220_211, qB220_e9, Q_X8_⟩ hb_ hon hoff
    refine ⟨_, rfl, fun K hK => ?_⟩
    have e38 : a.tmps[38]? = some (.agg #[.int .i64 a1_0, .int .i64 a1_1]) := by rw [ha]; exact putSel_on (e := (2, 38, .agg #[.int .i64 a1_0, .int .i64 a1_1])) 2 rfl rfl (hon 2 kk) rfl
    replace ha := am ha
    have BK210 := am qB210
    have BK211 := am qB211
    have HB := am qHB
    refine goes_ Tryd.func41 kk rfl #[.agg #[.int .i64 a1_0, .int .i64 a1_1]] (by rfl) rfl rfl (by first | (simp only [List.map_toArray, List.map_cons, List.map_nil, Act.eval, Array.getD_eq_getD_getElem?, Option.getD_some, e38]; done) | (simp only [List.map_toArray, List.map_cons, List.map_nil, Act.eval, Array.getD_eq_getD_getElem?, Option.getD_some, e38]; rfl)) ?_
    with_reducible refine (L2_own.calls a1_0 a1_1 t216 t217 _ A16.out).mono ?_
    rintro e w29 ⟨rfl, hb⟩
    refine ⟨_, rfl, ?_⟩
    have n0_ := bb BK210 hb
    have n1_ := bb BK211 hb
    have n2_ := am (below_step pw hb)
    have z_BK220 := fun (h0_ : b 8 = true) (h1_ : b 9 = false) => (show w29.heap[gb220]? = some (.cells #[.int .i64 0, .int .i64 0] 24 (0, 0)) from by first | exact (blk_below (g := gb220) (o := .cells #[.int .i64 0, .int .i64 0] 24 (0, 0)) (by (with_reducible repeat (first | refine blk_drewN ?_ _ | refine blk_drew ?_ | refine blk_alloc ?_ _)); exact (qB220 h0_ h1_)) hb))
    clear BK210 BK211 HB
    revert n0_ n1_ n2_
    intro BK210 BK211 HB
    (try clear hb)
    (try clear hb2)
    (try clear hk)
    (try clear hi)
    refine hK.out _ _ ⟨gb220, m8_, (by rw [ha.out]; exact putSel_upk 3 hb_ rfl rfl rfl), pk, pk, pw, z_BK220, qW220, qE220, q210_220, q220_210, q211_220, q220_211, fun h0_ => absurd ((hoff 9 kk).symm.trans h0_) (by decide), Q_X8_⟩
   refine steps_cons ?_ ?_
   ·rintro b a w' ⟨gb220, m8_, ha, qB210, qB211, qHB, qB220, qW220, qE220, q210_220, q220_210, q211_220, q220_211, qB220_e9, Q_X8_⟩ hb_ hon hoff
    refine ⟨_, rfl, fun K hK => ?_⟩
    have e37 : a.tmps[37]? = some (.agg #[.int .i64 t214, .int .i64 t215]) := by rw [ha]; exact putSel_on (e := (1, 37, .agg #[.int .i64 t214, .int .i64 t215])) 1 rfl rfl (hon 1 kk) rfl
    have e39 : a.tmps[39]? = some (.agg #[.int .i64 t216, .int .i64 t217]) := by rw [ha]; exact putSel_on (e := (3, 39, .agg #[.int .i64 t216, .int .i64 t217])) 3 rfl rfl (hon 3 kk) rfl
    replace ha := am ha
    have BK210 := am qB210
    have BK211 := am qB211
    have HB := am qHB
    refine goes_ Tryd.func40 kk rfl #[.agg #[.int .i64 t214, .int .i64 t215], .agg #[.int .i64 t216, .int .i64 t217]] (by rfl) rfl rfl (by first | (simp only [List.map_toArray, List.map_cons, List.map_nil, Act.eval, Array.getD_eq_getD_getElem?, Option.getD_some, e37, e39]; done) | (simp only [List.map_toArray, List.map_cons, List.map_nil, Act.eval, Array.getD_eq_getD_getElem?, Option.getD_some, e37, e39]; rfl)) ?_
    with_reducible refine (congr_Join_ok.calls kj3 t214 t215 t216 t217 t218 t219 _ A17.out (am (ErrAt.below hE2.out pw)).out (am (ErrAt.below hE3.out pw)).out).mono ?_
    rintro e w30 ⟨rfl, hb⟩
    refine ⟨_, rfl, ?_⟩
    have n0_ := bb BK210 hb
    have n1_ := bb BK211 hb
    have n2_ := am (below_step pw hb)
    have z_BK220 := fun (h0_ : b 8 = true) (h1_ : b 9 = false) => (show w30.heap[gb220]? = some (.cells #[.int .i64 0, .int .i64 0] 24 (0, 0)) from by first | exact (blk_below (g := gb220) (o := .cells #[.int .i64 0, .int .i64 0] 24 (0, 0)) (by (with_reducible repeat (first | refine blk_drewN ?_ _ | refine blk_drew ?_ | refine blk_alloc ?_ _)); exact (qB220 h0_ h1_)) hb))
    clear BK210 BK211 HB
    revert n0_ n1_ n2_
    intro BK210 BK211 HB
    (try clear hb)
    (try clear hb2)
    (try clear hk)
    (try clear hi)
    refine hK.out _ _ ⟨gb220, m8_, (by rw [ha.out]; exact putSel_upk 4 hb_ rfl rfl rfl), pk, pk, pw, z_BK220, qW220, qE220, q210_220, q220_210, q211_220, q220_211, fun h0_ => absurd ((hoff 9 kk).symm.trans h0_) (by decide), Q_X8_⟩
   refine steps_cons ?_ ?_
   ·rintro b a w' ⟨gb220, m8_, ha, qB210, qB211, qHB, qB220, qW220, qE220, q210_220, q220_210, q211_220, q220_211, qB220_e9, Q_X8_⟩ hb_ hon hoff
    refine ⟨_, rfl, fun K hK => ?_⟩
    have e40 : a.tmps[40]? = some (.tuple #[.agg #[.int .i64 t218, .int .i64 t219], .nilIface]) := by rw [ha]; exact putSel_on (e := (4, 40, .tuple #[.agg #[.int .i64 t218, .int .i64 t219], .nilIface])) 4 rfl rfl (hon 4 kk) rfl
    replace ha := am ha
    have BK210 := am qB210
    have BK211 := am qB211
    have HB := am qHB
    refine value_ (w1 := w') (v := .tuple #[.agg #[.int .i64 t218, .int .i64 t219], .nilIface]) (by rfl) rfl ?_ ?_
    ·go_simp
     (try simp only [i64_w])
     try rfl
    refine hK.out _ _ ⟨gb220, m8_, (by rw [ha.out]; exact putSel_upk 5 hb_ rfl rfl rfl), qB210, qB211, qHB, qB220, qW220, qE220, q210_220, q220_210, q211_220, q220_211, fun h0_ => absurd ((hoff 9 kk).symm.trans h0_) (by decide), Q_X8_⟩
   refine steps_cons ?_ ?_
   ·rintro b a w' ⟨gb220, m8_, ha, qB210, qB211, qHB, qB220, qW220, qE220, q210_220, q220_210, q211_220, q220_211, qB220_e9, Q_X8_⟩ hb_ hon hoff
    refine ⟨_, rfl, fun K hK => ?_⟩
    have e35 : a.tmps[35]? = some (.tuple #[.agg #[.int .i64 t218, .int .i64 t219], .nilIface]) := by rw [ha]; exact putSel_on (e := (5, 35, .tuple #[.agg #[.int .i64 t218, .int .i64 t219], .nilIface])) 5 rfl rfl (hon 5 kk) rfl
    replace ha := am ha
    have BK210 := am qB210
    have BK211 := am qB211
    have HB := am qHB
    refine value_ (w1 := w') (v := .agg #[.int .i64 t218, .int .i64 t219]) (by rfl) rfl ?_ ?_
    ·go_simp
     (try simp only [i64_w])
     try rfl
    refine hK.out _ _ ⟨gb220, m8_, (by rw [ha.out]; exact putSel_upk 6 hb_ rfl rfl rfl), qB210, qB211, qHB, qB220, qW220, qE220, q210_220, q220_210, q211_220, q220_211, fun h0_ => absurd ((hoff 9 kk).symm.trans h0_) (by decide), Q_X8_⟩
   refine steps_cons ?_ ?_
   ·rintro b a w' ⟨gb220, m8_, ha, qB210, qB211, qHB, qB220, qW220, qE220, q210_220, q220_210, q211_220, q220_211, qB220_e9, Q_X8_⟩ hb_ hon hoff
    refine ⟨_, rfl, fun K hK => ?_⟩
    have e35 : a.tmps[35]? = some (.tuple #[.agg #[.int .i64 t218, .int .i64 t219], .nilIface]) := by rw [ha]; exact putSel_on (e := (5, 35, .tuple #[.agg #[.int .i64 t218, .int .i64 t219], .nilIface])) 5 rfl rfl (hon 5 kk) rfl
    replace ha := am ha
    have BK210 := am qB210
    have BK211 := am qB211
    have HB := am qHB
    refine value_ (w1 := w') (v := .nilIface) (by rfl) rfl ?_ ?_
    ·go_simp
     (try simp only [i64_w])
     try rfl
    refine hK.out _ _ ⟨gb220, m8_, (by rw [ha.out]; exact putSel_upk 7 hb_ rfl rfl rfl), qB210, qB211, qHB, qB220, qW220, qE220, q210_220, q220_210, q211_220, q220_211, qB220_e9, Q_X8_⟩
   refine steps_cons ?_ ?_
   ·rintro b a w' ⟨gb220, m8_, ha, qB210, qB211, qHB, qB220, qW220, qE220, q210_220, q220_210, q211_220, q220_211, qB220_e9, Q_X8_⟩ hb_ hon hoff
    refine ⟨_, rfl, fun K hK => ?_⟩
    replace ha := am ha
    have BK210 := am qB210
    have BK211 := am qB211
    have HB := am qHB
    refine box_step ?hg (N := 6) ?hd (cs := #[.int .i64 0, .int .i64 0]) (t := 24) ?hr ?_; (case hd => rfl); (case hg => rfl); (case hr => first | (go_simp; done) | (go_simp; rfl))
    intro gb220 hg w27 hbox hb
    have n0_ := bb BK210 hb
    have n1_ := bb BK211 hb
    have n2_ := am (below_step pw hb)
    have n3_ := am (hbox)
    have n4_ := am ((by rw [hg]; exact (below_size pw) : w.heap.size ≤ gb220))
    have n5_ := am ((by rw [hg]; exact (below_size pw) : w.heap.size ≤ gb220))
    have n6_ := am ((by rw [hg]; exact Nat.ne_of_lt (blk_lt pk) : gb210 ≠ gb220))
    have n7_ := am ((by rw [hg]; exact Nat.ne_of_gt (blk_lt pk) : gb220 ≠ gb210))
    have n8_ := am ((by rw [hg]; exact Nat.ne_of_lt (blk_lt pk) : gb211 ≠ gb220))
    have n9_ := am ((by rw [hg]; exact Nat.ne_of_gt (blk_lt pk) : gb220 ≠ gb211))
    clear BK210 BK211 HB
    revert n0_ n1_ n2_ n3_ n4_ n5_ n6_ n7_ n8_ n9_
    intro BK210 BK211 HB BK220 GW220 GE220 NB210_220 NB220_210 NB211_220 NB220_211
    clear hb hbox hg
    refine hK.out _ _ ⟨gb220, (.pointer (some ⟨gb220, 0, none⟩)), (by rw [ha.out]; exact putSel_upk 8 hb_ rfl rfl rfl), pk, pk, pw, fun _ _ => pk, fun _ => GW220.out, fun _ => GE220.out, fun _ => NB210_220.out, fun _ => NB220_210.out, fun _ => NB211_220.out, fun _ => NB220_211.out, fun h0_ => absurd ((hoff 9 kk).symm.trans h0_) (by decide), fun _ => rfl⟩
   refine steps_cons ?_ ?_
   ·rintro b a w' ⟨gb220, m8_, ha, qB210, qB211, qHB, qB220, qW220, qE220, q210_220, q220_210, q211_220, q220_211, qB220_e9, Q_X8_⟩ hb_ hon hoff
    refine ⟨_, rfl, fun K hK => ?_⟩
    have e6 : a.tmps[6]? = some (m8_) := by rw [ha]; exact putSel_on (e := (8, 6, m8_)) 8 rfl rfl (hon 8 kk) rfl
    rw [Q_X8_ (hon 8 kk)] at e6
    have e41 : a.tmps[41]? = some (.agg #[.int .i64 t218, .int .i64 t219]) := by rw [ha]; exact putSel_on (e := (6, 41, .agg #[.int .i64 t218, .int .i64 t219])) 6 rfl rfl (hon 6 kk) rfl
    replace ha := am ha
    have BK210 := am qB210
    have BK211 := am qB211
    have HB := am qHB
    have BK220 := am (qB220 (hon 8 kk) hb_)
    have GW220 := am (qW220 (hon 8 kk))
    have GE220 := am (qE220 (hon 8 kk))
    have NB210_220 := am (q210_220 (hon 8 kk))
    have NB220_210 := am (q220_210 (hon 8 kk))
    have NB211_220 := am (q211_220 (hon 8 kk))
    have NB220_211 := am (q220_211 (hon 8 kk))
    have hs32 : w'.cell? ⟨gb220, 0, none⟩ = some (.int .i64 0) := bc BK220 0
    have hfs32 := blk_frozen BK220.out 0
    have hns32_0 := NB210_220.out
    have hns32_1 := NB211_220.out
    have hms32_0 := NB220_210.out
    have hms32_1 := NB220_211.out
    have hs33 : w'.cell? ⟨gb220, 1, none⟩ = some (.int .i64 0) := bc BK220 1
    have hfs33 := blk_frozen BK220.out 1
    have hns33_0 := NB210_220.out
    have hns33_1 := NB211_220.out
    have hms33_0 := NB220_210.out
    have hms33_1 := NB220_211.out
    refine skip_ (w1 := ?_) (by rfl) rfl ?_ ?_
    rotate_left
    ·go_simp
     rfl
    refine hK.out _ _ ⟨gb220, m8_, (by rw [ha.out]; exact putSel_none (v := undef) rfl), (by (with_reducible repeat (first | refine blk_drewN ?_ _ | refine blk_drew ?_ | refine blk_alloc ?_ _)); refine blk_far ?_ NB210_220.out _; (with_reducible repeat (first | refine blk_drewN ?_ _ | refine blk_drew ?_ | refine blk_alloc ?_ _)); refine blk_far ?_ NB210_220.out _; (with_reducible repeat (first | refine blk_drewN ?_ _ | refine blk_drew ?_ | refine blk_alloc ?_ _)); exact BK210.out), (by (with_reducible repeat (first | refine blk_drewN ?_ _ | refine blk_drew ?_ | refine blk_alloc ?_ _)); refine blk_far ?_ NB211_220.out _; (with_reducible repeat (first | refine blk_drewN ?_ _ | refine blk_drew ?_ | refine blk_alloc ?_ _)); refine blk_far ?_ NB211_220.out _; (with_reducible repeat (first | refine blk_drewN ?_ _ | refine blk_drew ?_ | refine blk_alloc ?_ _)); exact BK211.out), pw, fun _ h1_ => absurd ((up_self b 9).symm.trans h1_) (by decide), fun _ => GW220.out, fun _ => GE220.out, fun _ => NB210_220.out, fun _ => NB220_210.out, fun _ => NB211_220.out, fun _ => NB220_211.out, fun _ => (by (with_reducible repeat (first | refine blk_drewN ?_ _ | refine blk_drew ?_ | refine blk_alloc ?_ _)); refine blk_put (cs := #[.int .i64 t218, .int .i64 0]) ?_ 1 _ rfl; (with_reducible repeat (first | refine blk_drewN ?_ _ | refine blk_drew ?_ | refine blk_alloc ?_ _)); refine blk_put (cs := #[.int .i64 0, .int .i64 0]) ?_ 0 _ rfl; (with_reducible repeat (first | refine blk_drewN ?_ _ | refine blk_drew ?_ | refine blk_alloc ?_ _)); exact BK220.out), Q_X8_⟩
   refine steps_cons ?_ ?_
   ·rintro b a w' ⟨gb220, m8_, ha, qB210, qB211, qHB, qB220, qW220, qE220, q210_220, q220_210, q211_220, q220_211, qB220_e9, Q_X8_⟩ hb_ hon hoff
    refine ⟨_, rfl, fun K hK => ?_⟩
    have e42 : a.tmps[42]? = some (.nilIface) := by rw [ha]; exact putSel_on (e := (7, 42, .nilIface)) 7 rfl rfl (hon 7 kk) rfl
    replace ha := am ha
    have BK210 := am qB210
    have BK211 := am qB211
    have HB := am qHB
    have GW220 := am (qW220 (hon 8 kk))
    have GE220 := am (qE220 (hon 8 kk))
    have NB210_220 := am (q210_220 (hon 8 kk))
    have NB220_210 := am (q220_210 (hon 8 kk))
    have NB211_220 := am (q211_220 (hon 8 kk))
    have NB220_211 := am (q220_211 (hon 8 kk))
    have BK220 := am (qB220_e9 (hon 9 kk))
    refine value_ (w1 := w') (v := .nilIface) (by rfl) rfl ?_ ?_
    ·go_simp
     (try simp only [i64_w])
     try rfl
    refine hK.out _ _ ⟨gb220, m8_, (by rw [ha.out]; exact putSel_upk 9 hb_ rfl rfl rfl), qB210, qB211, qHB, fun _ h1_ => absurd ((hon 9 kk).symm.trans h1_) (by decide), qW220, qE220, q210_220, q220_210, q211_220, q220_211, qB220_e9, Q_X8_⟩
   exact steps_nil
  rintro b a w33 hall ⟨gb220, m8_, ha, qB210, qB211, qHB, qB220, qW220, qE220, q210_220, q220_210, q211_220, q220_211, qB220_e9, Q_X8_⟩
  clear BK210 BK211 HB
  have hb0_ := hall 0 kk
  have hb1_ := hall 1 kk
  have hb2_ := hall 2 kk
  have hb3_ := hall 3 kk
  have hb4_ := hall 4 kk
  have hb5_ := hall 5 kk
  have hb6_ := hall 6 kk
  have hb7_ := hall 7 kk
  have hb8_ := hall 8 kk
  have hb9_ := hall 9 kk
  have hb10_ := hall 10 kk
  subst ha
  obtain rfl := Q_X8_ hb8_
  simp only [putSel, hb0_, hb1_, hb2_, hb3_, hb4_, hb5_, hb6_, hb7_, hb8_, hb9_, hb10_, if_true, Act.put, List.setIfInBounds_toArray, List.set_cons_zero, List.set_cons_succ]
  have BK210 := am qB210
  clear qB210
  have BK211 := am qB211
  clear qB211
  have HB := am qHB
  clear qHB
  clear qB220
  have GW220 := am (qW220 hb8_)
  clear qW220
  have GE220 := am (qE220 hb8_)
  clear qE220
  have NB210_220 := am (q210_220 hb8_)
  clear q210_220
  have NB220_210 := am (q220_210 hb8_)
  clear q220_210
  have NB211_220 := am (q211_220 hb8_)
  clear q211_220
  have NB220_211 := am (q220_211 hb8_)
  clear q220_211
  have BK220 := am (qB220_e9 hb9_)
  clear qB220_e9
  clear hall hb0_ hb1_ hb2_ hb3_ hb4_ hb5_ hb6_ hb7_ hb8_ hb9_ hb10_
  try go_wp2
  have n0_ := am (blk_drew BK210.out)
  have n1_ := am (blk_drew BK211.out)
  have n2_ := am (blk_drew BK220.out)
  have n3_ := am (below_drew1 HB.out)
  clear BK210 BK211 BK220 HB
  revert n0_ n1_ n2_ n3_
  intro BK210 BK211 BK220 HB
  refine start_ (n := 13) (S := fun w' => True) (ds := []) #[false, false, false, false, false, false, false, false, false, false, false, false, false] kk rfl rfl trivial (fun hHeld => ?_); refine with_tabW L2_CongrLattice.tab5 L2_CongrLattice.bits5 (fun HT_ HW_ => ?_)
  generalize w33.drew = w34 at BK210 BK211 BK220 HB hHeld ⊢
  refine inv_at [0, 1, 2, 3, 4, 5, 6, 7, 8, 9, 10, 11, 12] (fun a0_ b a w' => ∃ (gb228 : Nat) (m9_ : Value), a = putSel a0_ b [(0, 44, .agg #[.int .i64 a0_0, .int .i64 a0_1]), (1, 45, .agg #[.int .i64 t221, .int .i64 t222]), (2, 46, .agg #[.int .i64 a1_0, .int .i64 a1_1]), (3, 47, .agg #[.int .i64 t223, .int .i64 t224]), (4, 48, .tuple #[.agg #[.int .i64 t225, .int .i64 t226], .bool t227, .nilIface]), (5, 43, .tuple #[.agg #[.int .i64 t225, .int .i64 t226], .bool t227, .nilIface]), (6, 49, .agg #[.int .i64 t225, .int .i64 t226]), (7, 50, .bool t227), (8, 51, .nilIface), (9, 8, m9_), (11, 9, .bool t227), (12, 10, .nilIface)] ∧ (w'.heap[gb210]? = some (.cells #[.int .i64 a0_0, .int .i64 a0_1] 69 (0, 0))) ∧ (w'.heap[gb211]? = some (.cells #[.int .i64 a1_0, .int .i64 a1_1] 69 (0, 0))) ∧ (w'.heap[gb220]? = some (.cells #[.int .i64 t218, .int .i64 t219] 24 (0, 0))) ∧ (Below w.heap.size w w') ∧ (b 9 = true → b 10 = false → w'.heap[gb228]? = some (.cells #[.int .i64 0, .int .i64 0] 24 (0, 0))) ∧ (b 9 = true → w.heap.size ≤ gb228) ∧ (b 9 = true → w.heap.size ≤ gb228) ∧ (b 9 = true → gb210 ≠ gb228) ∧ (b 9 = true → gb228 ≠ gb210) ∧ (b 9 = true → gb211 ≠ gb228) ∧ (b 9 = true → gb228 ≠ gb211) ∧ (b 9 = true → gb220 ≠ gb228) ∧ (b 9 = true → gb228 ≠ gb220) ∧ (b 10 = true → w'.heap[gb228]? = some (.cells #[.int .i64 t225, .int .i64 t226] 24 (0, 0))) ∧ (b 9 = true → (m9_ : Value) = .pointer (some ⟨gb228, 0, none⟩))) HT_.out HW_.out kk kk ?_ ?_ ?_
  ·exact ⟨0, .bool false, by simp only [putSel, Bool.false_eq_true, if_false], BK210.out, BK211.out, BK220.out, HB.out, fun h_ => absurd h_ (by decide), fun h_ => absurd h_ (by decide), fun h_ => absurd h_ (by decide), fun h_ => absurd h_ (by decide), fun h_ => absurd h_ (by decide), fun h_ => absurd h_ (by decide), fun h_ => absurd h_ (by decide), fun h_ => absurd h_ (by decide), fun h_ => absurd h_ (by decide), fun h_ => absurd h_ (by decide), fun h_ => absurd h_ (by decide)⟩
  ·skip
   clear BK210 BK211 BK220 HB
   refine steps_cons ?_ ?_
   ·rintro b a w' ⟨gb228, m9_, ha, qB210, qB211, qB220, qHB, qB228, qW228, qE228, q210_228, q228_210, q211_228, q228_211, q220_228, q228_220, qB228_e10, Q_X9_⟩ hb_ hon hoff
    refine ⟨_, rfl, fun K hK => ?_⟩
    have e2 : a.tmps[2]? = some (.pointer (some ⟨gb210, 0, none⟩)) := by rw [ha]; exact (putSel_off rfl).trans rfl
    replace ha := am ha
    have BK210 := am qB210
    have BK211 := am qB211
    have BK220 := am qB220
    have HB := am qHB
    have hc0_ : w'.cell? ⟨gb210, 0, none⟩ = some (.int .i64 a0_0) := bc BK210 0
    have hc1_ : w'.cell? ⟨gb210, 1, none⟩ = some (.int .i64 a0_1) := bc BK210 1
    refine value_ (w1 := w') (v := .agg #[.int .i64 a0_0, .int .i64 a0_1]) (by rfl) rfl ?_ ?_
    ·go_simp
     (try simp only [i64_w])
     try rfl
    refine hK.out _ _ ⟨gb228, m9_, (by rw [ha.out]; exact putSel_upk 0 hb_ rfl rfl rfl), qB210, qB211, qB220, qHB, qB228, qW228, qE228, q210_228, q228_210, q211_228, q228_211, q220_228, q228_220, fun h0_ => absurd ((hoff 10 kk).symm.trans h0_) (by decide), Q_X9_⟩
   refine steps_cons ?_ ?_
   ·rintro b a w' ⟨gb228, m9_, ha, qB210, qB211, qB220, qHB, qB228, qW228, qE228, q210_228, q228_210, q211_228, q228_211, q220_228, q228_220, qB228_e10, Q_X9_⟩ hb_ hon hoff
    refine ⟨_, rfl, fun K hK => ?_⟩
    have e44 : a.tmps[44]? = some (.agg #[.int .i64 a0_0, .int .i64 a0_1]) := by rw [ha]; exact putSel_on (e := (0, 44, .agg #[.int .i64 a0_0, .int .i64 a0_1])) 0 rfl rfl (hon 0 kk) rfl
    replace ha := am ha
    have BK210 := am qB210
    have BK211 := am qB211
    have BK220 := am qB220
    have HB := am qHB
    refine goes_ Tryd.func41 kk rfl #[.agg #[.int .i64 a0_0, .int .i64 a0_1]] (by rfl) rfl rfl (by first | (simp only [List.map_toArray, List.map_cons, List.map_nil, Act.eval, Array.getD_eq_getD_getElem?, Option.getD_some, e44]; done) | (simp only [List.map_toArray, List.map_cons, List.map_nil, Act.eval, Array.getD_eq_getD_getElem?, Option.getD_some, e44]; rfl)) ?_
    with_reducible refine (L2_own.calls a0_0 a0_1 t221 t222 _ A18.out).mono ?_
    rintro e w35 ⟨rfl, hb⟩
    refine ⟨_, rfl, ?_⟩
    have n0_ := bb BK210 hb
    have n1_ := bb BK211 hb
    have n2_ := bb BK220 hb
    have n3_ := am (below_step pw hb)
    have z_BK228 := fun (h0_ : b 9 = true) (h1_ : b 10 = false) => (show w35.heap[gb228]? = some (.cells #[.int .i64 0, .int .i64 0] 24 (0, 0)) from by first | exact (blk_below (g := gb228) (o := .cells #[.int .i64 0, .int .i64 0] 24 (0, 0)) (by (with_reducible repeat (first | refine blk_drewN ?_ _ | refine blk_drew ?_ | refine blk_alloc ?_ _)); exact (qB228 h0_ h1_)) hb))
    clear BK210 BK211 BK220 HB
    revert n0_ n1_ n2_ n3_
    intro BK210 BK211 BK220 HB
    (try clear hb)
    (try clear hb2)
    (try clear hk)
    (try clear hi)
    refine hK.out _ _ ⟨gb228, m9_, (by rw [ha.out]; exact putSel_upk 1 hb_ rfl rfl rfl), pk, pk, pk, pw, z_BK228, qW228, qE228, q210_228, q228_210, q211_228, q228_211, q220_228, q228_220, fun h0_ => absurd ((hoff 10 kk).symm.trans h0_) (by decide), Q_X9_⟩
   refine steps_cons ?_ ?_
   ·rintro b a w' ⟨gb228, m9_, ha, qB210, qB211, qB220, qHB, qB228, qW228, qE228, q210_228, q228_210, q211_228, q228_211, q220_228, q228_220, qB228_e10, Q_X9_⟩ hb_ hon hoff
    refine ⟨_, rfl, fun K hK => ?_⟩
    have e3 : a.tmps[3]? = some (.pointer (some ⟨gb211, 0, none⟩)) := by rw [ha]; exact (putSel_off rfl).trans rfl
    replace ha := am ha
    have BK210 := am qB210
    have BK211 := am qB211
    have BK220 := am qB220
    have HB := am qHB
    have hc0_ : w'.cell? ⟨gb211, 0, none⟩ = some (.int .i64 a1_0) := bc BK211 0
    have hc1_ : w'.cell? ⟨gb211, 1, none⟩ = some (.int .i64 a1_1) := bc BK211 1
    refine value_ (w1 := w') (v := .agg #[.int .i64 a1_0, .int .i64 a1_1]) (by rfl) rfl ?_ ?_
    ·go_simp
     (try simp only [i64_w])
     try rfl
    refine hK.out _ _ ⟨gb228, m9_, (by rw [ha.out]; exact putSel_upk 2 hb_ rfl rfl rfl), qB210, qB211, qB220, qHB, qB228, qW228, qE228, q210_228, q228_210, q211_228, q228_211, q220_228, q228_220, fun h0_ => absurd ((hoff 10 kk).symm.trans h0_) (by decide), Q_X9_⟩
   refine steps_cons ?_ ?_
   ·rintro b a w' ⟨gb228, m9_, ha, qB210, qB211, qB220, qHB, qB228, qW228, qE228, q210_228, q228_210, q211_228, q228_211, q220_228, q228_220, qB228_e10, Q_X9_⟩ hb_ hon hoff
    refine ⟨_, rfl, fun K hK => ?_⟩
    have e46 : a.tmps[46]? = some (.agg #[.int .i64 a1_0, .int .i64 a1_1]) := by rw [ha]; exact putSel_on (e := (2, 46, .agg #[.int .i64 a1_0, .int .i64 a1_1])) 2 rfl rfl (hon 2 kk) rfl
    replace ha := am ha
    have BK210 := am qB210
    have BK211 := am qB211
    have BK220 := am qB220
    have HB := am qHB
    refine goes_ Tryd.func41 kk rfl #[.agg #[.int .i64 a1_0, .int .i64 a1_1]] (by rfl) rfl rfl (by first | (simp only [List.map_toArray, List.map_cons, List.map_nil, Act.eval, Array.getD_eq_getD_getElem?, Option.getD_some, e46]; done) | (simp only [List.map_toArray, List.map_cons, List.map_nil, Act.eval, Array.getD_eq_getD_getElem?, Option.getD_some, e46]; rfl)) ?_
    with_reducible refine (L2_own.calls a1_0 a1_1 t223 t224 _ A19.out).mono ?_
    rintro e w37 ⟨rfl, hb⟩
    refine ⟨_, rfl, ?_⟩
    have n0_ := bb BK210 hb
    have n1_ := bb BK211 hb
    have n2_ := bb BK220 hb
    have n3_ := am (below_step pw hb)
    have z_BK228 := fun (h0_ : b 9 = true) (h1_ : b 10 = false) => (show w37.heap[gb228]? = some (.cells #[.int .i64 0, .int .i64 0] 24 (0, 0)) from by first | exact (blk_below (g := gb228) (o := .cells #[.int .i64 0, .int .i64 0] 24 (0, 0)) (by (with_reducible repeat (first | refine blk_drewN ?_ _ | refine blk_drew ?_ | refine blk_alloc ?_ _)); exact (qB228 h0_ h1_)) hb))
    clear BK210 BK211 BK220 HB
    revert n0_ n1_ n2_ n3_
    intro BK210 BK211 BK220 HB
    (try clear hb)
    (try clear hb2)
    (try clear hk)
    (try clear hi)
    refine hK.out _ _ ⟨gb228, m9_, (by rw [ha.out]; exact putSel_upk 3 hb_ rfl rfl rfl), pk, pk, pk, pw, z_BK228, qW228, qE228, q210_228, q228_210, q211_228, q228_211, q220_228, q228_220, fun h0_ => absurd ((hoff 10 kk).symm.trans h0_) (by decide), Q_X9_⟩
   refine steps_cons ?_ ?_
   ·rintro b a w' ⟨gb228, m9_, ha, qB210, qB211, qB220, qHB, qB228, qW228, qE228, q210_228, q228_210, q211_228, q228_211, q220_228, q228_220, qB228_e10, Q_X9_⟩ hb_ hon hoff
    refine ⟨_, rfl, fun K hK => ?_⟩
    have e45 : a.tmps[45]? = some (.agg #[.int .i64 t221, .int .i64 t222]) := by rw [ha]; exact putSel_on (e := (1, 45, .agg #[.int .i64 t221, .int .i64 t222])) 1 rfl rfl (hon 1 kk) rfl
    have e47 : a.tmps[47]? = some (.agg #[.int .i64 t223, .int .i64 t224]) := by rw [ha]; exact putSel_on (e := (3, 47, .agg #[.int .i64 t223, .int .i64 t224])) 3 rfl rfl (hon 3 kk) rfl
    replace ha := am ha
    have BK210 := am qB210
    have BK211 := am qB211
    have BK220 := am qB220
    have HB := am qHB
    refine goes_ Tryd.func18 kk rfl #[.agg #[.int .i64 t221, .int .i64 t222], .agg #[.int .i64 t223, .int .i64 t224]] (by rfl) rfl rfl (by first | (simp only [List.map_toArray, List.map_cons, List.map_nil, Act.eval, Array.getD_eq_getD_getElem?, Option.getD_some, e45, e47]; done) | (simp only [List.map_toArray, List.map_cons, List.map_nil, Act.eval, Array.getD_eq_getD_getElem?, Option.getD_some, e45, e47]; rfl)) ?_
    with_reducible refine (congr_Meet_ok.calls kj3 t221 t222 t223 t224 t225 t226 t227 _ A20.out (am (ErrAt.below hE2.out pw)).out (am (ErrAt.below hE3.out pw)).out).mono ?_
    rintro e w38 ⟨rfl, hb⟩
    refine ⟨_, rfl, ?_⟩
    have n0_ := bb BK210 hb
    have n1_ := bb BK211 hb
    have n2_ := bb BK220 hb
    have n3_ := am (below_step pw hb)
    have z_BK228 := fun (h0_ : b 9 = true) (h1_ : b 10 = false) => (show w38.heap[gb228]? = some (.cells #[.int .i64 0, .int .i64 0] 24 (0, 0)) from by first | exact (blk_below (g := gb228) (o := .cells #[.int .i64 0, .int .i64 0] 24 (0, 0)) (by (with_reducible repeat (first | refine blk_drewN ?_ _ | refine blk_drew ?_ | refine blk_alloc ?_ _)); exact (qB228 h0_ h1_)) hb))
    clear BK210 BK211 BK220 HB
    revert n0_ n1_ n2_ n3_
    intro BK210 BK211 BK220 HB
    (try clear hb)
    (try clear hb2)
    (try clear hk)
    (try clear hi)
    refine hK.out _ _ ⟨gb228, m9_, (by rw [ha.out]; exact putSel_upk 4 hb_ rfl rfl rfl), pk, pk, pk, pw, z_BK228, qW228, qE228, q210_228, q228_210, q211_228, q228_211, q220_228, q228_220, fun h0_ => absurd ((hoff 10 kk).symm.trans h0_) (by decide), Q_X9_⟩
   refine steps_cons ?_ ?_
   ·rintro b a w' ⟨gb228, m9_, ha, qB210, qB211, qB220, qHB, qB228, qW228, qE228, q210_228, q228_210, q211_228, q228_211, q220_228, q228_220, qB228_e10, Q_X9_⟩ hb_ hon hoff
    refine ⟨_, rfl, fun K hK => ?_⟩
    have e48 : a.tmps[48]? = some (.tuple #[.agg #[.int .i64 t225, .int .i64 t226], .bool t227, .nilIface]) := by rw [ha]; exact putSel_on (e := (4, 48, .tuple #[.agg #[.int .i64 t225, .int .i64 t226], .bool t227, .nilIface])) 4 rfl rfl (hon 4 kk) rfl
    replace ha := am ha
    have BK210 := am qB210
    have BK211 := am qB211
    have BK220 := am qB220
    have HB := am qHB
    refine value_ (w1 := w') (v := .tuple #[.agg #[.int .i64 t225, .int .i64 t226], .bool t227, .nilIface]) (by rfl) rfl ?_ ?_
    ·go_simp
     (try simp only [i64_w])
     try rfl
    refine hK.out _ _ ⟨gb228, m9_, (by rw [ha.out]; exact putSel_upk 5 hb_ rfl rfl rfl), qB210, qB211, qB220, qHB, qB228, qW228, qE228, q210_228, q228_210, q211_228, q228_211, q220_228, q228_220, fun h0_ => absurd ((hoff 10 kk).symm.trans h0_) (by decide), Q_X9_⟩
   refine steps_cons ?_ ?_
   ·rintro b a w' ⟨gb228, m9_, ha, qB210, qB211, qB220, qHB, qB228, qW228, qE228, q210_228, q228_210, q211_228, q228_211, q220_228, q228_220, qB228_e10, Q_X9_⟩ hb_ hon hoff
    refine ⟨_, rfl, fun K hK => ?_⟩
    have e43 : a.tmps[43]? = some (.tuple #[.agg #[.int .i64 t225, .int .i64 t226], .bool t227, .nilIface]) := by rw [ha]; exact putSel_on (e := (5, 43, .tuple #[.agg #[.int .i64 t225, .int .i64 t226], .bool t227, .nilIface])) 5 rfl rfl (hon 5 kk) rfl
    replace ha := am ha
    have BK210 := am qB210
    have BK211 := am qB211
    have BK220 := am qB220
    have HB := am qHB
    refine value_ (w1 := w') (v := .agg #[.int .i64 t225, .int .i64 t226]) (by rfl) rfl ?_ ?_
    ·go_simp
     (try simp only [i64_w])
     try rfl
    refine hK.out _ _ ⟨gb228, m9_, (by rw [ha.out]; exact putSel_upk 6 hb_ rfl rfl rfl), qB210, qB211, qB220, qHB, qB228, qW228, qE228, q210_228, q228_210, q211_228, q228_211, q220_228, q228_220, fun h0_ => absurd ((hoff 10 kk).symm.trans h0_) (by decide), Q_X9_⟩
   refine steps_cons ?_ ?_
   ·rintro b a w' ⟨gb228, m9_, ha, qB210, qB211, qB220, qHB, qB228, qW228, qE228, q210_228, q228_210, q211_228, q228_211, q220_228, q228_220, qB228_e10, Q_X9_⟩ hb_ hon hoff
    refine ⟨_, rfl, fun K hK => ?_⟩
    have e43 : a.tmps[43]? = some (.tuple #[.agg #[.int .i64 t225, .int .i64 t226], .bool t227, .nilIface]) := by rw [ha]; exact putSel_on (e := (5, 43, .tuple #[.agg #[.int .i64 t225, .int .i64 t226], .bool t227, .nilIface])) 5 rfl rfl (hon 5 kk) rfl
    replace ha := am ha
    have BK210 := am qB210
    have BK211 := am qB211
    have BK220 := am qB220
    have HB := am qHB
    refine value_ (w1 := w') (v := .bool t227) (by rfl) rfl ?_ ?_
    ·go_simp
     (try simp only [i64_w])
     try rfl
    refine hK.out _ _ ⟨gb228, m9_, (by rw [ha.out]; exact putSel_upk 7 hb_ rfl rfl rfl), qB210, qB211, qB220, qHB, qB228, qW228, qE228, q210_228, q228_210, q211_228, q228_211, q220_228, q228_220, qB228_e10, Q_X9_⟩
   refine steps_cons ?_ ?_
   ·rintro b a w' ⟨gb228, m9_, ha, qB210, qB211, qB220, qHB, qB228, qW228, qE228, q210_228, q228_210, q211_228, q228_211, q220_228, q228_220, qB228_e10, Q_X9_⟩ hb_ hon hoff
    refine ⟨_, rfl, fun K hK => ?_⟩
    have e43 : a.tmps[43]? = some (.tuple #[.agg #[.int .i64 t225, .int .i64 t226], .bool t227, .nilIface]) := by rw [ha]; exact putSel_on (e := (5, 43, .tuple #[.agg #[.int .i64 t225, .int .i64 t226], .bool t227, .nilIface])) 5 rfl rfl (hon 5 kk) rfl
    replace ha := am ha
    have BK210 := am qB210
    have BK211 := am qB211
    have BK220 := am qB220
    have HB := am qHB
    refine value_ (w1 := w') (v := .nilIface) (by rfl) rfl ?_ ?_
    ·go_simp
     (try simp only [i64_w])
     try rfl
    refine hK.out _ _ ⟨gb228, m9_, (by rw [ha.out]; exact putSel_upk 8 hb_ rfl rfl rfl), qB210, qB211, qB220, qHB, qB228, qW228, qE228, q210_228, q228_210, q211_228, q228_211, q220_228, q228_220, qB228_e10, Q_X9_⟩
   refine steps_cons ?_ ?_
   ·rintro b a w' ⟨gb228, m9_, ha, qB210, qB211, qB220, qHB, qB228, qW228, qE228, q210_228, q228_210, q211_228, q228_211, q220_228, q228_220, qB228_e10, Q_X9_⟩ hb_ hon hoff
    refine ⟨_, rfl, fun K hK => ?_⟩
    replace ha := am ha
    have BK210 := am qB210
    have BK211 := am qB211
    have BK220 := am qB220
    have HB := am qHB
    refine box_step ?hg (N := 8) ?hd (cs := #[.int .i64 0, .int .i64 0]) (t := 24) ?hr ?_; (case hd => rfl); (case hg => rfl); (case hr => first | (go_simp; done) | (go_simp; rfl))
    intro gb228 hg w35 hbox hb
    have n0_ := bb BK210 hb
    have n1_ := bb BK211 hb
    have n2_ := bb BK220 hb
    have n3_ := am (below_step pw hb)
    have n4_ := am (hbox)
    have n5_ := am ((by rw [hg]; exact (below_size pw) : w.heap.size ≤ gb228))
    have n6_ := am ((by rw [hg]; exact (below_size pw) : w.heap.size ≤ gb228))
    have n7_ := am ((by rw [hg]; exact Nat.ne_of_lt (blk_lt pk) : gb210 ≠ gb228))
    have n8_ := am ((by rw [hg]; exact Nat.ne_of_gt (blk_lt pk) : gb228 ≠ gb210))
    have n9_ := am ((by rw [hg]; exact Nat.ne_of_lt (blk_lt pk) : gb211 ≠ gb228))
    have n10_ := am ((by rw [hg]; exact Nat.ne_of_gt (blk_lt pk) : gb228 ≠ gb211))
    have n11_ := am ((by rw [hg]; exact Nat.ne_of_lt (blk_lt pk) : gb220 ≠ gb228))
    have n12_ := am ((by rw [hg]; exact Nat.ne_of_gt (blk_lt pk) : gb228 ≠ gb220))
    clear BK210 BK211 BK220 HB
    revert n0_ n1_ n2_ n3_ n4_ n5_ n6_ n7_ n8_ n9_ n10_ n11_ n12_
    intro BK210 BK211 BK220 HB BK228 GW228 GE228 NB210_228 NB228_210 NB211_228 NB228_211 NB220_228 NB228_220
    clear hb hbox hg
    refine hK.out _ _ ⟨gb228, (.pointer (some ⟨gb228, 0, none⟩)), (by rw [ha.out]; exact putSel_upk 9 hb_ rfl rfl rfl), pk, pk, pk, pw, fun _ _ => pk, fun _ => GW228.out, fun _ => GE228.out, fun _ => NB210_228.out, fun _ => NB228_210.out, fun _ => NB211_228.out, fun _ => NB228_211.out, fun _ => NB220_228.out, fun _ => NB228_220.out, fun h0_ => absurd ((hoff 10 kk).symm.trans h0_) (by decide), fun _ => rfl⟩
   refine steps_cons ?_ ?_
   ·rintro b a w' ⟨gb228, m9_, ha, qB210, qB211, qB220, qHB, qB228, qW228, qE228, q210_228, q228_210, q211_228, q228_211, q220_228, q228_220, qB228_e10, Q_X9_⟩ hb_ hon hoff
    refine ⟨_, rfl, fun K hK => ?_⟩
    have e8 : a.tmps[8]? = some (m9_) := by rw [ha]; exact putSel_on (e := (9, 8, m9_)) 9 rfl rfl (hon 9 kk) rfl
    rw [Q_X9_ (hon 9 kk)] at e8
    have e49 : a.tmps[49]? = some (.agg #[.int .i64 t225, .int .i64 t226]) := by rw [ha]; exact putSel_on (e := (6, 49, .agg #[.int .i64 t225, .int .i64 t226])) 6 rfl rfl (hon 6 kk) rfl
    replace ha := am ha
    have BK210 := am qB210
    have BK211 := am qB211
    have BK220 := am qB220
    have HB := am qHB
    have BK228 := am (qB228 (hon 9 kk) hb_)
    have GW228 := am (qW228 (hon 9 kk))
    have GE228 := am (qE228 (hon 9 kk))
    have NB210_228 := am (q210_228 (hon 9 kk))
    have NB228_210 := am (q228_210 (hon 9 kk))
    have NB211_228 := am (q211_228 (hon 9 kk))
    have NB228_211 := am (q228_211 (hon 9 kk))
    have NB220_228 := am (q220_228 (hon 9 kk))
    have NB228_220 := am (q228_220 (hon 9 kk))
    have hs40 : w'.cell? ⟨gb228, 0, none⟩ = some (.int .i64 0) := bc BK228 0
    have hfs40 := blk_frozen BK228.out 0
    have hns40_0 := NB210_228.out
    have hns40_1 := NB211_228.out
    have hns40_2 := NB220_228.out
    have hms40_0 := NB228_210.out
    have hms40_1 := NB228_211.out
    have hms40_2 := NB228_220.out
    have hs41 : w'.cell? ⟨gb228, 1, none⟩ = some (.int .i64 0) := bc BK228 1
    have hfs41 := blk_frozen BK228.out 1
    have hns41_0 := NB210_228.out
    have hns41_1 := NB211_228.out
    have hns41_2 := NB220_228.out
    have hms41_0 := NB228_210.out
    have hms41_1 := NB228_211.out
    have hms41_2 := NB228_220.out
    refine skip_ (w1 := ?_) (by rfl) rfl ?_ ?_
    rotate_left
    ·go_simp
     rfl
    refine hK.out _ _ ⟨gb228, m9_, (by rw [ha.out]; exact putSel_none (v := undef) rfl), (by (with_reducible repeat (first | refine blk_drewN ?_ _ | refine blk_drew ?_ | refine blk_alloc ?_ _)); refine blk_far ?_ NB210_228.out _; (with_reducible repeat (first | refine blk_drewN ?_ _ | refine blk_drew ?_ | refine blk_alloc ?_ _)); refine blk_far ?_ NB210_228.out _; (with_reducible repeat (first | refine blk_drewN ?_ _ | refine blk_drew ?_ | refine blk_alloc ?_ _)); exact BK210.out), (by (with_reducible repeat (first | refine blk_drewN ?_ _ | refine blk_drew ?_ | refine blk_alloc ?_ _)); refine blk_far ?_ NB211_228.out _; (with_reducible repeat (first | refine blk_drewN ?_ _ | refine blk_drew ?_ | refine blk_alloc ?_ _)); refine blk_far ?_ NB211_228.out _; (with_reducible repeat (first | refine blk_drewN ?_ _ | refine blk_drew ?_ | refine blk_alloc ?_ _)); exact BK211.out), (by (with_reducible repeat (first | refine blk_drewN ?_ _ | refine blk_drew ?_ | refine blk_alloc ?_ _)); refine blk_far ?_ NB220_228.out _; (with_reducible repeat (first | refine blk_drewN ?_ _ | refine blk_drew ?_ | refine blk_alloc ?_ _)); refine blk_far ?_ NB220_228.out _; (with_reducible repeat (first | refine blk_drewN ?_ _ | refine blk_drew ?_ | refine blk_alloc ?_ _)); exact BK220.out), pw, fun _ h1_ => absurd ((up_self b 10).symm.trans h1_) (by decide), fun _ => GW228.out, fun _ => GE228.out, fun _ => NB210_228.out, fun _ => NB228_210.out, fun _ => NB211_228.out, fun _ => NB228_211.out, fun _ => NB220_228.out, fun _ => NB228_220.out, fun _ => (by (with_reducible repeat (first | refine blk_drewN ?_ _ | refine blk_drew ?_ | refine blk_alloc ?_ _)); refine blk_put (cs := #[.int .i64 t225, .int .i64 0]) ?_ 1 _ rfl; (with_reducible repeat (first | refine blk_drewN ?_ _ | refine blk_drew ?_ | refine blk_alloc ?_ _)); refine blk_put (cs := #[.int .i64 0, .int .i64 0]) ?_ 0 _ rfl; (with_reducible repeat (first | refine blk_drewN ?_ _ | refine blk_drew ?_ | refine blk_alloc ?_ _)); exact BK228.out), Q_X9_⟩
   refine steps_cons ?_ ?_
   ·rintro b a w' ⟨gb228, m9_, ha, qB210, qB211, qB220, qHB, qB228, qW228, qE228, q210_228, q228_210, q211_228, q228_211, q220_228, q228_220, qB228_e10, Q_X9_⟩ hb_ hon hoff
    refine ⟨_, rfl, fun K hK => ?_⟩
    have e50 : a.tmps[50]? = some (.bool t227) := by rw [ha]; exact putSel_on (e := (7, 50, .bool t227)) 7 rfl rfl (hon 7 kk) rfl
    replace ha := am ha
    have BK210 := am qB210
    have BK211 := am qB211
    have BK220 := am qB220
    have HB := am qHB
    have GW228 := am (qW228 (hon 9 kk))
    have GE228 := am (qE228 (hon 9 kk))
    have NB210_228 := am (q210_228 (hon 9 kk))
    have NB228_210 := am (q228_210 (hon 9 kk))
    have NB211_228 := am (q211_228 (hon 9 kk))
    have NB228_211 := am (q228_211 (hon 9 kk))
    have NB220_228 := am (q220_228 (hon 9 kk))
    have NB228_220 := am (q228_220 (hon 9 kk))
    have BK228 := am (qB228_e10 (hon 10 kk))
    refine value_ (w1 := w') (v := .bool t227) (by rfl) rfl ?_ ?_
    ·go_simp
     (try simp only [i64_w])
     try rfl
    refine hK.out _ _ ⟨gb228, m9_, (by rw [ha.out]; exact putSel_upk 10 hb_ rfl rfl rfl), qB210, qB211, qB220, qHB, fun _ h1_ => absurd ((hon 10 kk).symm.trans h1_) (by decide), qW228, qE228, q210_228, q228_210, q211_228, q228_211, q220_228, q228_220, qB228_e10, Q_X9_⟩
   refine steps_cons ?_ ?_
   ·rintro b a w' ⟨gb228, m9_, ha, qB210, qB211, qB220, qHB, qB228, qW228, qE228, q210_228, q228_210, q211_228, q228_211, q220_228, q228_220, qB228_e10, Q_X9_⟩ hb_ hon hoff
    refine ⟨_, rfl, fun K hK => ?_⟩
    have e51 : a.tmps[51]? = some (.nilIface) := by rw [ha]; exact putSel_on (e := (8, 51, .nilIface)) 8 rfl rfl (hon 8 kk) rfl
    replace ha := am ha
    have BK210 := am qB210
    have BK211 := am qB211
    have BK220 := am qB220
    have HB := am qHB
    have GW228 := am (qW228 (hon 9 kk))
    have GE228 := am (qE228 (hon 9 kk))
    have NB210_228 := am (q210_228 (hon 9 kk))
    have NB228_210 := am (q228_210 (hon 9 kk))
    have NB211_228 := am (q211_228 (hon 9 kk))
    have NB228_211 := am (q228_211 (hon 9 kk))
    have NB220_228 := am (q220_228 (hon 9 kk))
    have NB228_220 := am (q228_220 (hon 9 kk))
    have BK228 := am (qB228_e10 (hon 10 kk))
    refine value_ (w1 := w') (v := .nilIface) (by rfl) rfl ?_ ?_
    ·go_simp
     (try simp only [i64_w])
     try rfl
    refine hK.out _ _ ⟨gb228, m9_, (by rw [ha.out]; exact putSel_upk 11 hb_ rfl rfl rfl), qB210, qB211, qB220, qHB, fun _ h1_ => absurd ((hon 10 kk).symm.trans h1_) (by decide), qW228, qE228, q210_228, q228_210, q211_228, q228_211, q220_228, q228_220, qB228_e10, Q_X9_⟩
   exact steps_nil
  rintro b a w41 hall ⟨gb228, m9_, ha, qB210, qB211, qB220, qHB, qB228, qW228, qE228, q210_228, q228_210, q211_228, q228_211, q220_228, q228_220, qB228_e10, Q_X9_⟩
  clear BK210 BK211 BK220 HB
  have hb0_ := hall 0 kk
  have hb1_ := hall 1 kk
  have hb2_ := hall 2 kk
  have hb3_ := hall 3 kk
  have hb4_ := hall 4 kk
  have hb5_ := hall 5 kk
  have hb6_ := hall 6 kk
  have hb7_ := hall 7 kk
  have hb8_ := hall 8 kk
  have hb9_ := hall 9 kk
  have hb10_ := hall 10 kk
  have hb11_ := hall 11 kk
  have hb12_ := hall 12 kk
  subst ha
  obtain rfl := Q_X9_ hb9_
  simp only [putSel, hb0_, hb1_, hb2_, hb3_, hb4_, hb5_, hb6_, hb7_, hb8_, hb9_, hb10_, hb11_, hb12_, if_true, Act.put, List.setIfInBounds_toArray, List.set_cons_zero, List.set_cons_succ]
  have BK210 := am qB210
  clear qB210
  have BK211 := am qB211
  clear qB211
  have BK220 := am qB220
  clear qB220
  have HB := am qHB
  clear qHB
  clear qB228
  have GW228 := am (qW228 hb9_)
  clear qW228
  have GE228 := am (qE228 hb9_)
  clear qE228
  have NB210_228 := am (q210_228 hb9_)
  clear q210_228
  have NB228_210 := am (q228_210 hb9_)
  clear q228_210
  have NB211_228 := am (q211_228 hb9_)
  clear q211_228
  have NB228_211 := am (q228_211 hb9_)
  clear q228_211
  have NB220_228 := am (q220_228 hb9_)
  clear q220_228
  have NB228_220 := am (q228_220 hb9_)
  clear q228_220
  have BK228 := am (qB228_e10 hb10_)
  clear qB228_e10
  clear hall hb0_ hb1_ hb2_ hb3_ hb4_ hb5_ hb6_ hb7_ hb8_ hb9_ hb10_ hb11_ hb12_
  try go_wp2
  have n0_ := am (blk_drew BK210.out)
  have n1_ := am (blk_drew BK211.out)
  have n2_ := am (blk_drew BK220.out)
  have n3_ := am (blk_drew BK228.out)
  have n4_ := am (below_drew1 HB.out)
  clear BK210 BK211 BK220 BK228 HB
  revert n0_ n1_ n2_ n3_ n4_
  intro BK210 BK211 BK220 BK228 HB
  refine start_ (n := 9) (S := fun w' => w'.cell? ⟨gb210, 0, none⟩ = some (.int .i64 a0_0) ∧ w'.cell? ⟨gb210, 1, none⟩ = some (.int .i64 a0_1) ∧ w'.cell? ⟨gb220, 0, none⟩ = some (.int .i64 t218) ∧ w'.cell? ⟨gb220, 1, none⟩ = some (.int .i64 t219)) (ds := []) #[false, false, false, false, false, false, false, false, false] kk rfl rfl ⟨bc BK210 0, bc BK210 1, bc BK220 0, bc BK220 1⟩ (fun hHeld => ?_); refine with_tabW L2_CongrLattice.tab6 L2_CongrLattice.bits6 (fun HT_ HW_ => ?_)
  generalize w41.drew = w42 at BK210 BK211 BK220 BK228 HB hHeld ⊢
  refine take_ (i := 0) (N := some 53) (v := ?_) (a' := ?_) #[true, false, false, false, false, false, false, false, false] rfl rfl (take_ofW HT_.out HW_.out kk) (fun _ _ _ h => h) (Or.inl ⟨by rfl, ?_⟩) hHeld ?_ ?_
  rotate_left
  ·rintro w' ⟨s0, s1, s2, s3⟩
   go_simp
   with_reducible rfl
  rotate_left
  ·simp only [Act.put, List.setIfInBounds_toArray, List.set_cons_zero, List.set_cons_succ, i64_w, i32_w]
   rfl
  refine take_ (i := 2) (N := some 55) (v := ?_) (a' := ?_) #[true, false, true, false, false, false, false, false, false] rfl rfl (take_ofW HT_.out HW_.out kk) (fun _ _ _ h => h) (Or.inl ⟨by rfl, ?_⟩) hHeld ?_ ?_
  rotate_left
  ·rintro w' ⟨s0, s1, s2, s3⟩
   go_simp
   with_reducible rfl
  rotate_left
  ·simp only [Act.put, List.setIfInBounds_toArray, List.set_cons_zero, List.set_cons_succ, i64_w, i32_w]
   rfl
  refine one_ (i := 1) (N := some 54) #[true, true, true, false, false, false, false, false, false] rfl rfl (one_of HT_.out kk) (by decide) (fun K hK => ?_)
  refine goes_ Tryd.func41 kk rfl #[.agg #[.int .i64 a0_0, .int .i64 a0_1]] (by rfl) rfl rfl (by (try simp only [List.map_toArray, List.map_cons, List.map_nil]); first | done | rfl | (simp only [List.length_drop, List.length_take]; rfl)) ?_
  with_reducible refine (L2_own.calls a0_0 a0_1 t229 t230 _ A21.out).mono ?_
  rintro e w43 ⟨rfl, hb⟩
  refine ⟨_, rfl, ?_⟩
  have n0_ := bb BK210 hb
  have n1_ := bb BK211 hb
  have n2_ := bb BK220 hb
  have n3_ := bb BK228 hb
  have n4_ := am (below_step pw hb)
  clear BK210 BK211 BK220 BK228 HB
  revert n0_ n1_ n2_ n3_ n4_
  intro BK210 BK211 BK220 BK228 HB
  (try clear hb)
  (try clear hb2)
  (try clear hk)
  (try clear hi)
  refine hK.out _ _ ⟨bc BK210 0, bc BK210 1, bc BK220 0, bc BK220 1⟩ (fun hHeld => ?_)
  clear hK K
  refine norm_ (a' := ?_) ?_ ?_
  rotate_left
  ·show Act.put _ (some 54) _ = _
   simp only [Act.put, List.setIfInBounds_toArray, List.set_cons_zero, List.set_cons_succ, i64_w, i32_w]
   rfl
  refine one_ (i := 3) (N := some 56) #[true, true, true, true, false, false, false, false, false] rfl rfl (one_of HT_.out kk) (by decide) (fun K hK => ?_)
  refine goes_ Tryd.func42 kk rfl #[.agg #[.int .i64 t229, .int .i64 t230], .agg #[.int .i64 t218, .int .i64 t219]] (by rfl) rfl rfl (by (try simp only [List.map_toArray, List.map_cons, List.map_nil]); first | done | rfl | (simp only [List.length_drop, List.length_take]; rfl)) ?_
  with_reducible refine (congr_Within_ok.calls kj3 t229 t230 t218 t219 t231 _ A22.out (am (ErrAt.below hE2.out pw)).out (am (ErrAt.below hE3.out pw)).out).mono ?_
  rintro e w44 ⟨rfl, hb⟩
  refine ⟨_, rfl, ?_⟩
  have n0_ := bb BK210 hb
  have n1_ := bb BK211 hb
  have n2_ := bb BK220 hb
  have n3_ := bb BK228 hb
  have n4_ := am (below_step pw hb)
  clear BK210 BK211 BK220 BK228 HB
  revert n0_ n1_ n2_ n3_ n4_
  intro BK210 BK211 BK220 BK228 HB
  (try clear hb)
  (try clear hb2)
  (try clear hk)
  (try clear hi)
  refine hK.out _ _ ⟨bc BK210 0, bc BK210 1, bc BK220 0, bc BK220 1⟩ (fun hHeld => ?_)
  clear hK K
  refine norm_ (a' := ?_) ?_ ?_
  rotate_left
  ·show Act.put _ (some 56) _ = _
   simp only [Act.put, List.setIfInBounds_toArray, List.set_cons_zero, List.set_cons_succ, i64_w, i32_w]
   rfl
  refine pure_ (i := 4) (N := some 52) (v := ?_) (a' := ?_) #[true, true, true, true, true, false, false, false, false] rfl rfl (any_of HT_.out kk) (fun _ _ _ h => h) (Or.inl ⟨by rfl, ?_⟩) ?_ ?_
  rotate_left
  ·intro w'
   go_simp
   with_reducible rfl
  rotate_left
  ·simp only [Act.put, List.setIfInBounds_toArray, List.set_cons_zero, List.set_cons_succ, i64_w, i32_w]
   rfl
  refine pure_ (i := 5) (N := some 57) (v := ?_) (a' := ?_) #[true, true, true, true, true, true, false, false, false] rfl rfl (any_of HT_.out kk) (fun _ _ _ h => h) (Or.inl ⟨by rfl, ?_⟩) ?_ ?_
  rotate_left
  ·intro w'
   go_simp
   with_reducible rfl
  rotate_left
  ·simp only [Act.put, List.setIfInBounds_toArray, List.set_cons_zero, List.set_cons_succ, i64_w, i32_w]
   rfl
  refine pure_ (i := 6) (N := some 58) (v := ?_) (a' := ?_) #[true, true, true, true, true, true, true, false, false] rfl rfl (any_of HT_.out kk) (fun _ _ _ h => h) (Or.inl ⟨by rfl, ?_⟩) ?_ ?_
  rotate_left
  ·intro w'
   go_simp
   with_reducible rfl
  rotate_left
  ·simp only [Act.put, List.setIfInBounds_toArray, List.set_cons_zero, List.set_cons_succ, i64_w, i32_w]
   rfl
  refine pure_ (i := 7) (N := some 11) (v := ?_) (a' := ?_) #[true, true, true, true, true, true, true, true, false] rfl rfl (any_of HT_.out kk) (fun _ _ _ h => h) (Or.inl ⟨by rfl, ?_⟩) ?_ ?_
  rotate_left
  ·intro w'
   go_simp
   with_reducible rfl
  rotate_left
  ·simp only [Act.put, List.setIfInBounds_toArray, List.set_cons_zero, List.set_cons_succ, i64_w, i32_w]
   rfl
  refine pure_ (i := 8) (N := some 12) (v := ?_) (a' := ?_) #[true, true, true, true, true, true, true, true, true] rfl rfl (any_of HT_.out kk) (fun _ _ _ h => h) (Or.inl ⟨by rfl, ?_⟩) ?_ ?_
  rotate_left
  ·intro w'
   go_simp
   with_reducible rfl
  rotate_left
  ·simp only [Act.put, List.setIfInBounds_toArray, List.set_cons_zero, List.set_cons_succ, i64_w, i32_w]
   rfl
  refine done_ (done_of HT_.out kk) ?_
  try go_wp2
  have n0_ := am (blk_drew BK210.out)
  have n1_ := am (blk_drew BK211.out)
  have n2_ := am (blk_drew BK220.out)
  have n3_ := am (blk_drew BK228.out)
  have n4_ := am (below_drew1 HB.out)
  clear BK210 BK211 BK220 BK228 HB
  revert n0_ n1_ n2_ n3_ n4_
  intro BK210 BK211 BK220 BK228 HB
  refine start_ (n := 9) (S := fun w' => w'.cell? ⟨gb211, 0, none⟩ = some (.int .i64 a1_0) ∧ w'.cell? ⟨gb211, 1, none⟩ = some (.int .i64 a1_1) ∧ w'.cell? ⟨gb220, 0, none⟩ = some (.int .i64 t218) ∧ w'.cell? ⟨gb220, 1, none⟩ = some (.int .i64 t219)) (ds := []) #[false, false, false, false, false, false, false, false, false] kk rfl rfl ⟨bc BK211 0, bc BK211 1, bc BK220 0, bc BK220 1⟩ (fun hHeld => ?_); refine with_tabW L2_CongrLattice.tab7 L2_CongrLattice.bits7 (fun HT_ HW_ => ?_)
  generalize w44.drew = w45 at BK210 BK211 BK220 BK228 HB hHeld ⊢
  refine take_ (i := 0) (N := some 60) (v := ?_) (a' := ?_) #[true, false, false, false, false, false, false, false, false] rfl rfl (take_ofW HT_.out HW_.out kk) (fun _ _ _ h => h) (Or.inl ⟨by rfl, ?_⟩) hHeld ?_ ?_
  rotate_left
  ·rintro w' ⟨s0, s1, s2, s3⟩
   go_simp
   with_reducible rfl
  rotate_left
  ·simp only [Act.put, List.setIfInBounds_toArray, List.set_cons_zero, List.set_cons_succ, i64_w, i32_w]
   rfl
  refine take_ (i := 2) (N := some 62) (v := ?_) (a' := ?_) #[true, false, true, false, false, false, false, false, false] rfl rfl (take_ofW HT_.out HW_.out kk) (fun _ _ _ h => h) (Or.inl ⟨by rfl, ?_⟩) hHeld ?_ ?_
  rotate_left
  ·rintro w' ⟨s0, s1, s2, s3⟩
   go_simp
   with_reducible rfl
  rotate_left
  ·simp only [Act.put, List.setIfInBounds_toArray, List.set_cons_zero, List.set_cons_succ, i64_w, i32_w]
   rfl
  refine one_ (i := 1) (N := some 61) #[true, true, true, false, false, false, false, false, false] rfl rfl (one_of HT_.out kk) (by decide) (fun K hK => ?_)
  refine goes_ Tryd.func41 kk rfl #[.agg #[.int .i64 a1_0, .int .i64 a1_1]] (by rfl) rfl rfl (by (try simp only [List.map_toArray, List.map_cons, List.map_nil]); first | done | rfl | (simp only [List.length_drop, List.length_take]; rfl)) ?_
  with_reducible refine (L2_own.calls a1_0 a1_1 t232 t233 _ A23.out).mono ?_
  rintro e w46 ⟨rfl, hb⟩
  refine ⟨_, rfl, ?_⟩
  have n0_ := bb BK210 hb
  have n1_ := bb BK211 hb
  have n2_ := bb BK220 hb
  have n3_ := bb BK228 hb
  have n4_ := am (below_step pw hb)
  clear BK210 BK211 BK220 BK228 HB
  revert n0_ n1_ n2_ n3_ n4_
  intro BK210 BK211 BK220 BK228 HB
  (try clear hb)
  (try clear hb2)
  (try clear hk)
  (try clear hi)
  refine hK.out _ _ ⟨bc BK211 0, bc BK211 1, bc BK220 0, bc BK220 1⟩ (fun hHeld => ?_)
  clear hK K
  refine norm_ (a' := ?_) ?_ ?_
  rotate_left
  ·show Act.put _ (some 61) _ = _
   simp only [Act.put, List.setIfInBounds_toArray, List.set_cons_zero, List.set_cons_succ, i64_w, i32_w]
   rfl
  refine one_ (i := 3) (N := some 63) #[true, true, true, true, false, false, false, false, false] rfl rfl (one_of HT_.out kk) (by decide) (fun K hK => ?_)
  refine goes_ Tryd.func42 kk rfl #[.agg #[.int .i64 t232, .int .i64 t233], .agg #[.int .i64 t218, .int .i64 t219]] (by rfl) rfl rfl (by (try simp only [List.map_toArray, List.map_cons, List.map_nil]); first | done | rfl | (simp only [List.length_drop, List.length_take]; rfl)) ?_
  with_reducible refine (congr_Within_ok.calls kj3 t232 t233 t218 t219 t234 _ A24.out (am (ErrAt.below hE2.out pw)).out (am (ErrAt.below hE3.out pw)).out).mono ?_
  rintro e w47 ⟨rfl, hb⟩
  refine ⟨_, rfl, ?_⟩
  have n0_ := bb BK210 hb
  have n1_ := bb BK211 hb
  have n2_ := bb BK220 hb
  have n3_ := bb BK228 hb
  have n4_ := am (below_step pw hb)
  clear BK210 BK211 BK220 BK228 HB
  revert n0_ n1_ n2_ n3_ n4_
  intro BK210 BK211 BK220 BK228 HB
  (try clear hb)
  (try clear hb2)
  (try clear hk)
  (try clear hi)
  refine hK.out _ _ ⟨bc BK211 0, bc BK211 1, bc BK220 0, bc BK220 1⟩ (fun hHeld => ?_)
  clear hK K
  refine norm_ (a' := ?_) ?_ ?_
  rotate_left
  ·show Act.put _ (some 63) _ = _
   simp only [Act.put, List.setIfInBounds_toArray, List.set_cons_zero, List.set_cons_succ, i64_w, i32_w]
   rfl
  refine pure_ (i := 4) (N := some 59) (v := ?_) (a' := ?_) #[true, true, true, true, true, false, false, false, false] rfl rfl (any_of HT_.out kk) (fun _ _ _ h => h) (Or.inl ⟨by rfl, ?_⟩) ?_ ?_
  rotate_left
  ·intro w'
   go_simp
   with_reducible rfl
  rotate_left
  ·simp only [Act.put, List.setIfInBounds_toArray, List.set_cons_zero, List.set_cons_succ, i64_w, i32_w]
   rfl
  refine pure_ (i := 5) (N := some 64) (v := ?_) (a' := ?_) #[true, true, true, true, true, true, false, false, false] rfl rfl (any_of HT_.out kk) (fun _ _ _ h => h) (Or.inl ⟨by rfl, ?_⟩) ?_ ?_
  rotate_left
  ·intro w'
   go_simp
   with_reducible rfl
  rotate_left
  ·simp only [Act.put, List.setIfInBounds_toArray, List.set_cons_zero, List.set_cons_succ, i64_w, i32_w]
   rfl
  refine pure_ (i := 6) (N := some 65) (v := ?_) (a' := ?_) #[true, true, true, true, true, true, true, false, false] rfl rfl (any_of HT_.out kk) (fun _ _ _ h => h) (Or.inl ⟨by rfl, ?_⟩) ?_ ?_
  rotate_left
  ·intro w'
   go_simp
   with_reducible rfl
  rotate_left
  ·simp only [Act.put, List.setIfInBounds_toArray, List.set_cons_zero, List.set_cons_succ, i64_w, i32_w]
   rfl
  refine pure_ (i := 7) (N := some 13) (v := ?_) (a' := ?_) #[true, true, true, true, true, true, true, true, false] rfl rfl (any_of HT_.out kk) (fun _ _ _ h => h) (Or.inl ⟨by rfl, ?_⟩) ?_ ?_
  rotate_left
  ·intro w'
   go_simp
   with_reducible rfl
  rotate_left
  ·simp only [Act.put, List.setIfInBounds_toArray, List.set_cons_zero, List.set_cons_succ, i64_w, i32_w]
   rfl
  refine pure_ (i := 8) (N := some 14) (v := ?_) (a' := ?_) #[true, true, true, true, true, true, true, true, true] rfl rfl (any_of HT_.out kk) (fun _ _ _ h => h) (Or.inl ⟨by rfl, ?_⟩) ?_ ?_
  rotate_left
  ·intro w'
   go_simp
   with_reducible rfl
  rotate_left
  ·simp only [Act.put, List.setIfInBounds_toArray, List.set_cons_zero, List.set_cons_succ, i64_w, i32_w]
   rfl
  refine done_ (done_of HT_.out kk) ?_
  go_upto_region 8 with (fail)
  go_cut [87] (fun v87 wc => ∃ (kq : Nat) (x87_24 : Bool), v87 = .bool x87_24 ∧ Aside0 (L2_CongrLattice.j1 kq t227 x87_24 a0_0 a0_1 a1_0 a1_1 t225 t226 = some r) ∧ Aside0 (kq ≤ kj3) ∧ Aside0 (wc.heap[gb210]? = some (.cells #[.int .i64 a0_0, .int .i64 a0_1] 69 (0, 0))) ∧ Aside0 (wc.heap[gb211]? = some (.cells #[.int .i64 a1_0, .int .i64 a1_1] 69 (0, 0))) ∧ Aside0 (wc.heap[gb220]? = some (.cells #[.int .i64 t218, .int .i64 t219] 24 (0, 0))) ∧ Aside0 (wc.heap[gb228]? = some (.cells #[.int .i64 t225, .int .i64 t226] 24 (0, 0))) ∧ Aside0 (Below w.heap.size w wc))
  case first =>
   have H := HC25.out
   clear HC25
   by_cases c48 : t231 = true
   ·subst c48
    have H1 : (L2_CongrLattice.j1 kj3 t227 (!t234) a0_0 a0_1 a1_0 a1_1 t225 t226) = some r := by rw [if_pos rfl] at H; exact H
    clear H
    have H := H1
    clear H1
    have H' := am H
    clear H
    go_wp2
    go_meet
    case rel => exact ⟨_, (!t234), pr, H', ⟨by have := HJ3.out; first | omega | exact Nat.le_refl _⟩, ⟨by (with_reducible repeat (first | refine blk_drewN ?_ _ | refine blk_drew ?_ | refine blk_alloc ?_ _)); exact BK210.out⟩, ⟨by (with_reducible repeat (first | refine blk_drewN ?_ _ | refine blk_drew ?_ | refine blk_alloc ?_ _)); exact BK211.out⟩, ⟨by (with_reducible repeat (first | refine blk_drewN ?_ _ | refine blk_drew ?_ | refine blk_alloc ?_ _)); exact BK220.out⟩, ⟨by (with_reducible repeat (first | refine blk_drewN ?_ _ | refine blk_drew ?_ | refine blk_alloc ?_ _)); exact BK228.out⟩, ⟨pw⟩⟩
   replace c48 := Bool.eq_false_iff.mpr c48
   subst c48
   have H1 : (L2_CongrLattice.j1 kj3 t227 true a0_0 a0_1 a1_0 a1_1 t225 t226) = some r := by rw [if_neg (show ¬ (false = true) by decide)] at H; exact H
   clear H
   have H := H1
   clear H1
   have H' := am H
   clear H
   go_wp2
   go_meet
   case rel => exact ⟨_, (true), pr, H', ⟨by have := HJ3.out; first | omega | exact Nat.le_refl _⟩, ⟨by (with_reducible repeat (first | refine blk_drewN ?_ _ | refine blk_drew ?_ | refine blk_alloc ?_ _)); exact BK210.out⟩, ⟨by (with_reducible repeat (first | refine blk_drewN ?_ _ | refine blk_drew ?_ | refine blk_alloc ?_ _)); exact BK211.out⟩, ⟨by (with_reducible repeat (first | refine blk_drewN ?_ _ | refine blk_drew ?_ | refine blk_alloc ?_ _)); exact BK220.out⟩, ⟨by (with_reducible repeat (first | refine blk_drewN ?_ _ | refine blk_drew ?_ | refine blk_alloc ?_ _)); exact BK228.out⟩, ⟨pw⟩⟩
  clear HC25
  try clear c1
  try clear p2
  try clear c4
  try clear c18
  try clear c41
  try clear c42
  try clear c48
  obtain ⟨kq, x87_24, rfl, HA, HJ24, BK210, BK211, BK220, BK228, HB⟩ := hcut
  cases kq with
  | zero => exact absurd HA.out (by simp [L2_CongrLattice.j1])
  | succ kj24 =>
   have H := HA.out
   clear HA
   simp only [L2_CongrLattice.j1] at H
   by_cases c49 : x87_24 = true
   ·subst c49
    have H1 : (none) = some r := by rw [if_pos rfl] at H; exact H
    clear H
    have H := H1
    clear H1
    exact absurd H (by simp)
   replace c49 := Bool.eq_false_iff.mpr c49
   subst c49
   have H1 : (if t227 = true then ((L2_own.f a0_0 a0_1).bind fun bt235 => ((congr_Within_ok.f kj24 t225 t226 bt235.1 bt235.2).bind fun t237 => (if t237 = true then ((L2_own.f a1_0 a1_1).bind fun bt238 => ((congr_Within_ok.f kj24 t225 t226 bt238.1 bt238.2).bind fun t240 => (if t240 = true then (L2_CongrLattice.j2 kj24 a0_0 a0_1 a1_0 a1_1) else ((L2_own.f a0_0 a0_1).bind fun bt241 => (if (!(t225 == bt241.1) || (!(t226 == bt241.2))) = true then (none) else (L2_CongrLattice.j2 kj24 a0_0 a0_1 a1_0 a1_1)))))) else (none)))) else (L2_CongrLattice.j2 kj24 a0_0 a0_1 a1_0 a1_1)) = some r := by rw [if_neg (show ¬ (false = true) by decide)] at H; exact H
   clear H
   have H := H1
   clear H1
   have HC50 := am H
   clear H
   go_upto_if 88 with (fail)
   go_cut [] (fun wc => ∃ (kq : Nat), Aside0 (L2_CongrLattice.j2 kq a0_0 a0_1 a1_0 a1_1 = some r) ∧ Aside0 (kq ≤ kj24) ∧ Aside0 (wc.heap[gb210]? = some (.cells #[.int .i64 a0_0, .int .i64 a0_1] 69 (0, 0))) ∧ Aside0 (wc.heap[gb211]? = some (.cells #[.int .i64 a1_0, .int .i64 a1_1] 69 (0, 0))) ∧ Aside0 (wc.heap[gb220]? = some (.cells #[.int .i64 t218, .int .i64 t219] 24 (0, 0))) ∧ Aside0 (wc.heap[gb228]? = some (.cells #[.int .i64 t225, .int .i64 t226] 24 (0, 0))) ∧ Aside0 (Below w.heap.size w wc))
   case first =>
    have H := HC50.out
    clear HC50
    by_cases c51 : t227 = true
    ·subst c51
     have H1 : ((L2_own.f a0_0 a0_1).bind fun bt235 => ((congr_Within_ok.f kj24 t225 t226 bt235.1 bt235.2).bind fun t237 => (if t237 = true then ((L2_own.f a1_0 a1_1).bind fun bt238 => ((congr_Within_ok.f kj24 t225 t226 bt238.1 bt238.2).bind fun t240 => (if t240 = true then (L2_CongrLattice.j2 kj24 a0_0 a0_1 a1_0 a1_1) else ((L2_own.f a0_0 a0_1).bind fun bt241 => (if (!(t225 == bt241.1) || (!(t226 == bt241.2))) = true then (none) else (L2_CongrLattice.j2 kj24 a0_0 a0_1 a1_0 a1_1)))))) else (none)))) = some r := by rw [if_pos rfl] at H; exact H
     clear H
     have H := H1
     clear H1
     replace H := Option.bind_eq_some_iff.mp H
     obtain ⟨⟨t235, t236⟩, A520, H⟩ := H
     replace H : ((congr_Within_ok.f kj24 t225 t226 t235 t236).bind fun t237 => (if t237 = true then ((L2_own.f a1_0 a1_1).bind fun bt238 => ((congr_Within_ok.f kj24 t225 t226 bt238.1 bt238.2).bind fun t240 => (if t240 = true then (L2_CongrLattice.j2 kj24 a0_0 a0_1 a1_0 a1_1) else ((L2_own.f a0_0 a0_1).bind fun bt241 => (if (!(t225 == bt241.1) || (!(t226 == bt241.2))) = true then (none) else (L2_CongrLattice.j2 kj24 a0_0 a0_1 a1_0 a1_1)))))) else (none))) = some r := H
     have A52 := am A520
     clear A520
     replace H := Option.bind_eq_some_iff.mp H
     obtain ⟨t237, A530, H⟩ := H
     replace H : (if t237 = true then ((L2_own.f a1_0 a1_1).bind fun bt238 => ((congr_Within_ok.f kj24 t225 t226 bt238.1 bt238.2).bind fun t240 => (if t240 = true then (L2_CongrLattice.j2 kj24 a0_0 a0_1 a1_0 a1_1) else ((L2_own.f a0_0 a0_1).bind fun bt241 => (if (!(t225 == bt241.1) || (!(t226 == bt241.2))) = true then (none) else (L2_CongrLattice.j2 kj24 a0_0 a0_1 a1_0 a1_1)))))) else (none)) = some r := H
     have A53 := am A530
     clear A530
     by_cases c54 : t237 = true
     ·subst c54
      have H1 : ((L2_own.f a1_0 a1_1).bind fun bt238 => ((congr_Within_ok.f kj24 t225 t226 bt238.1 bt238.2).bind fun t240 => (if t240 = true then (L2_CongrLattice.j2 kj24 a0_0 a0_1 a1_0 a1_1) else ((L2_own.f a0_0 a0_1).bind fun bt241 => (if (!(t225 == bt241.1) || (!(t226 == bt241.2))) = true then (none) else (L2_CongrLattice.j2 kj24 a0_0 a0_1 a1_0 a1_1)))))) = some r := by rw [if_pos rfl] at H; exact H
      clear H
      have H := H1
      clear H1
      replace H := Option.bind_eq_some_iff.mp H
      obtain ⟨⟨t238, t239⟩, A550, H⟩ := H
      replace H : ((congr_Within_ok.f kj24 t225 t226 t238 t239).bind fun t240 => (if t240 = true then (L2_CongrLattice.j2 kj24 a0_0 a0_1 a1_0 a1_1) else ((L2_own.f a0_0 a0_1).bind fun bt241 => (if (!(t225 == bt241.1) || (!(t226 == bt241.2))) = true then (none) else (L2_CongrLattice.j2 kj24 a0_0 a0_1 a1_0 a1_1))))) = some r := H
      have A55 := am A550
      clear A550
      replace H := Option.bind_eq_some_iff.mp H
      obtain ⟨t240, A560, H⟩ := H
      replace H : (if t240 = true then (L2_CongrLattice.j2 kj24 a0_0 a0_1 a1_0 a1_1) else ((L2_own.f a0_0 a0_1).bind fun bt241 => (if (!(t225 == bt241.1) || (!(t226 == bt241.2))) = true then (none) else (L2_CongrLattice.j2 kj24 a0_0 a0_1 a1_0 a1_1)))) = some r := H
      have A56 := am A560
      clear A560
      by_cases c57 : t240 = true
      ·subst c57
       have H1 : (L2_CongrLattice.j2 kj24 a0_0 a0_1 a1_0 a1_1) = some r := by rw [if_pos rfl] at H; exact H
       clear H
       have H := H1
       clear H1
       have H' := am H
       clear H
       try go_wp2
       have n0_ := am (blk_drew BK210.out)
       have n1_ := am (blk_drew BK211.out)
       have n2_ := am (blk_drew BK220.out)
       have n3_ := am (blk_drew BK228.out)
       have n4_ := am (below_drew1 HB.out)
       clear BK210 BK211 BK220 BK228 HB
       revert n0_ n1_ n2_ n3_ n4_
       intro BK210 BK211 BK220 BK228 HB
       refine start_ (n := 9) (S := fun w' => w'.cell? ⟨gb228, 0, none⟩ = some (.int .i64 t225) ∧ w'.cell? ⟨gb228, 1, none⟩ = some (.int .i64 t226) ∧ w'.cell? ⟨gb210, 0, none⟩ = some (.int .i64 a0_0) ∧ w'.cell? ⟨gb210, 1, none⟩ = some (.int .i64 a0_1)) (ds := []) #[false, false, false, false, false, false, false, false, false] kk rfl rfl ⟨bc BK228 0, bc BK228 1, bc BK210 0, bc BK210 1⟩ (fun hHeld => ?_); refine with_tabW L2_CongrLattice.tab11 L2_CongrLattice.bits11 (fun HT_ HW_ => ?_)
       generalize wc.drew = w58 at BK210 BK211 BK220 BK228 HB hHeld ⊢
       refine take_ (i := 0) (N := some 90) (v := ?_) (a' := ?_) #[true, false, false, false, false, false, false, false, false] rfl rfl (take_ofW HT_.out HW_.out kk) (fun _ _ _ h => h) (Or.inl ⟨by rfl, ?_⟩) hHeld ?_ ?_
       rotate_left
       ·rintro w' ⟨s0, s1, s2, s3⟩
        go_simp
        with_reducible rfl
       rotate_left
       ·simp only [Act.put, List.setIfInBounds_toArray, List.set_cons_zero, List.set_cons_succ, i64_w, i32_w]
        rfl
       refine take_ (i := 1) (N := some 91) (v := ?_) (a' := ?_) #[true, true, false, false, false, false, false, false, false] rfl rfl (take_ofW HT_.out HW_.out kk) (fun _ _ _ h => h) (Or.inl ⟨by rfl, ?_⟩) hHeld ?_ ?_
       rotate_left
       ·rintro w' ⟨s0, s1, s2, s3⟩
        go_simp
        with_reducible rfl
       rotate_left
       ·simp only [Act.put, List.setIfInBounds_toArray, List.set_cons_zero, List.set_cons_succ, i64_w, i32_w]
        rfl
       refine one_ (i := 2) (N := some 92) #[true, true, true, false, false, false, false, false, false] rfl rfl (one_of HT_.out kk) (by decide) (fun K hK => ?_)
       refine goes_ Tryd.func41 kk rfl #[.agg #[.int .i64 a0_0, .int .i64 a0_1]] (by rfl) rfl rfl (by (try simp only [List.map_toArray, List.map_cons, List.map_nil]); first | done | rfl | (simp only [List.length_drop, List.length_take]; rfl)) ?_
       with_reducible refine (L2_own.calls a0_0 a0_1 t235 t236 _ A52.out).mono ?_
       rintro e w59 ⟨rfl, hb⟩
       refine ⟨_, rfl, ?_⟩
       have n0_ := bb BK210 hb
       have n1_ := bb BK211 hb
       have n2_ := bb BK220 hb
       have n3_ := bb BK228 hb
       have n4_ := am (below_step pw hb)
       clear BK210 BK211 BK220 BK228 HB
       revert n0_ n1_ n2_ n3_ n4_
       intro BK210 BK211 BK220 BK228 HB
       (try clear hb)
       (try clear hb2)
       (try clear hk)
       (try clear hi)
       refine hK.out _ _ ⟨bc BK228 0, bc BK228 1, bc BK210 0, bc BK210 1⟩ (fun hHeld => ?_)
       clear hK K
       refine norm_ (a' := ?_) ?_ ?_
       rotate_left
       ·show Act.put _ (some 92) _ = _
        simp only [Act.put, List.setIfInBounds_toArray, List.set_cons_zero, List.set_cons_succ, i64_w, i32_w]
        rfl
       refine one_ (i := 3) (N := some 93) #[true, true, true, true, false, false, false, false, false] rfl rfl (one_of HT_.out kk) (by decide) (fun K hK => ?_)
       refine goes_ Tryd.func42 kk rfl #[.agg #[.int .i64 t225, .int .i64 t226], .agg #[.int .i64 t235, .int .i64 t236]] (by rfl) rfl rfl (by (try simp only [List.map_toArray, List.map_cons, List.map_nil]); first | done | rfl | (simp only [List.length_drop, List.length_take]; rfl)) ?_
       with_reducible refine (congr_Within_ok.calls kj24 t225 t226 t235 t236 true _ A53.out (am (ErrAt.below hE2.out pw)).out (am (ErrAt.below hE3.out pw)).out).mono ?_
       rintro e w60 ⟨rfl, hb⟩
       refine ⟨_, rfl, ?_⟩
       have n0_ := bb BK210 hb
       have n1_ := bb BK211 hb
       have n2_ := bb BK220 hb
       have n3_ := bb BK228 hb
       have n4_ := am (below_step pw hb)
       clear BK210 BK211 BK220 BK228 HB
       revert n0_ n1_ n2_ n3_ n4_
       intro BK210 BK211 BK220 BK228 HB
       (try clear hb)
       (try clear hb2)
       (try clear hk)
       (try clear hi)
       refine hK.out _ _ ⟨bc BK228 0, bc BK228 1, bc BK210 0, bc BK210 1⟩ (fun hHeld => ?_)
       clear hK K
       refine norm_ (a' := ?_) ?_ ?_
       rotate_left
       ·show Act.put _ (some 93) _ = _
        simp only [Act.put, List.setIfInBounds_toArray, List.set_cons_zero, List.set_cons_succ, i64_w, i32_w]
        rfl
       refine pure_ (i := 4) (N := some 89) (v := ?_) (a' := ?_) #[true, true, true, true, true, false, false, false, false] rfl rfl (any_of HT_.out kk) (fun _ _ _ h => h) (Or.inl ⟨by rfl, ?_⟩) ?_ ?_
       rotate_left
       ·intro w'
        go_simp
        with_reducible rfl
       rotate_left
       ·simp only [Act.put, List.setIfInBounds_toArray, List.set_cons_zero, List.set_cons_succ, i64_w, i32_w]
        rfl
       refine pure_ (i := 5) (N := some 94) (v := ?_) (a' := ?_) #[true, true, true, true, true, true, false, false, false] rfl rfl (any_of HT_.out kk) (fun _ _ _ h => h) (Or.inl ⟨by rfl, ?_⟩) ?_ ?_
       rotate_left
       ·intro w'
        go_simp
        with_reducible rfl
       rotate_left
       ·simp only [Act.put, List.setIfInBounds_toArray, List.set_cons_zero, List.set_cons_succ, i64_w, i32_w]
        rfl
       refine pure_ (i := 6) (N := some 95) (v := ?_) (a' := ?_) #[true, true, true, true, true, true, true, false, false] rfl rfl (any_of HT_.out kk) (fun _ _ _ h => h) (Or.inl ⟨by rfl, ?_⟩) ?_ ?_
       rotate_left
       ·intro w'
        go_simp
        with_reducible rfl
       rotate_left
       ·simp only [Act.put, List.setIfInBounds_toArray, List.set_cons_zero, List.set_cons_succ, i64_w, i32_w]
        rfl
       refine pure_ (i := 7) (N := some 15) (v := ?_) (a' := ?_) #[true, true, true, true, true, true, true, true, false] rfl rfl (any_of HT_.out kk) (fun _ _ _ h => h) (Or.inl ⟨by rfl, ?_⟩) ?_ ?_
       rotate_left
       ·intro w'
        go_simp
        with_reducible rfl
       rotate_left
       ·simp only [Act.put, List.setIfInBounds_toArray, List.set_cons_zero, List.set_cons_succ, i64_w, i32_w]
        rfl
       refine pure_ (i := 8) (N := some 16) (v := ?_) (a' := ?_) #[true, true, true, true, true, true, true, true, true] rfl rfl (any_of HT_.out kk) (fun _ _ _ h => h) (Or.inl ⟨by rfl, ?_⟩) ?_ ?_
       rotate_left
       ·intro w'
        go_simp
        with_reducible rfl
       rotate_left
       ·simp only [Act.put, List.setIfInBounds_toArray, List.set_cons_zero, List.set_cons_succ, i64_w, i32_w]
        rfl
       refine done_ (done_of HT_.out kk) ?_
       try go_wp2
       have n0_ := am (blk_drew BK210.out)
       have n1_ := am (blk_drew BK211.out)
       have n2_ := am (blk_drew BK220.out)
       have n3_ := am (blk_drew BK228.out)
       have n4_ := am (below_drew1 HB.out)
       clear BK210 BK211 BK220 BK228 HB
       revert n0_ n1_ n2_ n3_ n4_
       intro BK210 BK211 BK220 BK228 HB
       refine start_ (n := 9) (S := fun w' => w'.cell? ⟨gb228, 0, none⟩ = some (.int .i64 t225) ∧ w'.cell? ⟨gb228, 1, none⟩ = some (.int .i64 t226) ∧ w'.cell? ⟨gb211, 0, none⟩ = some (.int .i64 a1_0) ∧ w'.cell? ⟨gb211, 1, none⟩ = some (.int .i64 a1_1)) (ds := []) #[false, false, false, false, false, false, false, false, false] kk rfl rfl ⟨bc BK228 0, bc BK228 1, bc BK211 0, bc BK211 1⟩ (fun hHeld => ?_); refine with_tabW L2_CongrLattice.tab14 L2_CongrLattice.bits14 (fun HT_ HW_ => ?_)
       generalize w60.drew = w61 at BK210 BK211 BK220 BK228 HB hHeld ⊢
       refine take_ (i := 0) (N := some 103) (v := ?_) (a' := ?_) #[true, false, false, false, false, false, false, false, false] rfl rfl (take_ofW HT_.out HW_.out kk) (fun _ _ _ h => h) (Or.inl ⟨by rfl, ?_⟩) hHeld ?_ ?_
       rotate_left
       ·rintro w' ⟨s0, s1, s2, s3⟩
        go_simp
        with_reducible rfl
       rotate_left
       ·simp only [Act.put, List.setIfInBounds_toArray, List.set_cons_zero, List.set_cons_succ, i64_w, i32_w]
        rfl
       refine take_ (i := 1) (N := some 104) (v := ?_) (a' := ?_) #[true, true, false, false, false, false, false, false, false] rfl rfl (take_ofW HT_.out HW_.out kk) (fun _ _ _ h => h) (Or.inl ⟨by rfl, ?_⟩) hHeld ?_ ?_
       rotate_left
       ·rintro w' ⟨s0, s1, s2, s3⟩
        go_simp
        with_reducible rfl
       rotate_left
       ·simp only [Act.put, List.setIfInBounds_toArray, List.set_cons_zero, List.set_cons_succ, i64_w, i32_w]
        rfl
       refine one_ (i := 2) (N := some 105) #[true, true, true, false, false, false, false, false, false] rfl rfl (one_of HT_.out kk) (by decide) (fun K hK => ?_)
       refine goes_ Tryd.func41 kk rfl #[.agg #[.int .i64 a1_0, .int .i64 a1_1]] (by rfl) rfl rfl (by (try simp only [List.map_toArray, List.map_cons, List.map_nil]); first | done | rfl | (simp only [List.length_drop, List.length_take]; rfl)) ?_
       with_reducible refine (L2_own.calls a1_0 a1_1 t238 t239 _ A55.out).mono ?_
       rintro e w62 ⟨rfl, hb⟩
       refine ⟨_, rfl, ?_⟩
       have n0_ := bb BK210 hb
       have n1_ := bb BK211 hb
       have n2_ := bb BK220 hb
       have n3_ := bb BK228 hb
       have n4_ := am (below_step pw hb)
       clear BK210 BK211 BK220 BK228 HB
       revert n0_ n1_ n2_ n3_ n4_
       intro BK210 BK211 BK220 BK228 HB
       (try clear hb)
       (try clear hb2)
       (try clear hk)
       (try clear hi)
       refine hK.out _ _ ⟨bc BK228 0, bc BK228 1, bc BK211 0, bc BK211 1⟩ (fun hHeld => ?_)
       clear hK K
       refine norm_ (a' := ?_) ?_ ?_
       rotate_left
       ·show Act.put _ (some 105) _ = _
        simp only [Act.put, List.setIfInBounds_toArray, List.set_cons_zero, List.set_cons_succ, i64_w, i32_w]
        rfl
       refine one_ (i := 3) (N := some 106) #[true, true, true, true, false, false, false, false, false] rfl rfl (one_of HT_.out kk) (by decide) (fun K hK => ?_)
       refine goes_ Tryd.func42 kk rfl #[.agg #[.int .i64 t225, .int .i64 t226], .agg #[.int .i64 t238, .int .i64 t239]] (by rfl) rfl rfl (by (try simp only [List.map_toArray, List.map_cons, List.map_nil]); first | done | rfl | (simp only [List.length_drop, List.length_take]; rfl)) ?_
       with_reducible refine (congr_Within_ok.calls kj24 t225 t226 t238 t239 true _ A56.out (am (ErrAt.below hE2.out pw)).out (am (ErrAt.below hE3.out pw)).out).mono ?_
       rintro e w63 ⟨rfl, hb⟩
       refine ⟨_, rfl, ?_⟩
       have n0_ := bb BK210 hb
       have n1_ := bb BK211 hb
       have n2_ := bb BK220 hb
       have n3_ := bb BK228 hb
       have n4_ := am (below_step pw hb)
       clear BK210 BK211 BK220 BK228 HB
       revert n0_ n1_ n2_ n3_ n4_
       intro BK210 BK211 BK220 BK228 HB
       (try clear hb)
       (try clear hb2)
       (try clear hk)
       (try clear hi)
       refine hK.out _ _ ⟨bc BK228 0, bc BK228 1, bc BK211 0, bc BK211 1⟩ (fun hHeld => ?_)
       clear hK K
       refine norm_ (a' := ?_) ?_ ?_
       rotate_left
       ·show Act.put _ (some 106) _ = _
        simp only [Act.put, List.setIfInBounds_toArray, List.set_cons_zero, List.set_cons_succ, i64_w, i32_w]
        rfl
       refine pure_ (i := 4) (N := some 102) (v := ?_) (a' := ?_) #[true, true, true, true, true, false, false, false, false] rfl rfl (any_of HT_.out kk) (fun _ _ _ h => h) (Or.inl ⟨by rfl, ?_⟩) ?_ ?_
       rotate_left
       ·intro w'
        go_simp
        with_reducible rfl
       rotate_left
       ·simp only [Act.put, List.setIfInBounds_toArray, List.set_cons_zero, List.set_cons_succ, i64_w, i32_w]
        rfl
       refine pure_ (i := 5) (N := some 107) (v := ?_) (a' := ?_) #[true, true, true, true, true, true, false, false, false] rfl rfl (any_of HT_.out kk) (fun _ _ _ h => h) (Or.inl ⟨by rfl, ?_⟩) ?_ ?_
       rotate_left
       ·intro w'
        go_simp
        with_reducible rfl
       rotate_left
       ·simp only [Act.put, List.setIfInBounds_toArray, List.set_cons_zero, List.set_cons_succ, i64_w, i32_w]
        rfl
       refine pure_ (i := 6) (N := some 108) (v := ?_) (a' := ?_) #[true, true, true, true, true, true, true, false, false] rfl rfl (any_of HT_.out kk) (fun _ _ _ h => h) (Or.inl ⟨by rfl, ?_⟩) ?_ ?_
       rotate_left
       ·intro w'
        go_simp
        with_reducible rfl
       rotate_left
       ·simp only [Act.put, List.setIfInBounds_toArray, List.set_cons_zero, List.set_cons_succ, i64_w, i32_w]
        rfl
       refine pure_ (i := 7) (N := some 17) (v := ?_) (a' := ?_) #[true, true, true, true, true, true, true, true, false] rfl rfl (any_of HT_.out kk) (fun _ _ _ h => h) (Or.inl ⟨by rfl, ?_⟩) ?_ ?_
       rotate_left
       ·intro w'
        go_simp
        with_reducible rfl
       rotate_left
       ·simp only [Act.put, List.setIfInBounds_toArray, List.set_cons_zero, List.set_cons_succ, i64_w, i32_w]
        rfl
       refine pure_ (i := 8) (N := some 18) (v := ?_) (a' := ?_) #[true, true, true, true, true, true, true, true, true] rfl rfl (any_of HT_.out kk) (fun _ _ _ h => h) (Or.inl ⟨by rfl, ?_⟩) ?_ ?_
       rotate_left
       ·intro w'
        go_simp
        with_reducible rfl
       rotate_left
       ·simp only [Act.put, List.setIfInBounds_toArray, List.set_cons_zero, List.set_cons_succ, i64_w, i32_w]
        rfl
       refine done_ (done_of HT_.out kk) ?_
       try go_wp2
       have n0_ := am (blk_drew BK210.out)
       have n1_ := am (blk_drew BK211.out)
       have n2_ := am (blk_drew BK220.out)
       have n3_ := am (blk_drew BK228.out)
       have n4_ := am (below_drew1 HB.out)
       clear BK210 BK211 BK220 BK228 HB
       revert n0_ n1_ n2_ n3_ n4_
       intro BK210 BK211 BK220 BK228 HB
       refine start_ (n := 12) (S := fun w' => True) (ds := []) #[false, false, false, false, false, false, false, false, false, false, false, false] kk rfl rfl trivial (fun hHeld => ?_); refine with_tabW L2_CongrLattice.tab15 L2_CongrLattice.bits15 (fun HT_ HW_ => ?_)
       generalize w63.drew = w64 at BK210 BK211 BK220 BK228 HB hHeld ⊢
       refine pure_ (i := 0) (N := some 109) (v := ?_) (a' := ?_) #[true, false, false, false, false, false, false, false, false, false, false, false] rfl rfl (any_of HT_.out kk) (fun _ _ _ h => h) (Or.inl ⟨by rfl, ?_⟩) ?_ ?_
       rotate_left
       ·intro w'
        go_simp
        with_reducible rfl
       rotate_left
       ·simp only [Act.put, List.setIfInBounds_toArray, List.set_cons_zero, List.set_cons_succ, i64_w, i32_w]
        rfl
       refine pure_ (i := 1) (N := some 110) (v := ?_) (a' := ?_) #[true, true, false, false, false, false, false, false, false, false, false, false] rfl rfl (any_of HT_.out kk) (fun _ _ _ h => h) (Or.inl ⟨by rfl, ?_⟩) ?_ ?_
       rotate_left
       ·intro w'
        go_simp
        with_reducible rfl
       rotate_left
       ·simp only [Act.put, List.setIfInBounds_toArray, List.set_cons_zero, List.set_cons_succ, i64_w, i32_w]
        rfl
       refine pure_ (i := 2) (N := some 111) (v := ?_) (a' := ?_) #[true, true, true, false, false, false, false, false, false, false, false, false] rfl rfl (any_of HT_.out kk) (fun _ _ _ h => h) (Or.inl ⟨by rfl, ?_⟩) ?_ ?_
       rotate_left
       ·intro w'
        go_simp
        with_reducible rfl
       rotate_left
       ·simp only [Act.put, List.setIfInBounds_toArray, List.set_cons_zero, List.set_cons_succ, i64_w, i32_w]
        rfl
       refine pure_ (i := 3) (N := some 112) (v := ?_) (a' := ?_) #[true, true, true, true, false, false, false, false, false, false, false, false] rfl rfl (any_of HT_.out kk) (fun _ _ _ h => h) (Or.inl ⟨by rfl, ?_⟩) ?_ ?_
       rotate_left
       ·intro w'
        go_simp
        with_reducible rfl
       rotate_left
       ·simp only [Act.put, List.setIfInBounds_toArray, List.set_cons_zero, List.set_cons_succ, i64_w, i32_w]
        rfl
       refine pure_ (i := 4) (N := some 113) (v := ?_) (a' := ?_) #[true, true, true, true, true, false, false, false, false, false, false, false] rfl rfl (any_of HT_.out kk) (fun _ _ _ h => h) (Or.inl ⟨by rfl, ?_⟩) ?_ ?_
       rotate_left
       ·intro w'
        go_simp
        with_reducible rfl
       rotate_left
       ·simp only [Act.put, List.setIfInBounds_toArray, List.set_cons_zero, List.set_cons_succ, i64_w, i32_w]
        rfl
       refine pure_ (i := 5) (N := some 114) (v := ?_) (a' := ?_) #[true, true, true, true, true, true, false, false, false, false, false, false] rfl rfl (any_of HT_.out kk) (fun _ _ _ h => h) (Or.inl ⟨by rfl, ?_⟩) ?_ ?_
       rotate_left
       ·intro w'
        go_simp
        with_reducible rfl
       rotate_left
       ·simp only [Act.put, List.setIfInBounds_toArray, List.set_cons_zero, List.set_cons_succ, i64_w, i32_w]
        rfl
       refine pure_ (i := 6) (N := some 115) (v := undef) (a' := ?_) #[true, true, true, true, true, true, true, false, false, false, false, false] rfl rfl (any_of HT_.out kk) (fun _ _ _ h => h) (Or.inr ⟨by rfl, rfl⟩) ?_ ?_
       rotate_left
       ·simp only [Act.put, List.setIfInBounds_toArray, List.set_cons_zero, List.set_cons_succ, i64_w, i32_w]
        rfl
       refine pure_ (i := 7) (N := some 116) (v := undef) (a' := ?_) #[true, true, true, true, true, true, true, true, false, false, false, false] rfl rfl (any_of HT_.out kk) (fun _ _ _ h => h) (Or.inr ⟨by rfl, rfl⟩) ?_ ?_
       rotate_left
       ·simp only [Act.put, List.setIfInBounds_toArray, List.set_cons_zero, List.set_cons_succ, i64_w, i32_w]
        rfl
       refine pure_ (i := 8) (N := some 117) (v := undef) (a' := ?_) #[true, true, true, true, true, true, true, true, true, false, false, false] rfl rfl (any_of HT_.out kk) (fun _ _ _ h => h) (Or.inr ⟨by rfl, rfl⟩) ?_ ?_
       rotate_left
       ·simp only [Act.put, List.setIfInBounds_toArray, List.set_cons_zero, List.set_cons_succ, i64_w, i32_w]
        rfl
       refine pure_ (i := 9) (N := some 118) (v := undef) (a' := ?_) #[true, true, true, true, true, true, true, true, true, true, false, false] rfl rfl (any_of HT_.out kk) (fun _ _ _ h => h) (Or.inr ⟨by rfl, rfl⟩) ?_ ?_
       rotate_left
       ·simp only [Act.put, List.setIfInBounds_toArray, List.set_cons_zero, List.set_cons_succ, i64_w, i32_w]
        rfl
       refine pure_ (i := 10) (N := some 119) (v := ?_) (a' := ?_) #[true, true, true, true, true, true, true, true, true, true, true, false] rfl rfl (any_of HT_.out kk) (fun _ _ _ h => h) (Or.inl ⟨by rfl, ?_⟩) ?_ ?_
       rotate_left
       ·intro w'
        go_simp
        with_reducible rfl
       rotate_left
       ·simp only [Act.put, List.setIfInBounds_toArray, List.set_cons_zero, List.set_cons_succ, i64_w, i32_w]
        rfl
       refine pure_ (i := 11) (N := some 120) (v := ?_) (a' := ?_) #[true, true, true, true, true, true, true, true, true, true, true, true] rfl rfl (any_of HT_.out kk) (fun _ _ _ h => h) (Or.inl ⟨by rfl, ?_⟩) ?_ ?_
       rotate_left
       ·intro w'
        go_simp
        with_reducible rfl
       rotate_left
       ·simp only [Act.put, List.setIfInBounds_toArray, List.set_cons_zero, List.set_cons_succ, i64_w, i32_w]
        rfl
       refine done_ (done_of HT_.out kk) ?_
       try go_wp2
       go_meet
       case rel => exact ⟨_, H', ⟨by have := HJ3.out; have := HJ24.out; first | omega | exact Nat.le_refl _⟩, ⟨by (with_reducible repeat (first | refine blk_drewN ?_ _ | refine blk_drew ?_ | refine blk_alloc ?_ _)); exact BK210.out⟩, ⟨by (with_reducible repeat (first | refine blk_drewN ?_ _ | refine blk_drew ?_ | refine blk_alloc ?_ _)); exact BK211.out⟩, ⟨by (with_reducible repeat (first | refine blk_drewN ?_ _ | refine blk_drew ?_ | refine blk_alloc ?_ _)); exact BK220.out⟩, ⟨by (with_reducible repeat (first | refine blk_drewN ?_ _ | refine blk_drew ?_ | refine blk_alloc ?_ _)); exact BK228.out⟩, ⟨pw⟩⟩
      replace c57 := Bool.eq_false_iff.mpr c57
      subst c57
      have H1 : ((L2_own.f a0_0 a0_1).bind fun bt241 => (if (!(t225 == bt241.1) || (!(t226 == bt241.2))) = true then (none) else (L2_CongrLattice.j2 kj24 a0_0 a0_1 a1_0 a1_1))) = some r := by rw [if_neg (show ¬ (false = true) by decide)] at H; exact H
      clear H
      have H := H1
      clear H1
      replace H := Option.bind_eq_some_iff.mp H
      obtain ⟨⟨t241, t242⟩, A650, H⟩ := H
      replace H : (if (!(t225 == t241) || (!(t226 == t242))) = true then (none) else (L2_CongrLattice.j2 kj24 a0_0 a0_1 a1_0 a1_1)) = some r := H
      have A65 := am A650
      clear A650
      by_cases c66 : (!(t225 == t241) || (!(t226 == t242))) = true
      ·rw [if_pos c66] at H
       exact absurd H (by simp)
      rw [if_neg c66] at H
      have c66b0 : (!(t225 == t241) || (!(t226 == t242))) = false := by simpa using c66
      clear c66
      (first | rw [c66b0] | (simp only [i64_w, i32_w]; rw [c66b0]) | skip)
      have H' := am H
      clear H
      try go_wp2
      have n0_ := am (blk_drew BK210.out)
      have n1_ := am (blk_drew BK211.out)
      have n2_ := am (blk_drew BK220.out)
      have n3_ := am (blk_drew BK228.out)
      have n4_ := am (below_drew1 HB.out)
      clear BK210 BK211 BK220 BK228 HB
      revert n0_ n1_ n2_ n3_ n4_
      intro BK210 BK211 BK220 BK228 HB
      refine start_ (n := 9) (S := fun w' => w'.cell? ⟨gb228, 0, none⟩ = some (.int .i64 t225) ∧ w'.cell? ⟨gb228, 1, none⟩ = some (.int .i64 t226) ∧ w'.cell? ⟨gb210, 0, none⟩ = some (.int .i64 a0_0) ∧ w'.cell? ⟨gb210, 1, none⟩ = some (.int .i64 a0_1)) (ds := []) #[false, false, false, false, false, false, false, false, false] kk rfl rfl ⟨bc BK228 0, bc BK228 1, bc BK210 0, bc BK210 1⟩ (fun hHeld => ?_); refine with_tabW L2_CongrLattice.tab11 L2_CongrLattice.bits11 (fun HT_ HW_ => ?_)
      generalize wc.drew = w67 at BK210 BK211 BK220 BK228 HB hHeld ⊢
      refine take_ (i := 0) (N := some 90) (v := ?_) (a' := ?_) #[true, false, false, false, false, false, false, false, false] rfl rfl (take_ofW HT_.out HW_.out kk) (fun _ _ _ h => h) (Or.inl ⟨by rfl, ?_⟩) hHeld ?_ ?_
      rotate_left
      ·rintro w' ⟨s0, s1, s2, s3⟩
       go_simp
       with_reducible rfl
      rotate_left
      ·simp only [Act.put, List.setIfInBounds_toArray, List.set_cons_zero, List.set_cons_succ, i64_w, i32_w]
       rfl
      refine take_ (i := 1) (N := some 91) (v := ?_) (a' := ?_) #[true, true, false, false, false, false, false, false, false] rfl rfl (take_ofW HT_.out HW_.out kk) (fun _ _ _ h => h) (Or.inl ⟨by rfl, ?_⟩) hHeld ?_ ?_
      rotate_left
      ·rintro w' ⟨s0, s1, s2, s3⟩
       go_simp
       with_reducible rfl
      rotate_left
      ·simp only [Act.put, List.setIfInBounds_toArray, List.set_cons_zero, List.set_cons_succ, i64_w, i32_w]
       rfl
      refine one_ (i := 2) (N := some 92) #[true, true, true, false, false, false, false, false, false] rfl rfl (one_of HT_.out kk) (by decide) (fun K hK => ?_)
      refine goes_ Tryd.func41 kk rfl #[.agg #[.int .i64 a0_0, .int .i64 a0_1]] (by rfl) rfl rfl (by (try simp only [List.map_toArray, List.map_cons, List.map_nil]); first | done | rfl | (simp only [List.length_drop, List.length_take]; rfl)) ?_
      with_reducible refine (L2_own.calls a0_0 a0_1 t235 t236 _ A52.out).mono ?_
      rintro e w68 ⟨rfl, hb⟩
      refine ⟨_, rfl, ?_⟩
      have n0_ := bb BK210 hb
      have n1_ := bb BK211 hb
      have n2_ := bb BK220 hb
      have n3_ := bb BK228 hb
      have n4_ := am (below_step pw hb)
      clear BK210 BK211 BK220 BK228 HB
      revert n0_ n1_ n2_ n3_ n4_
      intro BK210 BK211 BK220 BK228 HB
      (try clear hb)
      (try clear hb2)
      (try clear hk)
      (try clear hi)
      refine hK.out _ _ ⟨bc BK228 0, bc BK228 1, bc BK210 0, bc BK210 1⟩ (fun hHeld => ?_)
      clear hK K
      refine norm_ (a' := ?_) ?_ ?_
      rotate_left
      ·show Act.put _ (some 92) _ = _
       simp only [Act.put, List.setIfInBounds_toArray, List.set_cons_zero, List.set_cons_succ, i64_w, i32_w]
       rfl
      refine one_ (i := 3) (N := some 93) #[true, true, true, true, false, false, false, false, false] rfl rfl (one_of HT_.out kk) (by decide) (fun K hK => ?_)
      refine goes_ Tryd.func42 kk rfl #[.agg #[.int .i64 t225, .int .i64 t226], .agg #[.int .i64 t235, .int .i64 t236]] (by rfl) rfl rfl (by (try simp only [List.map_toArray, List.map_cons, List.map_nil]); first | done | rfl | (simp only [List.length_drop, List.length_take]; rfl)) ?_
      with_reducible refine (congr_Within_ok.calls kj24 t225 t226 t235 t236 true _ A53.out (am (ErrAt.below hE2.out pw)).out (am (ErrAt.below hE3.out pw)).out).mono ?_
      rintro e w69 ⟨rfl, hb⟩
      refine ⟨_, rfl, ?_⟩
      have n0_ := bb BK210 hb
      have n1_ := bb BK211 hb
      have n2_ := bb BK220 hb
      have n3_ := bb BK228 hb
      have n4_ := am (below_step pw hb)
      clear BK210 BK211 BK220 BK228 HB
      revert n0_ n1_ n2_ n3_ n4_
      intro BK210 BK211 BK220 BK228 HB
      (try clear hb)
      (try clear hb2)
      (try clear hk)
      (try clear hi)
      refine hK.out _ _ ⟨bc BK228 0, bc BK228 1, bc BK210 0, bc BK210 1⟩ (fun hHeld => ?_)
      clear hK K
      refine norm_ (a' := ?_) ?_ ?_
      rotate_left
      ·show Act.put _ (some 93) _ = _
       simp only [Act.put, List.setIfInBounds_toArray, List.set_cons_zero, List.set_cons_succ, i64_w, i32_w]
       rfl
      refine pure_ (i := 4) (N := some 89) (v := ?_) (a' := ?_) #[true, true, true, true, true, false, false, false, false] rfl rfl (any_of HT_.out kk) (fun _ _ _ h => h) (Or.inl ⟨by rfl, ?_⟩) ?_ ?_
      rotate_left
      ·intro w'
       go_simp
       with_reducible rfl
      rotate_left
      ·simp only [Act.put, List.setIfInBounds_toArray, List.set_cons_zero, List.set_cons_succ, i64_w, i32_w]
       rfl
      refine pure_ (i := 5) (N := some 94) (v := ?_) (a' := ?_) #[true, true, true, true, true, true, false, false, false] rfl rfl (any_of HT_.out kk) (fun _ _ _ h => h) (Or.inl ⟨by rfl, ?_⟩) ?_ ?_
      rotate_left
      ·intro w'
       go_simp
       with_reducible rfl
      rotate_left
      ·simp only [Act.put, List.setIfInBounds_toArray, List.set_cons_zero, List.set_cons_succ, i64_w, i32_w]
       rfl
      refine pure_ (i := 6) (N := some 95) (v := ?_) (a' := ?_) #[true, true, true, true, true, true, true, false, false] rfl rfl (any_of HT_.out kk) (fun _ _ _ h => h) (Or.inl ⟨by rfl, ?_⟩) ?_ ?_
      rotate_left
      ·intro w'
       go_simp
       with_reducible rfl
      rotate_left
      ·simp only [Act.put, List.setIfInBounds_toArray, List.set_cons_zero, List.set_cons_succ, i64_w, i32_w]
       rfl
      refine pure_ (i := 7) (N := some 15) (v := ?_) (a' := ?_) #[true, true, true, true, true, true, true, true, false] rfl rfl (any_of HT_.out kk) (fun _ _ _ h => h) (Or.inl ⟨by rfl, ?_⟩) ?_ ?_
      rotate_left
      ·intro w'
       go_simp
       with_reducible rfl
      rotate_left
      ·simp only [Act.put, List.setIfInBounds_toArray, List.set_cons_zero, List.set_cons_succ, i64_w, i32_w]
       rfl
      refine pure_ (i := 8) (N := some 16) (v := ?_) (a' := ?_) #[true, true, true, true, true, true, true, true, true] rfl rfl (any_of HT_.out kk) (fun _ _ _ h => h) (Or.inl ⟨by rfl, ?_⟩) ?_ ?_
      rotate_left
      ·intro w'
       go_simp
       with_reducible rfl
      rotate_left
      ·simp only [Act.put, List.setIfInBounds_toArray, List.set_cons_zero, List.set_cons_succ, i64_w, i32_w]
       rfl
      refine done_ (done_of HT_.out kk) ?_
      try go_wp2
      have n0_ := am (blk_drew BK210.out)
      have n1_ := am (blk_drew BK211.out)
      have n2_ := am (blk_drew BK220.out)
      have n3_ := am (blk_drew BK228.out)
      have n4_ := am (below_drew1 HB.out)
      clear BK210 BK211 BK220 BK228 HB
      revert n0_ n1_ n2_ n3_ n4_
      intro BK210 BK211 BK220 BK228 HB
      refine start_ (n := 9) (S := fun w' => w'.cell? ⟨gb228, 0, none⟩ = some (.int .i64 t225) ∧ w'.cell? ⟨gb228, 1, none⟩ = some (.int .i64 t226) ∧ w'.cell? ⟨gb211, 0, none⟩ = some (.int .i64 a1_0) ∧ w'.cell? ⟨gb211, 1, none⟩ = some (.int .i64 a1_1)) (ds := []) #[false, false, false, false, false, false, false, false, false] kk rfl rfl ⟨bc BK228 0, bc BK228 1, bc BK211 0, bc BK211 1⟩ (fun hHeld => ?_); refine with_tabW L2_CongrLattice.tab14 L2_CongrLattice.bits14 (fun HT_ HW_ => ?_)
      generalize w69.drew = w70 at BK210 BK211 BK220 BK228 HB hHeld ⊢
      refine take_ (i := 0) (N := some 103) (v := ?_) (a' := ?_) #[true, false, false, false, false, false, false, false, false] rfl rfl (take_ofW HT_.out HW_.out kk) (fun _ _ _ h => h) (Or.inl ⟨by rfl, ?_⟩) hHeld ?_ ?_
      rotate_left
      ·rintro w' ⟨s0, s1, s2, s3⟩
       go_simp
       with_reducible rfl
      rotate_left
      ·simp only [Act.put, List.setIfInBounds_toArray, List.set_cons_zero, List.set_cons_succ, i64_w, i32_w]
       rfl
      refine take_ (i := 1) (N := some 104) (v := ?_) (a' := ?_) #[true, true, false, false, false, false, false, false, false] rfl rfl (take_ofW HT_.out HW_.out kk) (fun _ _ _ h => h) (Or.inl ⟨by rfl, ?_⟩) hHeld ?_ ?_
      rotate_left
      ·rintro w' ⟨s0, s1, s2, s3⟩
       go_simp
       with_reducible rfl
      rotate_left
      ·simp only [Act.put, List.setIfInBounds_toArray, List.set_cons_zero, List.set_cons_succ, i64_w, i32_w]
       rfl
      refine one_ (i := 2) (N := some 105) #[true, true, true, false, false, false, false, false, false] rfl rfl (one_of HT_.out kk) (by decide) (fun K hK => ?_)
      refine goes_ Tryd.func41 kk rfl #[.agg #[.int .i64 a1_0, .int .i64 a1_1]] (by rfl) rfl rfl (by (try simp only [List.map_toArray, List.map_cons, List.map_nil]); first | done | rfl | (simp only [List.length_drop, List.length_take]; rfl)) ?_
      with_reducible refine (L2_own.calls a1_0 a1_1 t238 t239 _ A55.out).mono ?_
      rintro e w71 ⟨rfl, hb⟩
      refine ⟨_, rfl, ?_⟩
      have n0_ := bb BK210 hb
      have n1_ := bb BK211 hb
      have n2_ := bb BK220 hb
      have n3_ := bb BK228 hb
      have n4_ := am (below_step pw hb)
      clear BK210 BK211 BK220 BK228 HB
      revert n0_ n1_ n2_ n3_ n4_
      intro BK210 BK211 BK220 BK228 HB
      (try clear hb)
      (try clear hb2)
      (try clear hk)
      (try clear hi)
      refine hK.out _ _ ⟨bc BK228 0, bc BK228 1, bc BK211 0, bc BK211 1⟩ (fun hHeld => ?_)
      clear hK K
      refine norm_ (a' := ?_) ?_ ?_
      rotate_left
      ·show Act.put _ (some 105) _ = _
       simp only [Act.put, List.setIfInBounds_toArray, List.set_cons_zero, List.set_cons_succ, i64_w, i32_w]
       rfl
      refine one_ (i := 3) (N := some 106) #[true, true, true, true, false, false, false, false, false] rfl rfl (one_of HT_.out kk) (by decide) (fun K hK => ?_)
      refine goes_ Tryd.func42 kk rfl #[.agg #[.int .i64 t225, .int .i64 t226], .agg #[.int .i64 t238, .int .i64 t239]] (by rfl) rfl rfl (by (try simp only [List.map_toArray, List.map_cons, List.map_nil]); first | done | rfl | (simp only [List.length_drop, List.length_take]; rfl)) ?_
      with_reducible refine (congr_Within_ok.calls kj24 t225 t226 t238 t239 false _ A56.out (am (ErrAt.below hE2.out pw)).out (am (ErrAt.below hE3.out pw)).out).mono ?_
      rintro e w72 ⟨rfl, hb⟩
      refine ⟨_, rfl, ?_⟩
      have n0_ := bb BK210 hb
      have n1_ := bb BK211 hb
      have n2_ := bb BK220 hb
      have n3_ := bb BK228 hb
      have n4_ := am (below_step pw hb)
      clear BK210 BK211 BK220 BK228 HB
      revert n0_ n1_ n2_ n3_ n4_
      intro BK210 BK211 BK220 BK228 HB
      (try clear hb)
      (try clear hb2)
      (try clear hk)
      (try clear hi)
      refine hK.out _ _ ⟨bc BK228 0, bc BK228 1, bc BK211 0, bc BK211 1⟩ (fun hHeld => ?_)
      clear hK K
      refine norm_ (a' := ?_) ?_ ?_
      rotate_left
      ·show Act.put _ (some 106) _ = _
       simp only [Act.put, List.setIfInBounds_toArray, List.set_cons_zero, List.set_cons_succ, i64_w, i32_w]
       rfl
      refine pure_ (i := 4) (N := some 102) (v := ?_) (a' := ?_) #[true, true, true, true, true, false, false, false, false] rfl rfl (any_of HT_.out kk) (fun _ _ _ h => h) (Or.inl ⟨by rfl, ?_⟩) ?_ ?_
      rotate_left
      ·intro w'
       go_simp
       with_reducible rfl
      rotate_left
      ·simp only [Act.put, List.setIfInBounds_toArray, List.set_cons_zero, List.set_cons_succ, i64_w, i32_w]
       rfl
      refine pure_ (i := 5) (N := some 107) (v := ?_) (a' := ?_) #[true, true, true, true, true, true, false, false, false] rfl rfl (any_of HT_.out kk) (fun _ _ _ h => h) (Or.inl ⟨by rfl, ?_⟩) ?_ ?_
      rotate_left
      ·intro w'
       go_simp
       with_reducible rfl
      rotate_left
      ·simp only [Act.put, List.setIfInBounds_toArray, List.set_cons_zero, List.set_cons_succ, i64_w, i32_w]
       rfl
      refine pure_ (i := 6) (N := some 108) (v := ?_) (a' := ?_) #[true, true, true, true, true, true, true, false, false] rfl rfl (any_of HT_.out kk) (fun _ _ _ h => h) (Or.inl ⟨by rfl, ?_⟩) ?_ ?_
      rotate_left
      ·intro w'
       go_simp
       with_reducible rfl
      rotate_left
      ·simp only [Act.put, List.setIfInBounds_toArray, List.set_cons_zero, List.set_cons_succ, i64_w, i32_w]
       rfl
      refine pure_ (i := 7) (N := some 17) (v := ?_) (a' := ?_) #[true, true, true, true, true, true, true, true, false] rfl rfl (any_of HT_.out kk) (fun _ _ _ h => h) (Or.inl ⟨by rfl, ?_⟩) ?_ ?_
      rotate_left
      ·intro w'
       go_simp
       with_reducible rfl
      rotate_left
      ·simp only [Act.put, List.setIfInBounds_toArray, List.set_cons_zero, List.set_cons_succ, i64_w, i32_w]
       rfl
      refine pure_ (i := 8) (N := some 18) (v := ?_) (a' := ?_) #[true, true, true, true, true, true, true, true, true] rfl rfl (any_of HT_.out kk) (fun _ _ _ h => h) (Or.inl ⟨by rfl, ?_⟩) ?_ ?_
      rotate_left
      ·intro w'
       go_simp
       with_reducible rfl
      rotate_left
      ·simp only [Act.put, List.setIfInBounds_toArray, List.set_cons_zero, List.set_cons_succ, i64_w, i32_w]
       rfl
      refine done_ (done_of HT_.out kk) ?_
      try go_wp2
      have n0_ := am (blk_drew BK210.out)
      have n1_ := am (blk_drew BK211.out)
      have n2_ := am (blk_drew BK220.out)
      have n3_ := am (blk_drew BK228.out)
      have n4_ := am (below_drew1 HB.out)
      clear BK210 BK211 BK220 BK228 HB
      revert n0_ n1_ n2_ n3_ n4_
      intro BK210 BK211 BK220 BK228 HB
      refine start_ (n := 12) (S := fun w' => w'.cell? ⟨gb228, 0, none⟩ = some (.int .i64 t225) ∧ w'.cell? ⟨gb228, 1, none⟩ = some (.int .i64 t226) ∧ w'.cell? ⟨gb210, 0, none⟩ = some (.int .i64 a0_0) ∧ w'.cell? ⟨gb210, 1, none⟩ = some (.int .i64 a0_1)) (ds := []) #[false, false, false, false, false, false, false, false, false, false, false, false] kk rfl rfl ⟨bc BK228 0, bc BK228 1, bc BK210 0, bc BK210 1⟩ (fun hHeld => ?_); refine with_tabW L2_CongrLattice.tab15 L2_CongrLattice.bits15 (fun HT_ HW_ => ?_)
      generalize w72.drew = w73 at BK210 BK211 BK220 BK228 HB hHeld ⊢
      refine pure_ (i := 0) (N := some 109) (v := ?_) (a' := ?_) #[true, false, false, false, false, false, false, false, false, false, false, false] rfl rfl (any_of HT_.out kk) (fun _ _ _ h => h) (Or.inl ⟨by rfl, ?_⟩) ?_ ?_
      rotate_left
      ·intro w'
       go_simp
       with_reducible rfl
      rotate_left
      ·simp only [Act.put, List.setIfInBounds_toArray, List.set_cons_zero, List.set_cons_succ, i64_w, i32_w]
       rfl
      refine pure_ (i := 1) (N := some 110) (v := ?_) (a' := ?_) #[true, true, false, false, false, false, false, false, false, false, false, false] rfl rfl (any_of HT_.out kk) (fun _ _ _ h => h) (Or.inl ⟨by rfl, ?_⟩) ?_ ?_
      rotate_left
      ·intro w'
       go_simp
       with_reducible rfl
      rotate_left
      ·simp only [Act.put, List.setIfInBounds_toArray, List.set_cons_zero, List.set_cons_succ, i64_w, i32_w]
       rfl
      refine pure_ (i := 2) (N := some 111) (v := ?_) (a' := ?_) #[true, true, true, false, false, false, false, false, false, false, false, false] rfl rfl (any_of HT_.out kk) (fun _ _ _ h => h) (Or.inl ⟨by rfl, ?_⟩) ?_ ?_
      rotate_left
      ·intro w'
       go_simp
       with_reducible rfl
      rotate_left
      ·simp only [Act.put, List.setIfInBounds_toArray, List.set_cons_zero, List.set_cons_succ, i64_w, i32_w]
       rfl
      refine pure_ (i := 3) (N := some 112) (v := ?_) (a' := ?_) #[true, true, true, true, false, false, false, false, false, false, false, false] rfl rfl (any_of HT_.out kk) (fun _ _ _ h => h) (Or.inl ⟨by rfl, ?_⟩) ?_ ?_
      rotate_left
      ·intro w'
       go_simp
       with_reducible rfl
      rotate_left
      ·simp only [Act.put, List.setIfInBounds_toArray, List.set_cons_zero, List.set_cons_succ, i64_w, i32_w]
       rfl
      refine pure_ (i := 4) (N := some 113) (v := ?_) (a' := ?_) #[true, true, true, true, true, false, false, false, false, false, false, false] rfl rfl (any_of HT_.out kk) (fun _ _ _ h => h) (Or.inl ⟨by rfl, ?_⟩) ?_ ?_
      rotate_left
      ·intro w'
       go_simp
       with_reducible rfl
      rotate_left
      ·simp only [Act.put, List.setIfInBounds_toArray, List.set_cons_zero, List.set_cons_succ, i64_w, i32_w]
       rfl
      refine pure_ (i := 5) (N := some 114) (v := ?_) (a' := ?_) #[true, true, true, true, true, true, false, false, false, false, false, false] rfl rfl (any_of HT_.out kk) (fun _ _ _ h => h) (Or.inl ⟨by rfl, ?_⟩) ?_ ?_
      rotate_left
      ·intro w'
       go_simp
       with_reducible rfl
      rotate_left
      ·simp only [Act.put, List.setIfInBounds_toArray, List.set_cons_zero, List.set_cons_succ, i64_w, i32_w]
       rfl
      refine take_ (i := 6) (N := some 115) (v := ?_) (a' := ?_) #[true, true, true, true, true, true, true, false, false, false, false, false] rfl rfl (take_ofW HT_.out HW_.out kk) (fun _ _ _ h => h) (Or.inl ⟨by rfl, ?_⟩) hHeld ?_ ?_
      rotate_left
      ·rintro w' ⟨s0, s1, s2, s3⟩
       go_simp
       with_reducible rfl
      rotate_left
      ·simp only [Act.put, List.setIfInBounds_toArray, List.set_cons_zero, List.set_cons_succ, i64_w, i32_w]
       rfl
      refine take_ (i := 7) (N := some 116) (v := ?_) (a' := ?_) #[true, true, true, true, true, true, true, true, false, false, false, false] rfl rfl (take_ofW HT_.out HW_.out kk) (fun _ _ _ h => h) (Or.inl ⟨by rfl, ?_⟩) hHeld ?_ ?_
      rotate_left
      ·rintro w' ⟨s0, s1, s2, s3⟩
       go_simp
       with_reducible rfl
      rotate_left
      ·simp only [Act.put, List.setIfInBounds_toArray, List.set_cons_zero, List.set_cons_succ, i64_w, i32_w]
       rfl
      refine one_ (i := 8) (N := some 117) #[true, true, true, true, true, true, true, true, true, false, false, false] rfl rfl (one_of HT_.out kk) (by decide) (fun K hK => ?_)
      refine goes_ Tryd.func41 kk rfl #[.agg #[.int .i64 a0_0, .int .i64 a0_1]] (by rfl) rfl rfl (by (try simp only [List.map_toArray, List.map_cons, List.map_nil]); first | done | rfl | (simp only [List.length_drop, List.length_take]; rfl)) ?_
      with_reducible refine (L2_own.calls a0_0 a0_1 t241 t242 _ A65.out).mono ?_
      rintro e w74 ⟨rfl, hb⟩
      refine ⟨_, rfl, ?_⟩
      have n0_ := bb BK210 hb
      have n1_ := bb BK211 hb
      have n2_ := bb BK220 hb
      have n3_ := bb BK228 hb
      have n4_ := am (below_step pw hb)
      clear BK210 BK211 BK220 BK228 HB
      revert n0_ n1_ n2_ n3_ n4_
      intro BK210 BK211 BK220 BK228 HB
      (try clear hb)
      (try clear hb2)
      (try clear hk)
      (try clear hi)
      refine hK.out _ _ ⟨bc BK228 0, bc BK228 1, bc BK210 0, bc BK210 1⟩ (fun hHeld => ?_)
      clear hK K
      refine norm_ (a' := ?_) ?_ ?_
      rotate_left
      ·show Act.put _ (some 117) _ = _
       simp only [Act.put, List.setIfInBounds_toArray, List.set_cons_zero, List.set_cons_succ, i64_w, i32_w]
       rfl
      refine pure_ (i := 9) (N := some 118) (v := ?_) (a' := ?_) #[true, true, true, true, true, true, true, true, true, true, false, false] rfl rfl (any_of HT_.out kk) (fun _ _ _ h => h) (Or.inl ⟨by rfl, ?_⟩) ?_ ?_
      rotate_left
      ·intro w'
       go_simp
       with_reducible rfl
      rotate_left
      ·simp only [Act.put, List.setIfInBounds_toArray, List.set_cons_zero, List.set_cons_succ, i64_w, i32_w]
       rfl
      refine pure_ (i := 10) (N := some 119) (v := ?_) (a' := ?_) #[true, true, true, true, true, true, true, true, true, true, true, false] rfl rfl (any_of HT_.out kk) (fun _ _ _ h => h) (Or.inl ⟨by rfl, ?_⟩) ?_ ?_
      rotate_left
      ·intro w'
       go_simp
       with_reducible rfl
      rotate_left
      ·simp only [Act.put, List.setIfInBounds_toArray, List.set_cons_zero, List.set_cons_succ, i64_w, i32_w]
       rfl
      refine pure_ (i := 11) (N := some 120) (v := ?_) (a' := ?_) #[true, true, true, true, true, true, true, true, true, true, true, true] rfl rfl (any_of HT_.out kk) (fun _ _ _ h => h) (Or.inl ⟨by rfl, ?_⟩) ?_ ?_
      rotate_left
      ·intro w'
       go_simp
       with_reducible rfl
      rotate_left
      ·simp only [Act.put, List.setIfInBounds_toArray, List.set_cons_zero, List.set_cons_succ, i64_w, i32_w]
       rfl
      refine done_ (done_of HT_.out kk) ?_
      try go_wp2
      go_meet
      case rel => exact ⟨_, H', ⟨by have := HJ3.out; have := HJ24.out; first | omega | exact Nat.le_refl _⟩, ⟨by (with_reducible repeat (first | refine blk_drewN ?_ _ | refine blk_drew ?_ | refine blk_alloc ?_ _)); exact BK210.out⟩, ⟨by (with_reducible repeat (first | refine blk_drewN ?_ _ | refine blk_drew ?_ | refine blk_alloc ?_ _)); exact BK211.out⟩, ⟨by (with_reducible repeat (first | refine blk_drewN ?_ _ | refine blk_drew ?_ | refine blk_alloc ?_ _)); exact BK220.out⟩, ⟨by (with_reducible repeat (first | refine blk_drewN ?_ _ | refine blk_drew ?_ | refine blk_alloc ?_ _)); exact BK228.out⟩, ⟨pw⟩⟩
     replace c54 := Bool.eq_false_iff.mpr c54
     subst c54
     have H1 : (none) = some r := by rw [if_neg (show ¬ (false = true) by decide)] at H; exact H
     clear H
     have H := H1
     clear H1
     exact absurd H (by simp)
    replace c51 := Bool.eq_false_iff.mpr c51
    subst c51
    have H1 : (L2_CongrLattice.j2 kj24 a0_0 a0_1 a1_0 a1_1) = some r := by rw [if_neg (show ¬ (false = true) by decide)] at H; exact H
    clear H
    have H := H1
    clear H1
    have H' := am H
    clear H
    go_wp2
    go_meet
    case rel => exact ⟨_, H', ⟨by have := HJ3.out; have := HJ24.out; first | omega | exact Nat.le_refl _⟩, ⟨by (with_reducible repeat (first | refine blk_drewN ?_ _ | refine blk_drew ?_ | refine blk_alloc ?_ _)); exact BK210.out⟩, ⟨by (with_reducible repeat (first | refine blk_drewN ?_ _ | refine blk_drew ?_ | refine blk_alloc ?_ _)); exact BK211.out⟩, ⟨by (with_reducible repeat (first | refine blk_drewN ?_ _ | refine blk_drew ?_ | refine blk_alloc ?_ _)); exact BK220.out⟩, ⟨by (with_reducible repeat (first | refine blk_drewN ?_ _ | refine blk_drew ?_ | refine blk_alloc ?_ _)); exact BK228.out⟩, ⟨pw⟩⟩
   clear HC50
   try clear p2
   try clear c4
   try clear c5
   try clear c6
   try clear c41
   try clear c42
   try clear c51
   try clear c54
   try clear c57
   try clear c66
   try clear c66b0
   obtain ⟨kq, HA, HJ49, BK210, BK211, BK220, BK228, HB⟩ := hcut
   cases kq with
   | zero => exact absurd HA.out (by simp [L2_CongrLattice.j2])
   | succ kj49 =>
    have H := HA.out
    clear HA
    simp only [L2_CongrLattice.j2] at H
    replace H := Option.bind_eq_some_iff.mp H
    obtain ⟨⟨t243, t244⟩, A750, H⟩ := H
    replace H : ((L2_own.f a1_0 a1_1).bind fun bt245 => ((congr_Add_ok.f kj49 t243 t244 bt245.1 bt245.2).bind fun bt247 => ((L2_own.f a1_0 a1_1).bind fun bt250 => ((L2_own.f a0_0 a0_1).bind fun bt252 => ((congr_Add_ok.f kj49 bt250.1 bt250.2 bt252.1 bt252.2).bind fun bt254 => ((L2_own.f a0_0 a0_1).bind fun bt257 => ((L2_own.f a1_0 a1_1).bind fun bt259 => ((congr_Mul_ok.f kj49 bt257.1 bt257.2 bt259.1 bt259.2).bind fun bt261 => ((L2_own.f a1_0 a1_1).bind fun bt264 => ((L2_own.f a0_0 a0_1).bind fun bt266 => ((congr_Mul_ok.f kj49 bt264.1 bt264.2 bt266.1 bt266.2).bind fun bt268 => ((L2_own.f a0_0 a0_1).bind fun bt271 => ((L2_own.f a0_0 a0_1).bind fun bt273 => ((congr_Sub_ok.f kj49 bt271.1 bt271.2 bt273.1 bt273.2).bind fun bt275 => (if (bt247.1 == bt254.1 && (bt247.2 == bt254.2)) = true then (if (bt261.1 == bt268.1 && (bt261.2 == bt268.2)) = true then ((congr_Has.f kj49 bt275.1 bt275.2 0).bind fun t278 => (some t278)) else (none)) else (none)))))))))))))))) = some r := H
    have A75 := am A750
    clear A750
    replace H := Option.bind_eq_some_iff.mp H
    obtain ⟨⟨t245, t246⟩, A760, H⟩ := H
    replace H : ((congr_Add_ok.f kj49 t243 t244 t245 t246).bind fun bt247 => ((L2_own.f a1_0 a1_1).bind fun bt250 => ((L2_own.f a0_0 a0_1).bind fun bt252 => ((congr_Add_ok.f kj49 bt250.1 bt250.2 bt252.1 bt252.2).bind fun bt254 => ((L2_own.f a0_0 a0_1).bind fun bt257 => ((L2_own.f a1_0 a1_1).bind fun bt259 => ((congr_Mul_ok.f kj49 bt257.1 bt257.2 bt259.1 bt259.2).bind fun bt261 => ((L2_own.f a1_0 a1_1).bind fun bt264 => ((L2_own.f a0_0 a0_1).bind fun bt266 => ((congr_Mul_ok.f kj49 bt264.1 bt264.2 bt266.1 bt266.2).bind fun bt268 => ((L2_own.f a0_0 a0_1).bind fun bt271 => ((L2_own.f a0_0 a0_1).bind fun bt273 => ((congr_Sub_ok.f kj49 bt271.1 bt271.2 bt273.1 bt273.2).bind fun bt275 => (if (bt247.1 == bt254.1 && (bt247.2 == bt254.2)) = true then (if (bt261.1 == bt268.1 && (bt261.2 == bt268.2)) = true then ((congr_Has.f kj49 bt275.1 bt275.2 0).bind fun t278 => (some t278)) else (none)) else (none))))))))))))))) = some r := H
    have A76 := am A760
    clear A760
    replace H := Option.bind_eq_some_iff.mp H
    obtain ⟨⟨t247, t248⟩, A770, H⟩ := H
    replace H : ((L2_own.f a1_0 a1_1).bind fun bt250 => ((L2_own.f a0_0 a0_1).bind fun bt252 => ((congr_Add_ok.f kj49 bt250.1 bt250.2 bt252.1 bt252.2).bind fun bt254 => ((L2_own.f a0_0 a0_1).bind fun bt257 => ((L2_own.f a1_0 a1_1).bind fun bt259 => ((congr_Mul_ok.f kj49 bt257.1 bt257.2 bt259.1 bt259.2).bind fun bt261 => ((L2_own.f a1_0 a1_1).bind fun bt264 => ((L2_own.f a0_0 a0_1).bind fun bt266 => ((congr_Mul_ok.f kj49 bt264.1 bt264.2 bt266.1 bt266.2).bind fun bt268 => ((L2_own.f a0_0 a0_1).bind fun bt271 => ((L2_own.f a0_0 a0_1).bind fun bt273 => ((congr_Sub_ok.f kj49 bt271.1 bt271.2 bt273.1 bt273.2).bind fun bt275 => (if (t247 == bt254.1 && (t248 == bt254.2)) = true then (if (bt261.1 == bt268.1 && (bt261.2 == bt268.2)) = true then ((congr_Has.f kj49 bt275.1 bt275.2 0).bind fun t278 => (some t278)) else (none)) else (none)))))))))))))) = some r := H
    have A77 := am A770
    clear A770
    replace H := Option.bind_eq_some_iff.mp H
    obtain ⟨⟨t250, t251⟩, A780, H⟩ := H
    replace H : ((L2_own.f a0_0 a0_1).bind fun bt252 => ((congr_Add_ok.f kj49 t250 t251 bt252.1 bt252.2).bind fun bt254 => ((L2_own.f a0_0 a0_1).bind fun bt257 => ((L2_own.f a1_0 a1_1).bind fun bt259 => ((congr_Mul_ok.f kj49 bt257.1 bt257.2 bt259.1 bt259.2).bind fun bt261 => ((L2_own.f a1_0 a1_1).bind fun bt264 => ((L2_own.f a0_0 a0_1).bind fun bt266 => ((congr_Mul_ok.f kj49 bt264.1 bt264.2 bt266.1 bt266.2).bind fun bt268 => ((L2_own.f a0_0 a0_1).bind fun bt271 => ((L2_own.f a0_0 a0_1).bind fun bt273 => ((congr_Sub_ok.f kj49 bt271.1 bt271.2 bt273.1 bt273.2).bind fun bt275 => (if (t247 == bt254.1 && (t248 == bt254.2)) = true then (if (bt261.1 == bt268.1 && (bt261.2 == bt268.2)) = true then ((congr_Has.f kj49 bt275.1 bt275.2 0).bind fun t278 => (some t278)) else (none)) else (none))))))))))))) = some r := H
    have A78 := am A780
    clear A780
    replace H := Option.bind_eq_some_iff.mp H
    obtain ⟨⟨t252, t253⟩, A790, H⟩ := H
    replace H : ((congr_Add_ok.f kj49 t250 t251 t252 t253).bind fun bt254 => ((L2_own.f a0_0 a0_1).bind fun bt257 => ((L2_own.f a1_0 a1_1).bind fun bt259 => ((congr_Mul_ok.f kj49 bt257.1 bt257.2 bt259.1 bt259.2).bind fun bt261 => ((L2_own.f a1_0 a1_1).bind fun bt264 => ((L2_own.f a0_0 a0_1).bind fun bt266 => ((congr_Mul_ok.f kj49 bt264.1 bt264.2 bt266.1 bt266.2).bind fun bt268 => ((L2_own.f a0_0 a0_1).bind fun bt271 => ((L2_own.f a0_0 a0_1).bind fun bt273 => ((congr_Sub_ok.f kj49 bt271.1 bt271.2 bt273.1 bt273.2).bind fun bt275 => (if (t247 == bt254.1 && (t248 == bt254.2)) = true then (if (bt261.1 == bt268.1 && (bt261.2 == bt268.2)) = true then ((congr_Has.f kj49 bt275.1 bt275.2 0).bind fun t278 => (some t278)) else (none)) else (none)))))))))))) = some r := H
    have A79 := am A790
    clear A790
    replace H := Option.bind_eq_some_iff.mp H
    obtain ⟨⟨t254, t255⟩, A800, H⟩ := H
    replace H : ((L2_own.f a0_0 a0_1).bind fun bt257 => ((L2_own.f a1_0 a1_1).bind fun bt259 => ((congr_Mul_ok.f kj49 bt257.1 bt257.2 bt259.1 bt259.2).bind fun bt261 => ((L2_own.f a1_0 a1_1).bind fun bt264 => ((L2_own.f a0_0 a0_1).bind fun bt266 => ((congr_Mul_ok.f kj49 bt264.1 bt264.2 bt266.1 bt266.2).bind fun bt268 => ((L2_own.f a0_0 a0_1).bind fun bt271 => ((L2_own.f a0_0 a0_1).bind fun bt273 => ((congr_Sub_ok.f kj49 bt271.1 bt271.2 bt273.1 bt273.2).bind fun bt275 => (if (t247 == t254 && (t248 == t255)) = true then (if (bt261.1 == bt268.1 && (bt261.2 == bt268.2)) = true then ((congr_Has.f kj49 bt275.1 bt275.2 0).bind fun t278 => (some t278)) else (none)) else (none))))))))))) = some r := H
    have A80 := am A800
    clear A800
    replace H := Option.bind_eq_some_iff.mp H
    obtain ⟨⟨t257, t258⟩, A810, H⟩ := H
    replace H : ((L2_own.f a1_0 a1_1).bind fun bt259 => ((congr_Mul_ok.f kj49 t257 t258 bt259.1 bt259.2).bind fun bt261 => ((L2_own.f a1_0 a1_1).bind fun bt264 => ((L2_own.f a0_0 a0_1).bind fun bt266 => ((congr_Mul_ok.f kj49 bt264.1 bt264.2 bt266.1 bt266.2).bind fun bt268 => ((L2_own.f a0_0 a0_1).bind fun bt271 => ((L2_own.f a0_0 a0_1).bind fun bt273 => ((congr_Sub_ok.f kj49 bt271.1 bt271.2 bt273.1 bt273.2).bind fun bt275 => (if (t247 == t254 && (t248 == t255)) = true then (if (bt261.1 == bt268.1 && (bt261.2 == bt268.2)) = true then ((congr_Has.f kj49 bt275.1 bt275.2 0).bind fun t278 => (some t278)) else (none)) else (none)))))))))) = some r := H
    have A81 := am A810
    clear A810
    replace H := Option.bind_eq_some_iff.mp H
    obtain ⟨⟨t259, t260⟩, A820, H⟩ := H
    replace H : ((congr_Mul_ok.f kj49 t257 t258 t259 t260).bind fun bt261 => ((L2_own.f a1_0 a1_1).bind fun bt264 => ((L2_own.f a0_0 a0_1).bind fun bt266 => ((congr_Mul_ok.f kj49 bt264.1 bt264.2 bt266.1 bt266.2).bind fun bt268 => ((L2_own.f a0_0 a0_1).bind fun bt271 => ((L2_own.f a0_0 a0_1).bind fun bt273 => ((congr_Sub_ok.f kj49 bt271.1 bt271.2 bt273.1 bt273.2).bind fun bt275 => (if (t247 == t254 && (t248 == t255)) = true then (if (bt261.1 == bt268.1 && (bt261.2 == bt268.2)) = true then ((congr_Has.f kj49 bt275.1 bt275.2 0).bind fun t278 => (some t278)) else (none)) else (none))))))))) = some r := H
    have A82 := am A820
    clear A820
    replace H := Option.bind_eq_some_iff.mp H
    obtain ⟨⟨t261, t262⟩, A830, H⟩ := H
    replace H : ((L2_own.f a1_0 a1_1).bind fun bt264 => ((L2_own.f a0_0 a0_1).bind fun bt266 => ((congr_Mul_ok.f kj49 bt264.1 bt264.2 bt266.1 bt266.2).bind fun bt268 => ((L2_own.f a0_0 a0_1).bind fun bt271 => ((L2_own.f a0_0 a0_1).bind fun bt273 => ((congr_Sub_ok.f kj49 bt271.1 bt271.2 bt273.1 bt273.2).bind fun bt275 => (if (t247 == t254 && (t248 == t255)) = true then (if (t261 == bt268.1 && (t262 == bt268.2)) = true then ((congr_Has.f kj49 bt275.1 bt275.2 0).bind fun t278 => (some t278)) else (none)) else (none)))))))) = some r := H
    have A83 := am A830
    clear A830
    replace H := Option.bind_eq_some_iff.mp H
    obtain ⟨⟨t264, t265⟩, A840, H⟩ := H
    replace H : ((L2_own.f a0_0 a0_1).bind fun bt266 => ((congr_Mul_ok.f kj49 t264 t265 bt266.1 bt266.2).bind fun bt268 => ((L2_own.f a0_0 a0_1).bind fun bt271 => ((L2_own.f a0_0 a0_1).bind fun bt273 => ((congr_Sub_ok.f kj49 bt271.1 bt271.2 bt273.1 bt273.2).bind fun bt275 => (if (t247 == t254 && (t248 == t255)) = true then (if (t261 == bt268.1 && (t262 == bt268.2)) = true then ((congr_Has.f kj49 bt275.1 bt275.2 0).bind fun t278 => (some t278)) else (none)) else (none))))))) = some r := H
    have A84 := am A840
    clear A840
    replace H := Option.bind_eq_some_iff.mp H
    obtain ⟨⟨t266, t267⟩, A850, H⟩ := H
    replace H : ((congr_Mul_ok.f kj49 t264 t265 t266 t267).bind fun bt268 => ((L2_own.f a0_0 a0_1).bind fun bt271 => ((L2_own.f a0_0 a0_1).bind fun bt273 => ((congr_Sub_ok.f kj49 bt271.1 bt271.2 bt273.1 bt273.2).bind fun bt275 => (if (t247 == t254 && (t248 == t255)) = true then (if (t261 == bt268.1 && (t262 == bt268.2)) = true then ((congr_Has.f kj49 bt275.1 bt275.2 0).bind fun t278 => (some t278)) else (none)) else (none)))))) = some r := H
    have A85 := am A850
    clear A850
    replace H := Option.bind_eq_some_iff.mp H
    obtain ⟨⟨t268, t269⟩, A860, H⟩ := H
    replace H : ((L2_own.f a0_0 a0_1).bind fun bt271 => ((L2_own.f a0_0 a0_1).bind fun bt273 => ((congr_Sub_ok.f kj49 bt271.1 bt271.2 bt273.1 bt273.2).bind fun bt275 => (if (t247 == t254 && (t248 == t255)) = true then (if (t261 == t268 && (t262 == t269)) = true then ((congr_Has.f kj49 bt275.1 bt275.2 0).bind fun t278 => (some t278)) else (none)) else (none))))) = some r := H
    have A86 := am A860
    clear A860
    replace H := Option.bind_eq_some_iff.mp H
    obtain ⟨⟨t271, t272⟩, A870, H⟩ := H
    replace H : ((L2_own.f a0_0 a0_1).bind fun bt273 => ((congr_Sub_ok.f kj49 t271 t272 bt273.1 bt273.2).bind fun bt275 => (if (t247 == t254 && (t248 == t255)) = true then (if (t261 == t268 && (t262 == t269)) = true then ((congr_Has.f kj49 bt275.1 bt275.2 0).bind fun t278 => (some t278)) else (none)) else (none)))) = some r := H
    have A87 := am A870
    clear A870
    replace H := Option.bind_eq_some_iff.mp H
    obtain ⟨⟨t273, t274⟩, A880, H⟩ := H
    replace H : ((congr_Sub_ok.f kj49 t271 t272 t273 t274).bind fun bt275 => (if (t247 == t254 && (t248 == t255)) = true then (if (t261 == t268 && (t262 == t269)) = true then ((congr_Has.f kj49 bt275.1 bt275.2 0).bind fun t278 => (some t278)) else (none)) else (none))) = some r := H
    have A88 := am A880
    clear A880
    replace H := Option.bind_eq_some_iff.mp H
    obtain ⟨⟨t275, t276⟩, A890, H⟩ := H
    replace H : (if (t247 == t254 && (t248 == t255)) = true then (if (t261 == t268 && (t262 == t269)) = true then ((congr_Has.f kj49 t275 t276 0).bind fun t278 => (some t278)) else (none)) else (none)) = some r := H
    have A89 := am A890
    clear A890
    by_cases c90 : (t247 == t254 && (t248 == t255)) = true
    ·rw [if_pos c90] at H
     have c90b0 : (t247 == t254 && (t248 == t255)) = true := c90
     (try (have c90b1 : decide (t247 = t254 && (t248 == t255)) = true := by simpa using c90))
     (try (have c90b2 : (t247 == t254 && (t248 == t255)) = true := by simpa using c90))
     clear c90
     by_cases c91 : (t261 == t268 && (t262 == t269)) = true
     ·rw [if_pos c91] at H
      have c91b0 : (t261 == t268 && (t262 == t269)) = true := c91
      (try (have c91b1 : decide (t261 = t268 && (t262 == t269)) = true := by simpa using c91))
      (try (have c91b2 : (t261 == t268 && (t262 == t269)) = true := by simpa using c91))
      clear c91
      replace H := Option.bind_eq_some_iff.mp H
      obtain ⟨t278, A920, H⟩ := H
      replace H : (some t278) = some r := H
      have A92 := am A920
      clear A920
      obtain rfl := Option.some.inj H
      try go_wp2
      have n0_ := am (blk_drew BK210.out)
      have n1_ := am (blk_drew BK211.out)
      have n2_ := am (blk_drew BK220.out)
      have n3_ := am (blk_drew BK228.out)
      have n4_ := am (below_drew1 HB.out)
      clear BK210 BK211 BK220 BK228 HB
      revert n0_ n1_ n2_ n3_ n4_
      intro BK210 BK211 BK220 BK228 HB
      refine start_ (n := 11) (S := fun w' => True) (ds := []) #[false, false, false, false, false, false, false, false, false, false, false] kk rfl rfl trivial (fun hHeld => ?_); refine with_tabW L2_CongrLattice.tab17 L2_CongrLattice.bits17 (fun HT_ HW_ => ?_)
      generalize wc.drew = w93 at BK210 BK211 BK220 BK228 HB hHeld ⊢
      refine inv_at [0, 1, 2, 3, 4, 5, 6, 7, 8, 9, 10] (fun a0_ b a w' => ∃ (gb249 : Nat) (m8_ : Value), a = putSel a0_ b [(0, 122, .agg #[.int .i64 a0_0, .int .i64 a0_1]), (1, 123, .agg #[.int .i64 t243, .int .i64 t244]), (2, 124, .agg #[.int .i64 a1_0, .int .i64 a1_1]), (3, 125, .agg #[.int .i64 t245, .int .i64 t246]), (4, 126, .tuple #[.agg #[.int .i64 t247, .int .i64 t248], .nilIface]), (5, 121, .tuple #[.agg #[.int .i64 t247, .int .i64 t248], .nilIface]), (6, 127, .agg #[.int .i64 t247, .int .i64 t248]), (7, 128, .nilIface), (8, 19, m8_), (10, 7, .nilIface)] ∧ (w'.heap[gb210]? = some (.cells #[.int .i64 a0_0, .int .i64 a0_1] 69 (0, 0))) ∧ (w'.heap[gb211]? = some (.cells #[.int .i64 a1_0, .int .i64 a1_1] 69 (0, 0))) ∧ (w'.heap[gb220]? = some (.cells #[.int .i64 t218, .int .i64 t219] 24 (0, 0))) ∧ (w'.heap[gb228]? = some (.cells #[.int .i64 t225, .int .i64 t226] 24 (0, 0))) ∧ (Below w.heap.size w w') ∧ (b 8 = true → b 9 = false → w'.heap[gb249]? = some (.cells #[.int .i64 0, .int .i64 0] 24 (0, 0))) ∧ (b 8 = true → w.heap.size ≤ gb249) ∧ (b 8 = true → w.heap.size ≤ gb249) ∧ (b 8 = true → gb210 ≠ gb249) ∧ (b 8 = true → gb249 ≠ gb210) ∧ (b 8 = true → gb211 ≠ gb249) ∧ (b 8 = true → gb249 ≠ gb211) ∧ (b 8 = true → gb220 ≠ gb249) ∧ (b 8 = true → gb249 ≠ gb220) ∧ (b 8 = true → gb228 ≠ gb249) ∧ (b 8 = true → gb249 ≠ gb228) ∧ (b 9 = true → w'.heap[gb249]? = some (.cells #[.int .i64 t247, .int .i64 t248] 24 (0, 0))) ∧ (b 8 = true → (m8_ : Value) = .pointer (some ⟨gb249, 0, none⟩))) HT_.out HW_.out kk kk ?_ ?_ ?_
      ·exact ⟨0, .bool false, by simp only [putSel, Bool.false_eq_true, if_false], BK210.out, BK211.out, BK220.out, BK228.out, HB.out, fun h_ => absurd h_ (by decide), fun h_ => absurd h_ (by decide), fun h_ => absurd h_ (by decide), fun h_ => absurd h_ (by decide), fun h_ => absurd h_ (by decide), fun h_ => absurd h_ (by decide), fun h_ => absurd h_ (by decide), fun h_ => absurd h_ (by decide), fun h_ => absurd h_ (by decide), fun h_ => absurd h_ (by decide), fun h_ => absurd h_ (by decide), fun h_ => absurd h_ (by decide), fun h_ => absurd h_ (by decide)⟩
      ·skip
       clear BK210 BK211 BK220 BK228 HB
       refine steps_cons ?_ ?_
       ·rintro b a w' ⟨gb249, m8_, ha, qB210, qB211, qB220, qB228, qHB, qB249, qW249, qE249, q210_249, q249_210, q211_249, q249_211, q220_249, q249_220, q228_249, q249_228, qB249_e9, Q_X8_⟩ hb_ hon hoff
        refine ⟨_, rfl, fun K hK => ?_⟩
        have e2 : a.tmps[2]? = some (.pointer (some ⟨gb210, 0, none⟩)) := by rw [ha]; exact (putSel_off rfl).trans rfl
        replace ha := am ha
        have BK210 := am qB210
        have BK211 := am qB211
        have BK220 := am qB220
        have BK228 := am qB228
        have HB := am qHB
        have hc0_ : w'.cell? ⟨gb210, 0, none⟩ = some (.int .i64 a0_0) := bc BK210 0
        have hc1_ : w'.cell? ⟨gb210, 1, none⟩ = some (.int .i64 a0_1) := bc BK210 1
        refine value_ (w1 := w') (v := .agg #[.int .i64 a0_0, .int .i64 a0_1]) (by rfl) rfl ?_ ?_
        ·go_simp
         (try simp only [i64_w])
         try rfl
        refine hK.out _ _ ⟨gb249, m8_, (by rw [ha.out]; exact putSel_upk 0 hb_ rfl rfl rfl), qB210, qB211, qB220, qB228, qHB, qB249, qW249, qE249, q210_249, q249_210, q211_249, q249_211, q220_249, q249_220, q228_249, q249_228, fun h0_ => absurd ((hoff 9 kk).symm.trans h0_) (by decide), Q_X8_⟩
       refine steps_cons ?_ ?_
       ·rintro b a w' ⟨gb249, m8_, ha, qB210, qB211, qB220, qB228, qHB, qB249, qW249, qE249, q210_249, q249_210, q211_249, q249_211, q220_249, q249_220, q228_249, q249_228, qB249_e9, Q_X8_⟩ hb_ hon hoff
        refine ⟨_, rfl, fun K hK => ?_⟩
        have e122 : a.tmps[122]? = some (.agg #[.int .i64 a0_0, .int .i64 a0_1]) := by rw [ha]; exact putSel_on (e := (0, 122, .agg #[.int .i64 a0_0, .int .i64 a0_1])) 0 rfl rfl (hon 0 kk) rfl
        replace ha := am ha
        have BK210 := am qB210
        have BK211 := am qB211
        have BK220 := am qB220
        have BK228 := am qB228
        have HB := am qHB
        refine goes_ Tryd.func41 kk rfl #[.agg #[.int .i64 a0_0, .int .i64 a0_1]] (by rfl) rfl rfl (by first | (simp only [List.map_toArray, List.map_cons, List.map_nil, Act.eval, Array.getD_eq_getD_getElem?, Option.getD_some, e122]; done) | (simp only [List.map_toArray, List.map_cons, List.map_nil, Act.eval, Array.getD_eq_getD_getElem?, Option.getD_some, e122]; rfl)) ?_
        with_reducible refine (L2_own.calls a0_0 a0_1 t243 t244 _ A75.out).mono ?_
        rintro e w94 ⟨rfl, hb⟩
        refine ⟨_, rfl, ?_⟩
        have n0_ := bb BK210 hb
        have n1_ := bb BK211 hb
        have n2_ := bb BK220 hb
        have n3_ := bb BK228 hb
        have n4_ := am (below_step pw hb)
        have z_BK249 := fun (h0_ : b 8 = true) (h1_ : b 9 = false) => (show w94.heap[gb249]? = some (.cells #[.int .i64 0, .int .i64 0] 24 (0, 0)) from by first | exact (blk_below (g := gb249) (o := .cells #[.int .i64 0, .int .i64 0] 24 (0, 0)) (by (with_reducible repeat (first | refine blk_drewN ?_ _ | refine blk_drew ?_ | refine blk_alloc ?_ _)); exact (qB249 h0_ h1_)) hb))
        clear BK210 BK211 BK220 BK228 HB
        revert n0_ n1_ n2_ n3_ n4_
        intro BK210 BK211 BK220 BK228 HB
        (try clear hb)
        (try clear hb2)
        (try clear hk)
        (try clear hi)
        refine hK.out _ _ ⟨gb249, m8_, (by rw [ha.out]; exact putSel_upk 1 hb_ rfl rfl rfl), pk, pk, pk, pk, pw, z_BK249, qW249, qE249, q210_249, q249_210, q211_249, q249_211, q220_249, q249_220, q228_249, q249_228, fun h0_ => absurd ((hoff 9 kk).symm.trans h0_) (by decide), Q_X8_⟩
       refine steps_cons ?_ ?_
       ·rintro b a w' ⟨gb249, m8_, ha, qB210, qB211, qB220, qB228, qHB, qB249, qW249, qE249, q210_249, q249_210, q211_249, q249_211, q220_249, q249_220, q228_249, q249_228, qB249_e9, Q_X8_⟩ hb_ hon hoff
        refine ⟨_, rfl, fun K hK => ?_⟩
        have e3 : a.tmps[3]? = some (.pointer (some ⟨gb211, 0, none⟩)) := by rw [ha]; exact (putSel_off rfl).trans rfl
        replace ha := am ha
        have BK210 := am qB210
        have BK211 := am qB211
        have BK220 := am qB220
        have BK228 := am qB228
        have HB := am qHB
        have hc0_ : w'.cell? ⟨gb211, 0, none⟩ = some (.int .i64 a1_0) := bc BK211 0
        have hc1_ : w'.cell? ⟨gb211, 1, none⟩ = some (.int .i64 a1_1) := bc BK211 1
        refine value_ (w1 := w') (v := .agg #[.int .i64 a1_0, .int .i64 a1_1]) (by rfl) rfl ?_ ?_
        ·go_simp
         (try simp only [i64_w])
         try rfl
        refine hK.out _ _ ⟨gb249, m8_, (by rw [ha.out]; exact putSel_upk 2 hb_ rfl rfl rfl), qB210, qB211, qB220, qB228, qHB, qB249, qW249, qE249, q210_249, q249_210, q211_249, q249_211, q220_249, q249_220, q228_249, q249_228, fun h0_ => absurd ((hoff 9 kk).symm.trans h0_) (by decide), Q_X8_⟩
       refine steps_cons ?_ ?_
       ·rintro b a w' ⟨gb249, m8_, ha, qB210, qB211, qB220, qB228, qHB, qB249, qW249, qE249, q210_249, q249_210, q211_249, q249_211, q220_249, q249_220, q228_249, q249_228, qB249_e9, Q_X8_⟩ hb_ hon hoff
        refine ⟨_, rfl, fun K hK => ?_⟩
        have e124 : a.tmps[124]? = some (.agg #[.int .i64 a1_0, .int .i64 a1_1]) := by rw [ha]; exact putSel_on (e := (2, 124, .agg #[.int .i64 a1_0, .int .i64 a1_1])) 2 rfl rfl (hon 2 kk) rfl
        replace ha := am ha
        have BK210 := am qB210
        have BK211 := am qB211
        have BK220 := am qB220
        have BK228 := am qB228
        have HB := am qHB
        refine goes_ Tryd.func41 kk rfl #[.agg #[.int .i64 a1_0, .int .i64 a1_1]] (by rfl) rfl rfl (by first | (simp only [List.map_toArray, List.map_cons, List.map_nil, Act.eval, Array.getD_eq_getD_getElem?, Option.getD_some, e124]; done) | (simp only [List.map_toArray, List.map_cons, List.map_nil, Act.eval, Array.getD_eq_getD_getElem?, Option.getD_some, e124]; rfl)) ?_
        with_reducible refine (L2_own.calls a1_0 a1_1 t245 t246 _ A76.out).mono ?_
        rintro e w96 ⟨rfl, hb⟩
        refine ⟨_, rfl, ?_⟩
        have n0_ := bb BK210 hb
        have n1_ := bb BK211 hb
        have n2_ := bb BK220 hb
        have n3_ := bb BK228 hb
        have n4_ := am (below_step pw hb)
        have z_BK249 := fun (h0_ : b 8 = true) (h1_ : b 9 = false) => (show w96.heap[gb249]? = some (.cells #[.int .i64 0, .int .i64 0] 24 (0, 0)) from by first | exact (blk_below (g := gb249) (o := .cells #[.int .i64 0, .int .i64 0] 24 (0, 0)) (by (with_reducible repeat (first | refine blk_drewN ?_ _ | refine blk_drew ?_ | refine blk_alloc ?_ _)); exact (qB249 h0_ h1_)) hb))
        clear BK210 BK211 BK220 BK228 HB
        revert n0_ n1_ n2_ n3_ n4_
        intro BK210 BK211 BK220 BK228 HB
        (try clear hb)
        (try clear hb2)
        (try clear hk)
        (try clear hi)
        refine hK.out _ _ ⟨gb249, m8_, (by rw [ha.out]; exact putSel_upk 3 hb_ rfl rfl rfl), pk, pk, pk, pk, pw, z_BK249, qW249, qE249, q210_249, q249_210, q211_249, q249_211, q220_249, q249_220, q228_249, q249_228, fun h0_ => absurd ((hoff 9 kk).symm.trans h0_) (by decide), Q_X8_⟩
       refine steps_cons ?_ ?_
       ·rintro b a w' ⟨gb249, m8_, ha, qB210, qB211, qB220, qB228, qHB, qB249, qW249, qE249, q210_249, q249_210, q211_249, q249_211, q220_249, q249_220, q228_249, q249_228, qB249_e9, Q_X8_⟩ hb_ hon hoff
        refine ⟨_, rfl, fun K hK => ?_⟩
        have e123 : a.tmps[123]? = some (.agg #[.int .i64 t243, .int .i64 t244]) := by rw [ha]; exact putSel_on (e := (1, 123, .agg #[.int .i64 t243, .int .i64 t244])) 1 rfl rfl (hon 1 kk) rfl
        have e125 : a.tmps[125]? = some (.agg #[.int .i64 t245, .int .i64 t246]) := by rw [ha]; exact putSel_on (e := (3, 125, .agg #[.int .i64 t245, .int .i64 t246])) 3 rfl rfl (hon 3 kk) rfl
        replace ha := am ha
        have BK210 := am qB210
        have BK211 := am qB211
        have BK220 := am qB220
        have BK228 := am qB228
        have HB := am qHB
        refine goes_ Tryd.func43 kk rfl #[.agg #[.int .i64 t243, .int .i64 t244], .agg #[.int .i64 t245, .int .i64 t246]] (by rfl) rfl rfl (by first | (simp only [List.map_toArray, List.map_cons, List.map_nil, Act.eval, Array.getD_eq_getD_getElem?, Option.getD_some, e123, e125]; done) | (simp only [List.map_toArray, List.map_cons, List.map_nil, Act.eval, Array.getD_eq_getD_getElem?, Option.getD_some, e123, e125]; rfl)) ?_
        with_reducible refine (congr_Add_ok.calls kj49 t243 t244 t245 t246 t247 t248 _ A77.out (am (ErrAt.below hE2.out pw)).out (am (ErrAt.below hE3.out pw)).out).mono ?_
        rintro e w97 ⟨rfl, hb⟩
        refine ⟨_, rfl, ?_⟩
        have n0_ := bb BK210 hb
        have n1_ := bb BK211 hb
        have n2_ := bb BK220 hb
        have n3_ := bb BK228 hb
        have n4_ := am (below_step pw hb)
        have z_BK249 := fun (h0_ : b 8 = true) (h1_ : b 9 = false) => (show w97.heap[gb249]? = some (.cells #[.int .i64 0, .int .i64 0] 24 (0, 0)) from by first | exact (blk_below (g := gb249) (o := .cells #[.int .i64 0, .int .i64 0] 24 (0, 0)) (by (with_reducible repeat (first | refine blk_drewN ?_ _ | refine blk_drew ?_ | refine blk_alloc ?_ _)); exact (qB249 h0_ h1_)) hb))
        clear BK210 BK211 BK220 BK228 HB
        revert n0_ n1_ n2_ n3_ n4_
        intro BK210 BK211 BK220 BK228 HB
        (try clear hb)
        (try clear hb2)
        (try clear hk)
        (try clear hi)
        refine hK.out _ _ ⟨gb249, m8_, (by rw [ha.out]; exact putSel_upk 4 hb_ rfl rfl rfl), pk, pk, pk, pk, pw, z_BK249, qW249, qE249, q210_249, q249_210, q211_249, q249_211, q220_249, q249_220, q228_249, q249_228, fun h0_ => absurd ((hoff 9 kk).symm.trans h0_) (by decide), Q_X8_⟩
       refine steps_cons ?_ ?_
       ·rintro b a w' ⟨gb249, m8_, ha, qB210, qB211, qB220, qB228, qHB, qB249, qW249, qE249, q210_249, q249_210, q211_249, q249_211, q220_249, q249_220, q228_249, q249_228, qB249_e9, Q_X8_⟩ hb_ hon hoff
        refine ⟨_, rfl, fun K hK => ?_⟩
        have e126 : a.tmps[126]? = some (.tuple #[.agg #[.int .i64 t247, .int .i64 t248], .nilIface]) := by rw [ha]; exact putSel_on (e := (4, 126, .tuple #[.agg #[.int .i64 t247, .int .i64 t248], .nilIface])) 4 rfl rfl (hon 4 kk) rfl
        replace ha := am ha
        have BK210 := am qB210
        have BK211 := am qB211
        have BK220 := am qB220
        have BK228 := am qB228
        have HB := am qHB
        refine value_ (w1 := w') (v := .tuple #[.agg #[.int .i64 t247, .int .i64 t248], .nilIface]) (by rfl) rfl ?_ ?_
        ·go_simp
         (try simp only [i64_w])
         try rfl
        refine hK.out _ _ ⟨gb249, m8_, (by rw [ha.out]; exact putSel_upk 5 hb_ rfl rfl rfl), qB210, qB211, qB220, qB228, qHB, qB249, qW249, qE249, q210_249, q249_210, q211_249, q249_211, q220_249, q249_220, q228_249, q249_228, fun h0_ => absurd ((hoff 9 kk).symm.trans h0_) (by decide), Q_X8_⟩
       refine steps_cons ?_ ?_
       ·rintro b a w' ⟨gb249, m8_, ha, qB210, qB211, qB220, qB228, qHB, qB249, qW249, qE249, q210_249, q249_210, q211_249, q249_211, q220_249, q249_220, q228_249, q249_228, qB249_e9, Q_X8_⟩ hb_ hon hoff
        refine ⟨_, rfl, fun K hK => ?_⟩
        have e121 : a.tmps[121]? = some (.tuple #[.agg #[.int .i64 t247, .int .i64 t248], .nilIface]) := by rw [ha]; exact putSel_on (e := (5, 121, .tuple #[.agg #[.int .i64 t247, .int .i64 t248], .nilIface])) 5 rfl rfl (hon 5 kk) rfl
        replace ha := am ha
        have BK210 := am qB210
        have BK211 := am qB211
        have BK220 := am qB220
        have BK228 := am qB228
        have HB := am qHB
        refine value_ (w1 := w') (v := .agg #[.int .i64 t247, .int .i64 t248]) (by rfl) rfl ?_ ?_
        ·go_simp
         (try simp only [i64_w])
         try rfl
        refine hK.out _ _ ⟨gb249, m8_, (by rw [ha.out]; exact putSel_upk 6 hb_ rfl rfl rfl), qB210, qB211, qB220, qB228, qHB, qB249, qW249, qE249, q210_249, q249_210, q211_249, q249_211, q220_249, q249_220, q228_249, q249_228, fun h0_ => absurd ((hoff 9 kk).symm.trans h0_) (by decide), Q_X8_⟩
       refine steps_cons ?_ ?_
       ·rintro b a w' ⟨gb249, m8_, ha, qB210, qB211, qB220, qB228, qHB, qB249, qW249, qE249, q210_249, q249_210, q211_249, q249_211, q220_249, q249_220, q228_249, q249_228, qB249_e9, Q_X8_⟩ hb_ hon hoff
        refine ⟨_, rfl, fun K hK => ?_⟩
        have e121 : a.tmps[121]? = some (.tuple #[.agg #[.int .i64 t247, .int .i64 t248], .nilIface]) := by rw [ha]; exact putSel_on (e := (5, 121, .tuple #[.agg #[.int .i64 t247, .int .i64 t248], .nilIface])) 5 rfl rfl (hon 5 kk) rfl
        replace ha := am ha
        have BK210 := am qB210
        have BK211 := am qB211
        have BK220 := am qB220
        have BK228 := am qB228
        have HB := am qHB
        refine value_ (w1 := w') (v := .nilIface) (by rfl) rfl ?_ ?_
        ·go_simp
         (try simp only [i64_w])
         try rfl
        refine hK.out _ _ ⟨gb249, m8_, (by rw [ha.out]; exact putSel_upk 7 hb_ rfl rfl rfl), qB210, qB211, qB220, qB228, qHB, qB249, qW249, qE249, q210_249, q249_210, q211_249, q249_211, q220_249, q249_220, q228_249, q249_228, qB249_e9, Q_X8_⟩
       refine steps_cons ?_ ?_
       ·rintro b a w' ⟨gb249, m8_, ha, qB210, qB211, qB220, qB228, qHB, qB249, qW249, qE249, q210_249, q249_210, q211_249, q249_211, q220_249, q249_220, q228_249, q249_228, qB249_e9, Q_X8_⟩ hb_ hon hoff
        refine ⟨_, rfl, fun K hK => ?_⟩
        replace ha := am ha
        have BK210 := am qB210
        have BK211 := am qB211
        have BK220 := am qB220
        have BK228 := am qB228
        have HB := am qHB
        refine box_step ?hg (N := 19) ?hd (cs := #[.int .i64 0, .int .i64 0]) (t := 24) ?hr ?_; (case hd => rfl); (case hg => rfl); (case hr => first | (go_simp; done) | (go_simp; rfl))
        intro gb249 hg w94 hbox hb
        have n0_ := bb BK210 hb
        have n1_ := bb BK211 hb
        have n2_ := bb BK220 hb
        have n3_ := bb BK228 hb
        have n4_ := am (below_step pw hb)
        have n5_ := am (hbox)
        have n6_ := am ((by rw [hg]; exact (below_size pw) : w.heap.size ≤ gb249))
        have n7_ := am ((by rw [hg]; exact (below_size pw) : w.heap.size ≤ gb249))
        have n8_ := am ((by rw [hg]; exact Nat.ne_of_lt (blk_lt pk) : gb210 ≠ gb249))
        have n9_ := am ((by rw [hg]; exact Nat.ne_of_gt (blk_lt pk) : gb249 ≠ gb210))
        have n10_ := am ((by rw [hg]; exact Nat.ne_of_lt (blk_lt pk) : gb211 ≠ gb249))
        have n11_ := am ((by rw [hg]; exact Nat.ne_of_gt (blk_lt pk) : gb249 ≠ gb211))
        have n12_ := am ((by rw [hg]; exact Nat.ne_of_lt (blk_lt pk) : gb220 ≠ gb249))
        have n13_ := am ((by rw [hg]; exact Nat.ne_of_gt (blk_lt pk) : gb249 ≠ gb220))
        have n14_ := am ((by rw [hg]; exact Nat.ne_of_lt (blk_lt pk) : gb228 ≠ gb249))
        have n15_ := am ((by rw [hg]; exact Nat.ne_of_gt (blk_lt pk) : gb249 ≠ gb228))
        clear BK210 BK211 BK220 BK228 HB
        revert n0_ n1_ n2_ n3_ n4_ n5_ n6_ n7_ n8_ n9_ n10_ n11_ n12_ n13_ n14_ n15_
        intro BK210 BK211 BK220 BK228 HB BK249 GW249 GE249 NB210_249 NB249_210 NB211_249 NB249_211 NB220_249 NB249_220 NB228_249 NB249_228
        clear hb hbox hg
        refine hK.out _ _ ⟨gb249, (.pointer (some ⟨gb249, 0, none⟩)), (by rw [ha.out]; exact putSel_upk 8 hb_ rfl rfl rfl), pk, pk, pk, pk, pw, fun _ _ => pk, fun _ => GW249.out, fun _ => GE249.out, fun _ => NB210_249.out, fun _ => NB249_210.out, fun _ => NB211_249.out, fun _ => NB249_211.out, fun _ => NB220_249.out, fun _ => NB249_220.out, fun _ => NB228_249.out, fun _ => NB249_228.out, fun h0_ => absurd ((hoff 9 kk).symm.trans h0_) (by decide), fun _ => rfl⟩
       refine steps_cons ?_ ?_
       ·rintro b a w' ⟨gb249, m8_, ha, qB210, qB211, qB220, qB228, qHB, qB249, qW249, qE249, q210_249, q249_210, q211_249, q249_211, q220_249, q249_220, q228_249, q249_228, qB249_e9, Q_X8_⟩ hb_ hon hoff
        refine ⟨_, rfl, fun K hK => ?_⟩
        have e19 : a.tmps[19]? = some (m8_) := by rw [ha]; exact putSel_on (e := (8, 19, m8_)) 8 rfl rfl (hon 8 kk) rfl
        rw [Q_X8_ (hon 8 kk)] at e19
        have e127 : a.tmps[127]? = some (.agg #[.int .i64 t247, .int .i64 t248]) := by rw [ha]; exact putSel_on (e := (6, 127, .agg #[.int .i64 t247, .int .i64 t248])) 6 rfl rfl (hon 6 kk) rfl
        replace ha := am ha
        have BK210 := am qB210
        have BK211 := am qB211
        have BK220 := am qB220
        have BK228 := am qB228
        have HB := am qHB
        have BK249 := am (qB249 (hon 8 kk) hb_)
        have GW249 := am (qW249 (hon 8 kk))
        have GE249 := am (qE249 (hon 8 kk))
        have NB210_249 := am (q210_249 (hon 8 kk))
        have NB249_210 := am (q249_210 (hon 8 kk))
        have NB211_249 := am (q211_249 (hon 8 kk))
        have NB249_211 := am (q249_211 (hon 8 kk))
        have NB220_249 := am (q220_249 (hon 8 kk))
        have NB249_220 := am (q249_220 (hon 8 kk))
        have NB228_249 := am (q228_249 (hon 8 kk))
        have NB249_228 := am (q249_228 (hon 8 kk))
        have hs99 : w'.cell? ⟨gb249, 0, none⟩ = some (.int .i64 0) := bc BK249 0
        have hfs99 := blk_frozen BK249.out 0
        have hns99_0 := NB210_249.out
        have hns99_1 := NB211_249.out
        have hns99_2 := NB220_249.out
        have hns99_3 := NB228_249.out
        have hms99_0 := NB249_210.out
        have hms99_1 := NB249_211.out
        have hms99_2 := NB249_220.out
        have hms99_3 := NB249_228.out
        have hs100 : w'.cell? ⟨gb249, 1, none⟩ = some (.int .i64 0) := bc BK249 1
        have hfs100 := blk_frozen BK249.out 1
        have hns100_0 := NB210_249.out
        have hns100_1 := NB211_249.out
        have hns100_2 := NB220_249.out
        have hns100_3 := NB228_249.out
        have hms100_0 := NB249_210.out
        have hms100_1 := NB249_211.out
        have hms100_2 := NB249_220.out
        have hms100_3 := NB249_228.out
        refine skip_ (w1 := ?_) (by rfl) rfl ?_ ?_
        rotate_left
        ·go_simp
         rfl
        refine hK.out _ _ ⟨gb249, m8_, (by rw [ha.out]; exact putSel_none (v := undef) rfl), (by (with_reducible repeat (first | refine blk_drewN ?_ _ | refine blk_drew ?_ | refine blk_alloc ?_ _)); refine blk_far ?_ NB210_249.out _; (with_reducible repeat (first | refine blk_drewN ?_ _ | refine blk_drew ?_ | refine blk_alloc ?_ _)); refine blk_far ?_ NB210_249.out _; (with_reducible repeat (first | refine blk_drewN ?_ _ | refine blk_drew ?_ | refine blk_alloc ?_ _)); exact BK210.out), (by (with_reducible repeat (first | refine blk_drewN ?_ _ | refine blk_drew ?_ | refine blk_alloc ?_ _)); refine blk_far ?_ NB211_249.out _; (with_reducible repeat (first | refine blk_drewN ?_ _ | refine blk_drew ?_ | refine blk_alloc ?_ _)); refine blk_far ?_ NB211_249.out _; (with_reducible repeat (first | refine blk_drewN ?_ _ | refine blk_drew ?_ | refine blk_alloc ?_ _)); exact BK211.out), (by (with_reducible repeat (first | refine blk_drewN ?_ _ | refine blk_drew ?_ | refine blk_alloc ?_ _)); refine blk_far ?_ NB220_249.out _; (with_reducible repeat (first | refine blk_drewN ?_ _ | refine blk_drew ?_ | refine blk_alloc ?_ _)); refine blk_far ?_ NB220_249.out _; (with_reducible repeat (first | refine blk_drewN ?_ _ | refine blk_drew ?_ | refine blk_alloc ?_ _)); exact BK220.out), (by (with_reducible repeat (first | refine blk_drewN ?_ _ | refine blk_drew ?_ | refine blk_alloc ?_ _)); refine blk_far ?_ NB228_249.out _; (with_reducible repeat (first | refine blk_drewN ?_ _ | refine blk_drew ?_ | refine blk_alloc ?_ _)); refine blk_far ?_ NB228_249.out _; (with_reducible repeat (first | refine blk_drewN ?_ _ | refine blk_drew ?_ | refine blk_alloc ?_ _)); exact BK228.out), pw, fun _ h1_ => absurd ((up_self b 9).symm.trans h1_) (by decide), fun _ => GW249.out, fun _ => GE249.out, fun _ => NB210_249.out, fun _ => NB249_210.out, fun _ => NB211_249.out, fun _ => NB249_211.out, fun _ => NB220_249.out, fun _ => NB249_220.out, fun _ => NB228_249.out, fun _ => NB249_228.out, fun _ => (by (with_reducible repeat (first | refine blk_drewN ?_ _ | refine blk_drew ?_ | refine blk_alloc ?_ _)); refine blk_put (cs := #[.int .i64 t247, .int .i64 0]) ?_ 1 _ rfl; (with_reducible repeat (first | refine blk_drewN ?_ _ | refine blk_drew ?_ | refine blk_alloc ?_ _)); refine blk_put (cs := #[.int .i64 0, .int .i64 0]) ?_ 0 _ rfl; (with_reducible repeat (first | refine blk_drewN ?_ _ | refine blk_drew ?_ | refine blk_alloc ?_ _)); exact BK249.out), Q_X8_⟩
       refine steps_cons ?_ ?_
       ·rintro b a w' ⟨gb249, m8_, ha, qB210, qB211, qB220, qB228, qHB, qB249, qW249, qE249, q210_249, q249_210, q211_249, q249_211, q220_249, q249_220, q228_249, q249_228, qB249_e9, Q_X8_⟩ hb_ hon hoff
        refine ⟨_, rfl, fun K hK => ?_⟩
        have e128 : a.tmps[128]? = some (.nilIface) := by rw [ha]; exact putSel_on (e := (7, 128, .nilIface)) 7 rfl rfl (hon 7 kk) rfl
        replace ha := am ha
        have BK210 := am qB210
        have BK211 := am qB211
        have BK220 := am qB220
        have BK228 := am qB228
        have HB := am qHB
        have GW249 := am (qW249 (hon 8 kk))
        have GE249 := am (qE249 (hon 8 kk))
        have NB210_249 := am (q210_249 (hon 8 kk))
        have NB249_210 := am (q249_210 (hon 8 kk))
        have NB211_249 := am (q211_249 (hon 8 kk))
        have NB249_211 := am (q249_211 (hon 8 kk))
        have NB220_249 := am (q220_249 (hon 8 kk))
        have NB249_220 := am (q249_220 (hon 8 kk))
        have NB228_249 := am (q228_249 (hon 8 kk))
        have NB249_228 := am (q249_228 (hon 8 kk))
        have BK249 := am (qB249_e9 (hon 9 kk))
        refine value_ (w1 := w') (v := .nilIface) (by rfl) rfl ?_ ?_
        ·go_simp
         (try simp only [i64_w])
         try rfl
        refine hK.out _ _ ⟨gb249, m8_, (by rw [ha.out]; exact putSel_upk 9 hb_ rfl rfl rfl), qB210, qB211, qB220, qB228, qHB, fun _ h1_ => absurd ((hon 9 kk).symm.trans h1_) (by decide), qW249, qE249, q210_249, q249_210, q211_249, q249_211, q220_249, q249_220, q228_249, q249_228, qB249_e9, Q_X8_⟩
       exact steps_nil
      rintro b a w100 hall ⟨gb249, m8_, ha, qB210, qB211, qB220, qB228, qHB, qB249, qW249, qE249, q210_249, q249_210, q211_249, q249_211, q220_249, q249_220, q228_249, q249_228, qB249_e9, Q_X8_⟩
      clear BK210 BK211 BK220 BK228 HB
      have hb0_ := hall 0 kk
      have hb1_ := hall 1 kk
      have hb2_ := hall 2 kk
      have hb3_ := hall 3 kk
      have hb4_ := hall 4 kk
      have hb5_ := hall 5 kk
      have hb6_ := hall 6 kk
      have hb7_ := hall 7 kk
      have hb8_ := hall 8 kk
      have hb9_ := hall 9 kk
      have hb10_ := hall 10 kk
      subst ha
      obtain rfl := Q_X8_ hb8_
      simp only [putSel, hb0_, hb1_, hb2_, hb3_, hb4_, hb5_, hb6_, hb7_, hb8_, hb9_, hb10_, if_true, Act.put, List.setIfInBounds_toArray, List.set_cons_zero, List.set_cons_succ]
      have BK210 := am qB210
      clear qB210
      have BK211 := am qB211
      clear qB211
      have BK220 := am qB220
      clear qB220
      have BK228 := am qB228
      clear qB228
      have HB := am qHB
      clear qHB
      clear qB249
      have GW249 := am (qW249 hb8_)
      clear qW249
      have GE249 := am (qE249 hb8_)
      clear qE249
      have NB210_249 := am (q210_249 hb8_)
      clear q210_249
      have NB249_210 := am (q249_210 hb8_)
      clear q249_210
      have NB211_249 := am (q211_249 hb8_)
      clear q211_249
      have NB249_211 := am (q249_211 hb8_)
      clear q249_211
      have NB220_249 := am (q220_249 hb8_)
      clear q220_249
      have NB249_220 := am (q249_220 hb8_)
      clear q249_220
      have NB228_249 := am (q228_249 hb8_)
      clear q228_249
      have NB249_228 := am (q249_228 hb8_)
      clear q249_228
      have BK249 := am (qB249_e9 hb9_)
      clear qB249_e9
      clear hall hb0_ hb1_ hb2_ hb3_ hb4_ hb5_ hb6_ hb7_ hb8_ hb9_ hb10_
      try go_wp2
      have n0_ := am (blk_drew BK210.out)
      have n1_ := am (blk_drew BK211.out)
      have n2_ := am (blk_drew BK220.out)
      have n3_ := am (blk_drew BK228.out)
      have n4_ := am (blk_drew BK249.out)
      have n5_ := am (below_drew1 HB.out)
      clear BK210 BK211 BK220 BK228 BK249 HB
      revert n0_ n1_ n2_ n3_ n4_ n5_
      intro BK210 BK211 BK220 BK228 BK249 HB
      refine start_ (n := 11) (S := fun w' => True) (ds := []) #[false, false, false, false, false, false, false, false, false, false, false] kk rfl rfl trivial (fun hHeld => ?_); refine with_tabW L2_CongrLattice.tab18 L2_CongrLattice.bits18 (fun HT_ HW_ => ?_)
      generalize w100.drew = w101 at BK210 BK211 BK220 BK228 BK249 HB hHeld ⊢
      refine inv_at [0, 1, 2, 3, 4, 5, 6, 7, 8, 9, 10] (fun a0_ b a w' => ∃ (gb256 : Nat) (m8_ : Value), a = putSel a0_ b [(0, 130, .agg #[.int .i64 a1_0, .int .i64 a1_1]), (1, 131, .agg #[.int .i64 t250, .int .i64 t251]), (2, 132, .agg #[.int .i64 a0_0, .int .i64 a0_1]), (3, 133, .agg #[.int .i64 t252, .int .i64 t253]), (4, 134, .tuple #[.agg #[.int .i64 t254, .int .i64 t255], .nilIface]), (5, 129, .tuple #[.agg #[.int .i64 t254, .int .i64 t255], .nilIface]), (6, 135, .agg #[.int .i64 t254, .int .i64 t255]), (7, 136, .nilIface), (8, 20, m8_), (10, 10, .nilIface)] ∧ (w'.heap[gb210]? = some (.cells #[.int .i64 a0_0, .int .i64 a0_1] 69 (0, 0))) ∧ (w'.heap[gb211]? = some (.cells #[.int .i64 a1_0, .int .i64 a1_1] 69 (0, 0))) ∧ (w'.heap[gb220]? = some (.cells #[.int .i64 t218, .int .i64 t219] 24 (0, 0))) ∧ (w'.heap[gb228]? = some (.cells #[.int .i64 t225, .int .i64 t226] 24 (0, 0))) ∧ (w'.heap[gb249]? = some (.cells #[.int .i64 t247, .int .i64 t248] 24 (0, 0))) ∧ (Below w.heap.size w w') ∧ (b 8 = true → b 9 = false → w'.heap[gb256]? = some (.cells #[.int .i64 0, .int .i64 0] 24 (0, 0))) ∧ (b 8 = true → w.heap.size ≤ gb256) ∧ (b 8 = true → w.heap.size ≤ gb256) ∧ (b 8 = true → gb210 ≠ gb256) ∧ (b 8 = true → gb256 ≠ gb210) ∧ (b 8 = true → gb211 ≠ gb256) ∧ (b 8 = true → gb256 ≠ gb211) ∧ (b 8 = true → gb220 ≠ gb256) ∧ (b 8 = true → gb256 ≠ gb220) ∧ (b 8 = true → gb228 ≠ gb256) ∧ (b 8 = true → gb256 ≠ gb228) ∧ (b 8 = true → gb249 ≠ gb256) ∧ (b 8 = true → gb256 ≠ gb249) ∧ (b 9 = true → w'.heap[gb256]? = some (.cells #[.int .i64 t254, .int .i64 t255] 24 (0, 0))) ∧ (b 8 = true → (m8_ : Value) = .pointer (some ⟨gb256, 0, none⟩))) HT_.out HW_.out kk kk ?_ ?_ ?_
      ·exact ⟨0, .bool false, by simp only [putSel, Bool.false_eq_true, if_false], BK210.out, BK211.out, BK220.out, BK228.out, BK249.out, HB.out, fun h_ => absurd h_ (by decide), fun h_ => absurd h_ (by decide), fun h_ => absurd h_ (by decide), fun h_ => absurd h_ (by decide), fun h_ => absurd h_ (by decide), fun h_ => absurd h_ (by decide), fun h_ => absurd h_ (by decide), fun h_ => absurd h_ (by decide), fun h_ => absurd h_ (by decide), fun h_ => absurd h_ (by decide), fun h_ => absurd h_ (by decide), fun h_ => absurd h_ (by decide), fun h_ => absurd h_ (by decide), fun h_ => absurd h_ (by decide), fun h_ => absurd h_ (by decide)⟩
      ·skip
       clear BK210 BK211 BK220 BK228 BK249 HB
       refine steps_cons ?_ ?_
       ·rintro b a w' ⟨gb256, m8_, ha, qB210, qB211, qB220, qB228, qB249, qHB, qB256, qW256, qE256, q210_256, q256_210, q211_256, q256_211, q220_256, q256_220, q228_256, q256_228, q249_256, q256_249, qB256_e9, Q_X8_⟩ hb_ hon hoff
        refine ⟨_, rfl, fun K hK => ?_⟩
        have e3 : a.tmps[3]? = some (.pointer (some ⟨gb211, 0, none⟩)) := by rw [ha]; exact (putSel_off rfl).trans rfl
        replace ha := am ha
        have BK210 := am qB210
        have BK211 := am qB211
        have BK220 := am qB220
        have BK228 := am qB228
        have BK249 := am qB249
        have HB := am qHB
        have hc0_ : w'.cell? ⟨gb211, 0, none⟩ = some (.int .i64 a1_0) := bc BK211 0
        have hc1_ : w'.cell? ⟨gb211, 1, none⟩ = some (.int .i64 a1_1) := bc BK211 1
        refine value_ (w1 := w') (v := .agg #[.int .i64 a1_0, .int .i64 a1_1]) (by rfl) rfl ?_ ?_
        ·go_simp
         (try simp only [i64_w])
         try rfl
        refine hK.out _ _ ⟨gb256, m8_, (by rw [ha.out]; exact putSel_upk 0 hb_ rfl rfl rfl), qB210, qB211, qB220, qB228, qB249, qHB, qB256, qW256, qE256, q210_256, q256_210, q211_256, q256_211, q220_256, q256_220, q228_256, q256_228, q249_256, q256_249, fun h0_ => absurd ((hoff 9 kk).symm.trans h0_) (by decide), Q_X8_⟩
       refine steps_cons ?_ ?_
       ·rintro b a w' ⟨gb256, m8_, ha, qB210, qB211, qB220, qB228, qB249, qHB, qB256, qW256, qE256, q210_256, q256_210, q211_256, q256_211, q220_256, q256_220, q228_256, q256_228, q249_256, q256_249, qB256_e9, Q_X8_⟩ hb_ hon hoff
        refine ⟨_, rfl, fun K hK => ?_⟩
        have e130 : a.tmps[130]? = some (.agg #[.int .i64 a1_0, .int .i64 a1_1]) := by rw [ha]; exact putSel_on (e := (0, 130, .agg #[.int .i64 a1_0, .int .i64 a1_1])) 0 rfl rfl (hon 0 kk) rfl
        replace ha := am ha
        have BK210 := am qB210
        have BK211 := am qB211
        have BK220 := am qB220
        have BK228 := am qB228
        have BK249 := am qB249
        have HB := am qHB
        refine goes_ Tryd.func41 kk rfl #[.agg #[.int .i64 a1_0, .int .i64 a1_1]] (by rfl) rfl rfl (by first | (simp only [List.map_toArray, List.map_cons, List.map_nil, Act.eval, Array.getD_eq_getD_getElem?, Option.getD_some, e130]; done) | (simp only [List.map_toArray, List.map_cons, List.map_nil, Act.eval, Array.getD_eq_getD_getElem?, Option.getD_some, e130]; rfl)) ?_
        with_reducible refine (L2_own.calls a1_0 a1_1 t250 t251 _ A78.out).mono ?_
        rintro e w102 ⟨rfl, hb⟩
        refine ⟨_, rfl, ?_⟩
        have n0_ := bb BK210 hb
        have n1_ := bb BK211 hb
        have n2_ := bb BK220 hb
        have n3_ := bb BK228 hb
        have n4_ := bb BK249 hb
        have n5_ := am (below_step pw hb)
        have z_BK256 := fun (h0_ : b 8 = true) (h1_ : b 9 = false) => (show w102.heap[gb256]? = some (.cells #[.int .i64 0, .int .i64 0] 24 (0, 0)) from by first | exact (blk_below (g := gb256) (o := .cells #[.int .i64 0, .int .i64 0] 24 (0, 0)) (by (with_reducible repeat (first | refine blk_drewN ?_ _ | refine blk_drew ?_ | refine blk_alloc ?_ _)); exact (qB256 h0_ h1_)) hb))
        clear BK210 BK211 BK220 BK228 BK249 HB
        revert n0_ n1_ n2_ n3_ n4_ n5_
        intro BK210 BK211 BK220 BK228 BK249 HB
        (try clear hb)
        (try clear hb2)
        (try clear hk)
        (try clear hi)
        refine hK.out _ _ ⟨gb256, m8_, (by rw [ha.out]; exact putSel_upk 1 hb_ rfl rfl rfl), pk, pk, pk, pk, pk, pw, z_BK256, qW256, qE256, q210_256, q256_210, q211_256, q256_211, q220_256, q256_220, q228_256, q256_228, q249_256, q256_249, fun h0_ => absurd ((hoff 9 kk).symm.trans h0_) (by decide), Q_X8_⟩
       refine steps_cons ?_ ?_
       ·rintro b a w' ⟨gb256, m8_, ha, qB210, qB211, qB220, qB228, qB249, qHB, qB256, qW256, qE256, q210_256, q256_210, q211_256, q256_211, q220_256, q256_220, q228_256, q256_228, q249_256, q256_249, qB256_e9, Q_X8_⟩ hb_ hon hoff
        refine ⟨_, rfl, fun K hK => ?_⟩
        have e2 : a.tmps[2]? = some (.pointer (some ⟨gb210, 0, none⟩)) := by rw [ha]; exact (putSel_off rfl).trans rfl
        replace ha := am ha
        have BK210 := am qB210
        have BK211 := am qB211
        have BK220 := am qB220
        have BK228 := am qB228
        have BK249 := am qB249
        have HB := am qHB
        have hc0_ : w'.cell? ⟨gb210, 0, none⟩ = some (.int .i64 a0_0) := bc BK210 0
        have hc1_ : w'.cell? ⟨gb210, 1, none⟩ = some (.int .i64 a0_1) := bc BK210 1
        refine value_ (w1 := w') (v := .agg #[.int .i64 a0_0, .int .i64 a0_1]) (by rfl) rfl ?_ ?_
        ·go_simp
         (try simp only [i64_w])
         try rfl
        refine hK.out _ _ ⟨gb256, m8_, (by rw [ha.out]; exact putSel_upk 2 hb_ rfl rfl rfl), qB210, qB211, qB220, qB228, qB249, qHB, qB256, qW256, qE256, q210_256, q256_210, q211_256, q256_211, q220_256, q256_220, q228_256, q256_228, q249_256, q256_249, fun h0_ => absurd ((hoff 9 kk).symm.trans h0_) (by decide), Q_X8_⟩
       refine steps_cons ?_ ?_
       ·rintro b a w' ⟨gb256, m8_, ha, qB210, qB211, qB220, qB228, qB249, qHB, qB256, qW256, qE256, q210_256, q256_210, q211_256, q256_211, q220_256, q256_220, q228_256, q256_228, q249_256, q256_249, qB256_e9, Q_X8_⟩ hb_ hon hoff
        refine ⟨_, rfl, fun K hK => ?_⟩
        have e132 : a.tmps[132]? = some (.agg #[.int .i64 a0_0, .int .i64 a0_1]) := by rw [ha]; exact putSel_on (e := (2, 132, .agg #[.int .i64 a0_0, .int .i64 a0_1])) 2 rfl rfl (hon 2 kk) rfl
        replace ha := am ha
        have BK210 := am qB210
        have BK211 := am qB211
        have BK220 := am qB220
        have BK228 := am qB228
        have BK249 := am qB249
        have HB := am qHB
        refine goes_ Tryd.func41 kk rfl #[.agg #[.int .i64 a0_0, .int .i64 a0_1]] (by rfl) rfl rfl (by first | (simp only [List.map_toArray, List.map_cons, List.map_nil, Act.eval, Array.getD_eq_getD_getElem?, Option.getD_some, e132]; done) | (simp only [List.map_toArray, List.map_cons, List.map_nil, Act.eval, Array.getD_eq_getD_getElem?, Option.getD_some, e132]; rfl)) ?_
        with_reducible refine (L2_own.calls a0_0 a0_1 t252 t253 _ A79.out).mono ?_
        rintro e w104 ⟨rfl, hb⟩
        refine ⟨_, rfl, ?_⟩
        have n0_ := bb BK210 hb
        have n1_ := bb BK211 hb
        have n2_ := bb BK220 hb
        have n3_ := bb BK228 hb
        have n4_ := bb BK249 hb
        have n5_ := am (below_step pw hb)
        have z_BK256 := fun (h0_ : b 8 = true) (h1_ : b 9 = false) => (show w104.heap[gb256]? = some (.cells #[.int .i64 0, .int .i64 0] 24 (0, 0)) from by first | exact (blk_below (g := gb256) (o := .cells #[.int .i64 0, .int .i64 0] 24 (0, 0)) (by (with_reducible repeat (first | refine blk_drewN ?_ _ | refine blk_drew ?_ | refine blk_alloc ?_ _)); exact (qB256 h0_ h1_)) hb))
        clear BK210 BK211 BK220 BK228 BK249 HB
        revert n0_ n1_ n2_ n3_ n4_ n5_
        intro BK210 BK211 BK220 BK228 BK249 HB
        (try clear hb)
        (try clear hb2)
        (try clear hk)
        (try clear hi)
        refine hK.out _ _ ⟨gb256, m8_, (by rw [ha.out]; exact putSel_upk 3 hb_ rfl rfl rfl), pk, pk, pk, pk, pk, pw, z_BK256, qW256, qE256, q210_256, q256_210, q211_256, q256_211, q220_256, q256_220, q228_256, q256_228, q249_256, q256_249, fun h0_ => absurd ((hoff 9 kk).symm.trans h0_) (by decide), Q_X8_⟩
       refine steps_cons ?_ ?_
       ·rintro b a w' ⟨gb256, m8_, ha, qB210, qB211, qB220, qB228, qB249, qHB, qB256, qW256, qE256, q210_256, q256_210, q211_256, q256_211, q220_256, q256_220, q228_256, q256_228, q249_256, q256_249, qB256_e9, Q_X8_⟩ hb_ hon hoff
        refine ⟨_, rfl, fun K hK => ?_⟩
        have e131 : a.tmps[131]? = some (.agg #[.int .i64 t250, .int .i64 t251]) := by rw [ha]; exact putSel_on (e := (1, 131, .agg #[.int .i64 t250, .int .i64 t251])) 1 rfl rfl (hon 1 kk) rfl
        have e133 : a.tmps[133]? = some (.agg #[.int .i64 t252, .int .i64 t253]) := by rw [ha]; exact putSel_on (e := (3, 133, .agg #[.int .i64 t252, .int .i64 t253])) 3 rfl rfl (hon 3 kk) rfl
        replace ha := am ha
        have BK210 := am qB210
        have BK211 := am qB211
        have BK220 := am qB220
        have BK228 := am qB228
        have BK249 := am qB249
        have HB := am qHB
        refine goes_ Tryd.func43 kk rfl #[.agg #[.int .i64 t250, .int .i64 t251], .agg #[.int .i64 t252, .int .i64 t253]] (by rfl) rfl rfl (by first | (simp only [List.map_toArray, List.map_cons, List.map_nil, Act.eval, Array.getD_eq_getD_getElem?, Option.getD_some, e131, e133]; done) | (simp only [List.map_toArray, List.map_cons, List.map_nil, Act.eval, Array.getD_eq_getD_getElem?, Option.getD_some, e131, e133]; rfl)) ?_
        with_reducible refine (congr_Add_ok.calls kj49 t250 t251 t252 t253 t254 t255 _ A80.out (am (ErrAt.below hE2.out pw)).out (am (ErrAt.below hE3.out pw)).out).mono ?_
        rintro e w105 ⟨rfl, hb⟩
        refine ⟨_, rfl, ?_⟩
        have n0_ := bb BK210 hb
        have n1_ := bb BK211 hb
        have n2_ := bb BK220 hb
        have n3_ := bb BK228 hb
        have n4_ := bb BK249 hb
        have n5_ := am (below_step pw hb)
        have z_BK256 := fun (h0_ : b 8 = true) (h1_ : b 9 = false) => (show w105.heap[gb256]? = some (.cells #[.int .i64 0, .int .i64 0] 24 (0, 0)) from by first | exact (blk_below (g := gb256) (o := .cells #[.int .i64 0, .int .i64 0] 24 (0, 0)) (by (with_reducible repeat (first | refine blk_drewN ?_ _ | refine blk_drew ?_ | refine blk_alloc ?_ _)); exact (qB256 h0_ h1_)) hb))
        clear BK210 BK211 BK220 BK228 BK249 HB
        revert n0_ n1_ n2_ n3_ n4_ n5_
        intro BK210 BK211 BK220 BK228 BK249 HB
        (try clear hb)
        (try clear hb2)
        (try clear hk)
        (try clear hi)
        refine hK.out _ _ ⟨gb256, m8_, (by rw [ha.out]; exact putSel_upk 4 hb_ rfl rfl rfl), pk, pk, pk, pk, pk, pw, z_BK256, qW256, qE256, q210_256, q256_210, q211_256, q256_211, q220_256, q256_220, q228_256, q256_228, q249_256, q256_249, fun h0_ => absurd ((hoff 9 kk).symm.trans h0_) (by decide), Q_X8_⟩
       refine steps_cons ?_ ?_
       ·rintro b a w' ⟨gb256, m8_, ha, qB210, qB211, qB220, qB228, qB249, qHB, qB256, qW256, qE256, q210_256, q256_210, q211_256, q256_211, q220_256, q256_220, q228_256, q256_228, q249_256, q256_249, qB256_e9, Q_X8_⟩ hb_ hon hoff
        refine ⟨_, rfl, fun K hK => ?_⟩
        have e134 : a.tmps[134]? = some (.tuple #[.agg #[.int .i64 t254, .int .i64 t255], .nilIface]) := by rw [ha]; exact putSel_on (e := (4, 134, .tuple #[.agg #[.int .i64 t254, .int .i64 t255], .nilIface])) 4 rfl rfl (hon 4 kk) rfl
        replace ha := am ha
        have BK210 := am qB210
        have BK211 := am qB211
        have BK220 := am qB220
        have BK228 := am qB228
        have BK249 := am qB249
        have HB := am qHB
        refine value_ (w1 := w') (v := .tuple #[.agg #[.int .i64 t254, .int .i64 t255], .nilIface]) (by rfl) rfl ?_ ?_
        ·go_simp
         (try simp only [i64_w])
         try rfl
        refine hK.out _ _ ⟨gb256, m8_, (by rw [ha.out]; exact putSel_upk 5 hb_ rfl rfl rfl), qB210, qB211, qB220, qB228, qB249, qHB, qB256, qW256, qE256, q210_256, q256_210, q211_256, q256_211, q220_256, q256_220, q228_256, q256_228, q249_256, q256_249, fun h0_ => absurd ((hoff 9 kk).symm.trans h0_) (by decide), Q_X8_⟩
       refine steps_cons ?_ ?_
       ·rintro b a w' ⟨gb256, m8_, ha, qB210, qB211, qB220, qB228, qB249, qHB, qB256, qW256, qE256, q210_256, q256_210, q211_256, q256_211, q220_256, q256_220, q228_256, q256_228, q249_256, q256_249, qB256_e9, Q_X8_⟩ hb_ hon hoff
        refine ⟨_, rfl, fun K hK => ?_⟩
        have e129 : a.tmps[129]? = some (.tuple #[.agg #[.int .i64 t254, .int .i64 t255], .nilIface]) := by rw [ha]; exact putSel_on (e := (5, 129, .tuple #[.agg #[.int .i64 t254, .int .i64 t255], .nilIface])) 5 rfl rfl (hon 5 kk) rfl
        replace ha := am ha
        have BK210 := am qB210
        have BK211 := am qB211
        have BK220 := am qB220
        have BK228 := am qB228
        have BK249 := am qB249
        have HB := am qHB
        refine value_ (w1 := w') (v := .agg #[.int .i64 t254, .int .i64 t255]) (by rfl) rfl ?_ ?_
        ·go_simp
         (try simp only [i64_w])
         try rfl
        refine hK.out _ _ ⟨gb256, m8_, (by rw [ha.out]; exact putSel_upk 6 hb_ rfl rfl rfl), qB210, qB211, qB220, qB228, qB249, qHB, qB256, qW256, qE256, q210_256, q256_210, q211_256, q256_211, q220_256, q256_220, q228_256, q256_228, q249_256, q256_249, fun h0_ => absurd ((hoff 9 kk).symm.trans h0_) (by decide), Q_X8_⟩
       refine steps_cons ?_ ?_
       ·rintro b a w' ⟨gb256, m8_, ha, qB210, qB211, qB220, qB228, qB249, qHB, qB256, qW256, qE256, q210_256, q256_210, q211_256, q256_211, q220_256, q256_220, q228_256, q256_228, q249_256, q256_249, qB256_e9, Q_X8_⟩ hb_ hon hoff
        refine ⟨_, rfl, fun K hK => ?_⟩
        have e129 : a.tmps[129]? = some (.tuple #[.agg #[.int .i64 t254, .int .i64 t255], .nilIface]) := by rw [ha]; exact putSel_on (e := (5, 129, .tuple #[.agg #[.int .i64 t254, .int .i64 t255], .nilIface])) 5 rfl rfl (hon 5 kk) rfl
        replace ha := am ha
        have BK210 := am qB210
        have BK211 := am qB211
        have BK220 := am qB220
        have BK228 := am qB228
        have BK249 := am qB249
        have HB := am qHB
        refine value_ (w1 := w') (v := .nilIface) (by rfl) rfl ?_ ?_
        ·go_simp
         (try simp only [i64_w])
         try rfl
        refine hK.out _ _ ⟨gb256, m8_, (by rw [ha.out]; exact putSel_upk 7 hb_ rfl rfl rfl), qB210, qB211, qB220, qB228, qB249, qHB, qB256, qW256, qE256, q210_256, q256_210, q211_256, q256_211, q220_256, q256_220, q228_256, q256_228, q249_256, q256_249, qB256_e9, Q_X8_⟩
       refine steps_cons ?_ ?_
       ·rintro b a w' ⟨gb256, m8_, ha, qB210, qB211, qB220, qB228, qB249, qHB, qB256, qW256, qE256, q210_256, q256_210, q211_256, q256_211, q220_256, q256_220, q228_256, q256_228, q249_256, q256_249, qB256_e9, Q_X8_⟩ hb_ hon hoff
        refine ⟨_, rfl, fun K hK => ?_⟩
        replace ha := am ha
        have BK210 := am qB210
        have BK211 := am qB211
        have BK220 := am qB220
        have BK228 := am qB228
        have BK249 := am qB249
        have HB := am qHB
        refine box_step ?hg (N := 20) ?hd (cs := #[.int .i64 0, .int .i64 0]) (t := 24) ?hr ?_; (case hd => rfl); (case hg => rfl); (case hr => first | (go_simp; done) | (go_simp; rfl))
        intro gb256 hg w102 hbox hb
        have n0_ := bb BK210 hb
        have n1_ := bb BK211 hb
        have n2_ := bb BK220 hb
        have n3_ := bb BK228 hb
        have n4_ := bb BK249 hb
        have n5_ := am (below_step pw hb)
        have n6_ := am (hbox)
        have n7_ := am ((by rw [hg]; exact (below_size pw) : w.heap.size ≤ gb256))
        have n8_ := am ((by rw [hg]; exact (below_size pw) : w.heap.size ≤ gb256))
        have n9_ := am ((by rw [hg]; exact Nat.ne_of_lt (blk_lt pk) : gb210 ≠ gb256))
        have n10_ := am ((by rw [hg]; exact Nat.ne_of_gt (blk_lt pk) : gb256 ≠ gb210))
        have n11_ := am ((by rw [hg]; exact Nat.ne_of_lt (blk_lt pk) : gb211 ≠ gb256))
        have n12_ := am ((by rw [hg]; exact Nat.ne_of_gt (blk_lt pk) : gb256 ≠ gb211))
        have n13_ := am ((by rw [hg]; exact Nat.ne_of_lt (blk_lt pk) : gb220 ≠ gb256))
        have n14_ := am ((by rw [hg]; exact Nat.ne_of_gt (blk_lt pk) : gb256 ≠ gb220))
        have n15_ := am ((by rw [hg]; exact Nat.ne_of_lt (blk_lt pk) : gb228 ≠ gb256))
        have n16_ := am ((by rw [hg]; exact Nat.ne_of_gt (blk_lt pk) : gb256 ≠ gb228))
        have n17_ := am ((by rw [hg]; exact Nat.ne_of_lt (blk_lt pk) : gb249 ≠ gb256))
        have n18_ := am ((by rw [hg]; exact Nat.ne_of_gt (blk_lt pk) : gb256 ≠ gb249))
        clear BK210 BK211 BK220 BK228 BK249 HB
        revert n0_ n1_ n2_ n3_ n4_ n5_ n6_ n7_ n8_ n9_ n10_ n11_ n12_ n13_ n14_ n15_ n16_ n17_ n18_
        intro BK210 BK211 BK220 BK228 BK249 HB BK256 GW256 GE256 NB210_256 NB256_210 NB211_256 NB256_211 NB220_256 NB256_220 NB228_256 NB256_228 NB249_256 NB256_249
        clear hb hbox hg
        refine hK.out _ _ ⟨gb256, (.pointer (some ⟨gb256, 0, none⟩)), (by rw [ha.out]; exact putSel_upk 8 hb_ rfl rfl rfl), pk, pk, pk, pk, pk, pw, fun _ _ => pk, fun _ => GW256.out, fun _ => GE256.out, fun _ => NB210_256.out, fun _ => NB256_210.out, fun _ => NB211_256.out, fun _ => NB256_211.out, fun _ => NB220_256.out, fun _ => NB256_220.out, fun _ => NB228_256.out, fun _ => NB256_228.out, fun _ => NB249_256.out, fun _ => NB256_249.out, fun h0_ => absurd ((hoff 9 kk).symm.trans h0_) (by decide), fun _ => rfl⟩
       refine steps_cons ?_ ?_
       ·rintro b a w' ⟨gb256, m8_, ha, qB210, qB211, qB220, qB228, qB249, qHB, qB256, qW256, qE256, q210_256, q256_210, q211_256, q256_211, q220_256, q256_220, q228_256, q256_228, q249_256, q256_249, qB256_e9, Q_X8_⟩ hb_ hon hoff
        refine ⟨_, rfl, fun K hK => ?_⟩
        have e20 : a.tmps[20]? = some (m8_) := by rw [ha]; exact putSel_on (e := (8, 20, m8_)) 8 rfl rfl (hon 8 kk) rfl
        rw [Q_X8_ (hon 8 kk)] at e20
        have e135 : a.tmps[135]? = some (.agg #[.int .i64 t254, .int .i64 t255]) := by rw [ha]; exact putSel_on (e := (6, 135, .agg #[.int .i64 t254, .int .i64 t255])) 6 rfl rfl (hon 6 kk) rfl
        replace ha := am ha
        have BK210 := am qB210
        have BK211 := am qB211
        have BK220 := am qB220
        have BK228 := am qB228
        have BK249 := am qB249
        have HB := am qHB
        have BK256 := am (qB256 (hon 8 kk) hb_)
        have GW256 := am (qW256 (hon 8 kk))
        have GE256 := am (qE256 (hon 8 kk))
        have NB210_256 := am (q210_256 (hon 8 kk))
        have NB256_210 := am (q256_210 (hon 8 kk))
        have NB211_256 := am (q211_256 (hon 8 kk))
        have NB256_211 := am (q256_211 (hon 8 kk))
        have NB220_256 := am (q220_256 (hon 8 kk))
        have NB256_220 := am (q256_220 (hon 8 kk))
        have NB228_256 := am (q228_256 (hon 8 kk))
        have NB256_228 := am (q256_228 (hon 8 kk))
        have NB249_256 := am (q249_256 (hon 8 kk))
        have NB256_249 := am (q256_249 (hon 8 kk))
        have hs107 : w'.cell? ⟨gb256, 0, none⟩ = some (.int .i64 0) := bc BK256 0
        have hfs107 := blk_frozen BK256.out 0
        have hns107_0 := NB210_256.out
        have hns107_1 := NB211_256.out
        have hns107_2 := NB220_256.out
        have hns107_3 := NB228_256.out
        have hns107_4 := NB249_256.out
        have hms107_0 := NB256_210.out
        have hms107_1 := NB256_211.out
        have hms107_2 := NB256_220.out
        have hms107_3 := NB256_228.out
        have hms107_4 := NB256_249.out
        have hs108 : w'.cell? ⟨gb256, 1, none⟩ = some (.int .i64 0) := bc BK256 1
        have hfs108 := blk_frozen BK256.out 1
        have hns108_0 := NB210_256.out
        have hns108_1 := NB211_256.out
        have hns108_2 := NB220_256.out
        have hns108_3 := NB228_256.out
        have hns108_4 := NB249_256.out
        have hms108_0 := NB256_210.out
        have hms108_1 := NB256_211.out
        have hms108_2 := NB256_220.out
        have hms108_3 := NB256_228.out
        have hms108_4 := NB256_249.out
        refine skip_ (w1 := ?_) (by rfl) rfl ?_ ?_
        rotate_left
        ·go_simp
         rfl
        refine hK.out _ _ ⟨gb256, m8_, (by rw [ha.out]; exact putSel_none (v := undef) rfl), (by (with_reducible repeat (first | refine blk_drewN ?_ _ | refine blk_drew ?_ | refine blk_alloc ?_ _)); refine blk_far ?_ NB210_256.out _; (with_reducible repeat (first | refine blk_drewN ?_ _ | refine blk_drew ?_ | refine blk_alloc ?_ _)); refine blk_far ?_ NB210_256.out _; (with_reducible repeat (first | refine blk_drewN ?_ _ | refine blk_drew ?_ | refine blk_alloc ?_ _)); exact BK210.out), (by (with_reducible repeat (first | refine blk_drewN ?_ _ | refine blk_drew ?_ | refine blk_alloc ?_ _)); refine blk_far ?_ NB211_256.out _; (with_reducible repeat (first | refine blk_drewN ?_ _ | refine blk_drew ?_ | refine blk_alloc ?_ _)); refine blk_far ?_ NB211_256.out _; (with_reducible repeat (first | refine blk_drewN ?_ _ | refine blk_drew ?_ | refine blk_alloc ?_ _)); exact BK211.out), (by (with_reducible repeat (first | refine blk_drewN ?_ _ | refine blk_drew ?_ | refine blk_alloc ?_ _)); refine blk_far ?_ NB220_256.out _; (with_reducible repeat (first | refine blk_drewN ?_ _ | refine blk_drew ?_ | refine blk_alloc ?_ _)); refine blk_far ?_ NB220_256.out _; (with_reducible repeat (first | refine blk_drewN ?_ _ | refine blk_drew ?_ | refine blk_alloc ?_ _)); exact BK220.out), (by (with_reducible repeat (first | refine blk_drewN ?_ _ | refine blk_drew ?_ | refine blk_alloc ?_ _)); refine blk_far ?_ NB228_256.out _; (with_reducible repeat (first | refine blk_drewN ?_ _ | refine blk_drew ?_ | refine blk_alloc ?_ _)); refine blk_far ?_ NB228_256.out _; (with_reducible repeat (first | refine blk_drewN ?_ _ | refine blk_drew ?_ | refine blk_alloc ?_ _)); exact BK228.out), (by (with_reducible repeat (first | refine blk_drewN ?_ _ | refine blk_drew ?_ | refine blk_alloc ?_ _)); refine blk_far ?_ NB249_256.out _; (with_reducible repeat (first | refine blk_drewN ?_ _ | refine blk_drew ?_ | refine blk_alloc ?_ _)); refine blk_far ?_ NB249_256.out _; (with_reducible repeat (first | refine blk_drewN ?_ _ | refine blk_drew ?_ | refine blk_alloc ?_ _)); exact BK249.out), pw, fun _ h1_ => absurd ((up_self b 9).symm.trans h1_) (by decide), fun _ => GW256.out, fun _ => GE256.out, fun _ => NB210_256.out, fun _ => NB256_210.out, fun _ => NB211_256.out, fun _ => NB256_211.out, fun _ => NB220_256.out, fun _ => NB256_220.out, fun _ => NB228_256.out, fun _ => NB256_228.out, fun _ => NB249_256.out, fun _ => NB256_249.out, fun _ => (by (with_reducible repeat (first | refine blk_drewN ?_ _ | refine blk_drew ?_ | refine blk_alloc ?_ _)); refine blk_put (cs := #[.int .i64 t254, .int .i64 0]) ?_ 1 _ rfl; (with_reducible repeat (first | refine blk_drewN ?_ _ | refine blk_drew ?_ | refine blk_alloc ?_ _)); refine blk_put (cs := #[.int .i64 0, .int .i64 0]) ?_ 0 _ rfl; (with_reducible repeat (first | refine blk_drewN ?_ _ | refine blk_drew ?_ | refine blk_alloc ?_ _)); exact BK256.out), Q_X8_⟩
       refine steps_cons ?_ ?_
       ·rintro b a w' ⟨gb256, m8_, ha, qB210, qB211, qB220, qB228, qB249, qHB, qB256, qW256, qE256, q210_256, q256_210, q211_256, q256_211, q220_256, q256_220, q228_256, q256_228, q249_256, q256_249, qB256_e9, Q_X8_⟩ hb_ hon hoff
        refine ⟨_, rfl, fun K hK => ?_⟩
        have e136 : a.tmps[136]? = some (.nilIface) := by rw [ha]; exact putSel_on (e := (7, 136, .nilIface)) 7 rfl rfl (hon 7 kk) rfl
        replace ha := am ha
        have BK210 := am qB210
        have BK211 := am qB211
        have BK220 := am qB220
        have BK228 := am qB228
        have BK249 := am qB249
        have HB := am qHB
        have GW256 := am (qW256 (hon 8 kk))
        have GE256 := am (qE256 (hon 8 kk))
        have NB210_256 := am (q210_256 (hon 8 kk))
        have NB256_210 := am (q256_210 (hon 8 kk))
        have NB211_256 := am (q211_256 (hon 8 kk))
        have NB256_211 := am (q256_211 (hon 8 kk))
        have NB220_256 := am (q220_256 (hon 8 kk))
        have NB256_220 := am (q256_220 (hon 8 kk))
        have NB228_256 := am (q228_256 (hon 8 kk))
        have NB256_228 := am (q256_228 (hon 8 kk))
        have NB249_256 := am (q249_256 (hon 8 kk))
        have NB256_249 := am (q256_249 (hon 8 kk))
        have BK256 := am (qB256_e9 (hon 9 kk))
        refine value_ (w1 := w') (v := .nilIface) (by rfl) rfl ?_ ?_
        ·go_simp
         (try simp only [i64_w])
         try rfl
        refine hK.out _ _ ⟨gb256, m8_, (by rw [ha.out]; exact putSel_upk 9 hb_ rfl rfl rfl), qB210, qB211, qB220, qB228, qB249, qHB, fun _ h1_ => absurd ((hon 9 kk).symm.trans h1_) (by decide), qW256, qE256, q210_256, q256_210, q211_256, q256_211, q220_256, q256_220, q228_256, q256_228, q249_256, q256_249, qB256_e9, Q_X8_⟩
       exact steps_nil
      rintro b a w108 hall ⟨gb256, m8_, ha, qB210, qB211, qB220, qB228, qB249, qHB, qB256, qW256, qE256, q210_256, q256_210, q211_256, q256_211, q220_256, q256_220, q228_256, q256_228, q249_256, q256_249, qB256_e9, Q_X8_⟩
      clear BK210 BK211 BK220 BK228 BK249 HB
      have hb0_ := hall 0 kk
      have hb1_ := hall 1 kk
      have hb2_ := hall 2 kk
      have hb3_ := hall 3 kk
      have hb4_ := hall 4 kk
      have hb5_ := hall 5 kk
      have hb6_ := hall 6 kk
      have hb7_ := hall 7 kk
      have hb8_ := hall 8 kk
      have hb9_ := hall 9 kk
      have hb10_ := hall 10 kk
      subst ha
      obtain rfl := Q_X8_ hb8_
      simp only [putSel, hb0_, hb1_, hb2_, hb3_, hb4_, hb5_, hb6_, hb7_, hb8_, hb9_, hb10_, if_true, Act.put, List.setIfInBounds_toArray, List.set_cons_zero, List.set_cons_succ]
      have BK210 := am qB210
      clear qB210
      have BK211 := am qB211
      clear qB211
      have BK220 := am qB220
      clear qB220
      have BK228 := am qB228
      clear qB228
      have BK249 := am qB249
      clear qB249
      have HB := am qHB
      clear qHB
      clear qB256
      have GW256 := am (qW256 hb8_)
      clear qW256
      have GE256 := am (qE256 hb8_)
      clear qE256
      have NB210_256 := am (q210_256 hb8_)
      clear q210_256
      have NB256_210 := am (q256_210 hb8_)
      clear q256_210
      have NB211_256 := am (q211_256 hb8_)
      clear q211_256
      have NB256_211 := am (q256_211 hb8_)
      clear q256_211
      have NB220_256 := am (q220_256 hb8_)
      clear q220_256
      have NB256_220 := am (q256_220 hb8_)
      clear q256_220
      have NB228_256 := am (q228_256 hb8_)
      clear q228_256
      have NB256_228 := am (q256_228 hb8_)
      clear q256_228
      have NB249_256 := am (q249_256 hb8_)
      clear q249_256
      have NB256_249 := am (q256_249 hb8_)
      clear q256_249
      have BK256 := am (qB256_e9 hb9_)
      clear qB256_e9
      clear hall hb0_ hb1_ hb2_ hb3_ hb4_ hb5_ hb6_ hb7_ hb8_ hb9_ hb10_
      try go_wp2
      have n0_ := am (blk_drew BK210.out)
      have n1_ := am (blk_drew BK211.out)
      have n2_ := am (blk_drew BK220.out)
      have n3_ := am (blk_drew BK228.out)
      have n4_ := am (blk_drew BK249.out)
      have n5_ := am (blk_drew BK256.out)
      have n6_ := am (below_drew1 HB.out)
      clear BK210 BK211 BK220 BK228 BK249 BK256 HB
      revert n0_ n1_ n2_ n3_ n4_ n5_ n6_
      intro BK210 BK211 BK220 BK228 BK249 BK256 HB
      refine start_ (n := 11) (S := fun w' => True) (ds := []) #[false, false, false, false, false, false, false, false, false, false, false] kk rfl rfl trivial (fun hHeld => ?_); refine with_tabW L2_CongrLattice.tab19 L2_CongrLattice.bits19 (fun HT_ HW_ => ?_)
      generalize w108.drew = w109 at BK210 BK211 BK220 BK228 BK249 BK256 HB hHeld ⊢
      refine inv_at [0, 1, 2, 3, 4, 5, 6, 7, 8, 9, 10] (fun a0_ b a w' => ∃ (gb263 : Nat) (m8_ : Value), a = putSel a0_ b [(0, 138, .agg #[.int .i64 a0_0, .int .i64 a0_1]), (1, 139, .agg #[.int .i64 t257, .int .i64 t258]), (2, 140, .agg #[.int .i64 a1_0, .int .i64 a1_1]), (3, 141, .agg #[.int .i64 t259, .int .i64 t260]), (4, 142, .tuple #[.agg #[.int .i64 t261, .int .i64 t262], .nilIface]), (5, 137, .tuple #[.agg #[.int .i64 t261, .int .i64 t262], .nilIface]), (6, 143, .agg #[.int .i64 t261, .int .i64 t262]), (7, 144, .nilIface), (8, 21, m8_), (10, 12, .nilIface)] ∧ (w'.heap[gb210]? = some (.cells #[.int .i64 a0_0, .int .i64 a0_1] 69 (0, 0))) ∧ (w'.heap[gb211]? = some (.cells #[.int .i64 a1_0, .int .i64 a1_1] 69 (0, 0))) ∧ (w'.heap[gb220]? = some (.cells #[.int .i64 t218, .int .i64 t219] 24 (0, 0))) ∧ (w'.heap[gb228]? = some (.cells #[.int .i64 t225, .int .i64 t226] 24 (0, 0))) ∧ (w'.heap[gb249]? = some (.cells #[.int .i64 t247, .int .i64 t248] 24 (0, 0))) ∧ (w'.heap[gb256]? = some (.cells #[.int .i64 t254, .int .i64 t255] 24 (0, 0))) ∧ (Below w.heap.size w w') ∧ (b 8 = true → b 9 = false → w'.heap[gb263]? = some (.cells #[.int .i64 0, .int .i64 0] 24 (0, 0))) ∧ (b 8 = true → w.heap.size ≤ gb263) ∧ (b 8 = true → w.heap.size ≤ gb263) ∧ (b 8 = true → gb210 ≠ gb263) ∧ (b 8 = true → gb263 ≠ gb210) ∧ (b 8 = true → gb211 ≠ gb263) ∧ (b 8 = true → gb263 ≠ gb211) ∧ (b 8 = true → gb220 ≠ gb263) ∧ (b 8 = true → gb263 ≠ gb220) ∧ (b 8 = true → gb228 ≠ gb263) ∧ (b 8 = true → gb263 ≠ gb228) ∧ (b 8 = true → gb249 ≠ gb263) ∧ (b 8 = true → gb263 ≠ gb249) ∧ (b 8 = true → gb256 ≠ gb263) ∧ (b 8 = true → gb263 ≠ gb256) ∧ (b 9 = true → w'.heap[gb263]? = some (.cells #[.int .i64 t261, .int .i64 t262] 24 (0, 0))) ∧ (b 8 = true → (m8_ : Value) = .pointer (some ⟨gb263, 0, none⟩))) HT_.out HW_.out kk kk ?_ ?_ ?_
      ·exact ⟨0, .bool false, by simp only [putSel, Bool.false_eq_true, if_false], BK210.out, BK211.out, BK220.out, BK228.out, BK249.out, BK256.out, HB.out, fun h_ => absurd h_ (by decide), fun h_ => absurd h_ (by decide), fun h_ => absurd h_ (by decide), fun h_ => absurd h_ (by decide), fun h_ => absurd h_ (by decide), fun h_ => absurd h_ (by decide), fun h_ => absurd h_ (by decide), fun h_ => absurd h_ (by decide), fun h_ => absurd h_ (by decide), fun h_ => absurd h_ (by decide), fun h_ => absurd h_ (by decide), fun h_ => absurd h_ (by decide), fun h_ => absurd h_ (by decide), fun h_ => absurd h_ (by decide), fun h_ => absurd h_ (by decide), fun h_ => absurd h_ (by decide), fun h_ => absurd h_ (by decide)⟩
      ·skip
       clear BK210 BK211 BK220 BK228 BK249 BK256 HB
       refine steps_cons ?_ ?_
       ·rintro b a w' ⟨gb263, m8_, ha, qB210, qB211, qB220, qB228, qB249, qB256, qHB, qB263, qW263, qE263, q210_263, q263_210, q211_263, q263_211, q220_263, q263_220, q228_263, q263_228, q249_263, q263_249, q256_263, q263_256, qB263_e9, Q_X8_⟩ hb_ hon hoff
        refine ⟨_, rfl, fun K hK => ?_⟩
        have e2 : a.tmps[2]? = some (.pointer (some ⟨gb210, 0, none⟩)) := by rw [ha]; exact (putSel_off rfl).trans rfl
        replace ha := am ha
        have BK210 := am qB210
        have BK211 := am qB211
        have BK220 := am qB220
        have BK228 := am qB228
        have BK249 := am qB249
        have BK256 := am qB256
        have HB := am qHB
        have hc0_ : w'.cell? ⟨gb210, 0, none⟩ = some (.int .i64 a0_0) := bc BK210 0
        have hc1_ : w'.cell? ⟨gb210, 1, none⟩ = some (.int .i64 a0_1) := bc BK210 1
        refine value_ (w1 := w') (v := .agg #[.int .i64 a0_0, .int .i64 a0_1]) (by rfl) rfl ?_ ?_
        ·go_simp
         (try simp only [i64_w])
         try rfl
        refine hK.out _ _ ⟨gb263, m8_, (by rw [ha.out]; exact putSel_upk 0 hb_ rfl rfl rfl), qB210, qB211, qB220, qB228, qB249, qB256, qHB, qB263, qW263, qE263, q210_263, q263_210, q211_263, q263_211, q220_263, q263_220, q228_263, q263_228, q249_263, q263_249, q256_263, q263_256, fun h0_ => absurd ((hoff 9 kk).symm.trans h0_) (by decide), Q_X8_⟩
       refine steps_cons ?_ ?_
       ·rintro b a w' ⟨gb263, m8_, ha, qB210, qB211, qB220, qB228, qB249, qB256, qHB, qB263, qW263, qE263, q210_263, q263_210, q211_263, q263_211, q220_263, q263_220, q228_263, q263_228, q249_263, q263_249, q256_263, q263_256, qB263_e9, Q_X8_⟩ hb_ hon hoff
        refine ⟨_, rfl, fun K hK => ?_⟩
        have e138 : a.tmps[138]? = some (.agg #[.int .i64 a0_0, .int .i64 a0_1]) := by rw [ha]; exact putSel_on (e := (0, 138, .agg #[.int .i64 a0_0, .int .i64 a0_1])) 0 rfl rfl (hon 0 kk) rfl
        replace ha := am ha
        have BK210 := am qB210
        have BK211 := am qB211
        have BK220 := am qB220
        have BK228 := am qB228
        have BK249 := am qB249
        have BK256 := am qB256
        have HB := am qHB
        refine goes_ Tryd.func41 kk rfl #[.agg #[.int .i64 a0_0, .int .i64 a0_1]] (by rfl) rfl rfl (by first | (simp only [List.map_toArray, List.map_cons, List.map_nil, Act.eval, Array.getD_eq_getD_getElem?, Option.getD_some, e138]; done) | (simp only [List.map_toArray, List.map_cons, List.map_nil, Act.eval, Array.getD_eq_getD_getElem?, Option.getD_some, e138]; rfl)) ?_
        with_reducible refine (L2_own.calls a0_0 a0_1 t257 t258 _ A81.out).mono ?_
        rintro e w110 ⟨rfl, hb⟩
        refine ⟨_, rfl, ?_⟩
        have n0_ := bb BK210 hb
        have n1_ := bb BK211 hb
        have n2_ := bb BK220 hb
        have n3_ := bb BK228 hb
        have n4_ := bb BK249 hb
        have n5_ := bb BK256 hb
        have n6_ := am (below_step pw hb)
        have z_BK263 := fun (h0_ : b 8 = true) (h1_ : b 9 = false) => (show w110.heap[gb263]? = some (.cells #[.int .i64 0, .int .i64 0] 24 (0, 0)) from by first | exact (blk_below (g := gb263) (o := .cells #[.int .i64 0, .int .i64 0] 24 (0, 0)) (by (with_reducible repeat (first | refine blk_drewN ?_ _ | refine blk_drew ?_ | refine blk_alloc ?_ _)); exact (qB263 h0_ h1_)) hb))
        clear BK210 BK211 BK220 BK228 BK249 BK256 HB
        revert n0_ n1_ n2_ n3_ n4_ n5_ n6_
        intro BK210 BK211 BK220 BK228 BK249 BK256 HB
        (try clear hb)
        (try clear hb2)
        (try clear hk)
        (try clear hi)
        refine hK.out _ _ ⟨gb263, m8_, (by rw [ha.out]; exact putSel_upk 1 hb_ rfl rfl rfl), pk, pk, pk, pk, pk, pk, pw, z_BK263, qW263, qE263, q210_263, q263_210, q211_263, q263_211, q220_263, q263_220, q228_263, q263_228, q249_263, q263_249, q256_263, q263_256, fun h0_ => absurd ((hoff 9 kk).symm.trans h0_) (by decide), Q_X8_⟩
       refine steps_cons ?_ ?_
       ·rintro b a w' ⟨gb263, m8_, ha, qB210, qB211, qB220, qB228, qB249, qB256, qHB, qB263, qW263, qE263, q210_263, q263_210, q211_263, q263_211, q220_263, q263_220, q228_263, q263_228, q249_263, q263_249, q256_263, q263_256, qB263_e9, Q_X8_⟩ hb_ hon hoff
        refine ⟨_, rfl, fun K hK => ?_⟩
        have e3 : a.tmps[3]? = some (.pointer (some ⟨gb211, 0, none⟩)) := by rw [ha]; exact (putSel_off rfl).trans rfl
        replace ha := am ha
        have BK210 := am qB210
        have BK211 := am qB211
        have BK220 := am qB220
        have BK228 := am qB228
        have BK249 := am qB249
        have BK256 := am qB256
        have HB := am qHB
        have hc0_ : w'.cell? ⟨gb211, 0, none⟩ = some (.int .i64 a1_0) := bc BK211 0
        have hc1_ : w'.cell? ⟨gb211, 1, none⟩ = some (.int .i64 a1_1) := bc BK211 1
        refine value_ (w1 := w') (v := .agg #[.int .i64 a1_0, .int .i64 a1_1]) (by rfl) rfl ?_ ?_
        ·go_simp
         (try simp only [i64_w])
         try rfl
        refine hK.out _ _ ⟨gb263, m8_, (by rw [ha.out]; exact putSel_upk 2 hb_ rfl rfl rfl), qB210, qB211, qB220, qB228, qB249, qB256, qHB, qB263, qW263, qE263, q210_263, q263_210, q211_263, q263_211, q220_263, q263_220, q228_263, q263_228, q249_263, q263_249, q256_263, q263_256, fun h0_ => absurd ((hoff 9 kk).symm.trans h0_) (by decide), Q_X8_⟩
       refine steps_cons ?_ ?_
       ·rintro b a w' ⟨gb263, m8_, ha, qB210, qB211, qB220, qB228, qB249, qB256, qHB, qB263, qW263, qE263, q210_263, q263_210, q211_263, q263_211, q220_263, q263_220, q228_263, q263_228, q249_263, q263_249, q256_263, q263_256, qB263_e9, Q_X8_⟩ hb_ hon hoff
        refine ⟨_, rfl, fun K hK => ?_⟩
        have e140 : a.tmps[140]? = some (.agg #[.int .i64 a1_0, .int .i64 a1_1]) := by rw [ha]; exact putSel_on (e := (2, 140, .agg #[.int .i64 a1_0, .int .i64 a1_1])) 2 rfl rfl (hon 2 kk) rfl
        replace ha := am ha
        have BK210 := am qB210
        have BK211 := am qB211
        have BK220 := am qB220
        have BK228 := am qB228
        have BK249 := am qB249
        have BK256 := am qB256
        have HB := am qHB
        refine goes_ Tryd.func41 kk rfl #[.agg #[.int .i64 a1_0, .int .i64 a1_1]] (by rfl) rfl rfl (by first | (simp only [List.map_toArray, List.map_cons, List.map_nil, Act.eval, Array.getD_eq_getD_getElem?, Option.getD_some, e140]; done) | (simp only [List.map_toArray, List.map_cons, List.map_nil, Act.eval, Array.getD_eq_getD_getElem?, Option.getD_some, e140]; rfl)) ?_
        with_reducible refine (L2_own.calls a1_0 a1_1 t259 t260 _ A82.out).mono ?_
        rintro e w112 ⟨rfl, hb⟩
        refine ⟨_, rfl, ?_⟩
        have n0_ := bb BK210 hb
        have n1_ := bb BK211 hb
        have n2_ := bb BK220 hb
        have n3_ := bb BK228 hb
        have n4_ := bb BK249 hb
        have n5_ := bb BK256 hb
        have n6_ := am (below_step pw hb)
        have z_BK263 := fun (h0_ : b 8 = true) (h1_ : b 9 = false) => (show w112.heap[gb263]? = some (.cells #[.int .i64 0, .int .i64 0] 24 (0, 0)) from by first | exact (blk_below (g := gb263) (o := .cells #[.int .i64 0, .int .i64 0] 24 (0, 0)) (by (with_reducible repeat (first | refine blk_drewN ?_ _ | refine blk_drew ?_ | refine blk_alloc ?_ _)); exact (qB263 h0_ h1_)) hb))
        clear BK210 BK211 BK220 BK228 BK249 BK256 HB
        revert n0_ n1_ n2_ n3_ n4_ n5_ n6_
        intro BK210 BK211 BK220 BK228 BK249 BK256 HB
        (try clear hb)
        (try clear hb2)
        (try clear hk)
        (try clear hi)
        refine hK.out _ _ ⟨gb263, m8_, (by rw [ha.out]; exact putSel_upk 3 hb_ rfl rfl rfl), pk, pk, pk, pk, pk, pk, pw, z_BK263, qW263, qE263, q210_263, q263_210, q211_263, q263_211, q220_263, q263_220, q228_263, q263_228, q249_263, q263_249, q256_263, q263_256, fun h0_ => absurd ((hoff 9 kk).symm.trans h0_) (by decide), Q_X8_⟩
       refine steps_cons ?_ ?_
       ·rintro b a w' ⟨gb263, m8_, ha, qB210, qB211, qB220, qB228, qB249, qB256, qHB, qB263, qW263, qE263, q210_263, q263_210, q211_263, q263_211, q220_263, q263_220, q228_263, q263_228, q249_263, q263_249, q256_263, q263_256, qB263_e9, Q_X8_⟩ hb_ hon hoff
        refine ⟨_, rfl, fun K hK => ?_⟩
        have e139 : a.tmps[139]? = some (.agg #[.int .i64 t257, .int .i64 t258]) := by rw [ha]; exact putSel_on (e := (1, 139, .agg #[.int .i64 t257, .int .i64 t258])) 1 rfl rfl (hon 1 kk) rfl
        have e141 : a.tmps[141]? = some (.agg #[.int .i64 t259, .int .i64 t260]) := by rw [ha]; exact putSel_on (e := (3, 141, .agg #[.int .i64 t259, .int .i64 t260])) 3 rfl rfl (hon 3 kk) rfl
        replace ha := am ha
        have BK210 := am qB210
        have BK211 := am qB211
        have BK220 := am qB220
        have BK228 := am qB228
        have BK249 := am qB249
        have BK256 := am qB256
        have HB := am qHB
        refine goes_ Tryd.func44 kk rfl #[.agg #[.int .i64 t257, .int .i64 t258], .agg #[.int .i64 t259, .int .i64 t260]] (by rfl) rfl rfl (by first | (simp only [List.map_toArray, List.map_cons, List.map_nil, Act.eval, Array.getD_eq_getD_getElem?, Option.getD_some, e139, e141]; done) | (simp only [List.map_toArray, List.map_cons, List.map_nil, Act.eval, Array.getD_eq_getD_getElem?, Option.getD_some, e139, e141]; rfl)) ?_
        with_reducible refine (congr_Mul_ok.calls kj49 t257 t258 t259 t260 t261 t262 _ A83.out (am (ErrAt.below hE2.out pw)).out (am (ErrAt.below hE3.out pw)).out).mono ?_
        rintro e w113 ⟨rfl, hb⟩
        refine ⟨_, rfl, ?_⟩
        have n0_ := bb BK210 hb
        have n1_ := bb BK211 hb
        have n2_ := bb BK220 hb
        have n3_ := bb BK228 hb
        have n4_ := bb BK249 hb
        have n5_ := bb BK256 hb
        have n6_ := am (below_step pw hb)
        have z_BK263 := fun (h0_ : b 8 = true) (h1_ : b 9 = false) => (show w113.heap[gb263]? = some (.cells #[.int .i64 0, .int .i64 0] 24 (0, 0)) from by first | exact (blk_below (g := gb263) (o := .cells #[.int .i64 0, .int .i64 0] 24 (0, 0)) (by (with_reducible repeat (first | refine blk_drewN ?_ _ | refine blk_drew ?_ | refine blk_alloc ?_ _)); exact (qB263 h0_ h1_)) hb))
        clear BK210 BK211 BK220 BK228 BK249 BK256 HB
        revert n0_ n1_ n2_ n3_ n4_ n5_ n6_
        intro BK210 BK211 BK220 BK228 BK249 BK256 HB
        (try clear hb)
        (try clear hb2)
        (try clear hk)
        (try clear hi)
        refine hK.out _ _ ⟨gb263, m8_, (by rw [ha.out]; exact putSel_upk 4 hb_ rfl rfl rfl), pk, pk, pk, pk, pk, pk, pw, z_BK263, qW263, qE263, q210_263, q263_210, q211_263, q263_211, q220_263, q263_220, q228_263, q263_228, q249_263, q263_249, q256_263, q263_256, fun h0_ => absurd ((hoff 9 kk).symm.trans h0_) (by decide), Q_X8_⟩
       refine steps_cons ?_ ?_
       ·rintro b a w' ⟨gb263, m8_, ha, qB210, qB211, qB220, qB228, qB249, qB256, qHB, qB263, qW263, qE263, q210_263, q263_210, q211_263, q263_211, q220_263, q263_220, q228_263, q263_228, q249_263, q263_249, q256_263, q263_256, qB263_e9, Q_X8_⟩ hb_ hon hoff
        refine ⟨_, rfl, fun K hK => ?_⟩
        have e142 : a.tmps[142]? = some (.tuple #[.agg #[.int .i64 t261, .int .i64 t262], .nilIface]) := by rw [ha]; exact putSel_on (e := (4, 142, .tuple #[.agg #[.int .i64 t261, .int .i64 t262], .nilIface])) 4 rfl rfl (hon 4 kk) rfl
        replace ha := am ha
        have BK210 := am qB210
        have BK211 := am qB211
        have BK220 := am qB220
        have BK228 := am qB228
        have BK249 := am qB249
        have BK256 := am qB256
        have HB := am qHB
        refine value_ (w1 := w') (v := .tuple #[.agg #[.int .i64 t261, .int .i64 t262], .nilIface]) (by rfl) rfl ?_ ?_
        ·go_simp
         (try simp only [i64_w])
         try rfl
        refine hK.out _ _ ⟨gb263, m8_, (by rw [ha.out]; exact putSel_upk 5 hb_ rfl rfl rfl), qB210, qB211, qB220, qB228, qB249, qB256, qHB, qB263, qW263, qE263, q210_263, q263_210, q211_263, q263_211, q220_263, q263_220, q228_263, q263_228, q249_263, q263_249, q256_263, q263_256, fun h0_ => absurd ((hoff 9 kk).symm.trans h0_) (by decide), Q_X8_⟩
       refine steps_cons ?_ ?_
       ·rintro b a w' ⟨gb263, m8_, ha, qB210, qB211, qB220, qB228, qB249, qB256, qHB, qB263, qW263, qE263, q210_263, q263_210, q211_263, q263_211, q220_263, q263_220, q228_263, q263_228, q249_263, q263_249, q256_263, q263_256, qB263_e9, Q_X8_⟩ hb_ hon hoff
        refine ⟨_, rfl, fun K hK => ?_⟩
        have e137 : a.tmps[137]? = some (.tuple #[.agg #[.int .i64 t261, .int .i64 t262], .nilIface]) := by rw [ha]; exact putSel_on (e := (5, 137, .tuple #[.agg #[.int .i64 t261, .int .i64 t262], .nilIface])) 5 rfl rfl (hon 5 kk) rfl
        replace ha := am ha
        have BK210 := am qB210
        have BK211 := am qB211
        have BK220 := am qB220
        have BK228 := am qB228
        have BK249 := am qB249
        have BK256 := am qB256
        have HB := am qHB
        refine value_ (w1 := w') (v := .agg #[.int .i64 t261, .int .i64 t262]) (by rfl) rfl ?_ ?_
        ·go_simp
         (try simp only [i64_w])
         try rfl
        refine hK.out _ _ ⟨gb263, m8_, (by rw [ha.out]; exact putSel_upk 6 hb_ rfl rfl rfl), qB210, qB211, qB220, qB228, qB249, qB256, qHB, qB263, qW263, qE263, q210_263, q263_210, q211_263, q263_211, q220_263, q263_220, q228_263, q263_228, q249_263, q263_249, q256_263, q263_256, fun h0_ => absurd ((hoff 9 kk).symm.trans h0_) (by decide), Q_X8_⟩
       refine steps_cons ?_ ?_
       ·rintro b a w' ⟨gb263, m8_, ha, qB210, qB211, qB220, qB228, qB249, qB256, qHB, qB263, qW263, qE263, q210_263, q263_210, q211_263, q263_211, q220_263, q263_220, q228_263, q263_228, q249_263, q263_249, q256_263, q263_256, qB263_e9, Q_X8_⟩ hb_ hon hoff
        refine ⟨_, rfl, fun K hK => ?_⟩
        have e137 : a.tmps[137]? = some (.tuple #[.agg #[.int .i64 t261, .int .i64 t262], .nilIface]) := by rw [ha]; exact putSel_on (e := (5, 137, .tuple #[.agg #[.int .i64 t261, .int .i64 t262], .nilIface])) 5 rfl rfl (hon 5 kk) rfl
        replace ha := am ha
        have BK210 := am qB210
        have BK211 := am qB211
        have BK220 := am qB220
        have BK228 := am qB228
        have BK249 := am qB249
        have BK256 := am qB256
        have HB := am qHB
        refine value_ (w1 := w') (v := .nilIface) (by rfl) rfl ?_ ?_
        ·go_simp
         (try simp only [i64_w])
         try rfl
        refine hK.out _ _ ⟨gb263, m8_, (by rw [ha.out]; exact putSel_upk 7 hb_ rfl rfl rfl), qB210, qB211, qB220, qB228, qB249, qB256, qHB, qB263, qW263, qE263, q210_263, q263_210, q211_263, q263_211, q220_263, q263_220, q228_263, q263_228, q249_263, q263_249, q256_263, q263_256, qB263_e9, Q_X8_⟩
       refine steps_cons ?_ ?_
       ·rintro b a w' ⟨gb263, m8_, ha, qB210, qB211, qB220, qB228, qB249, qB256, qHB, qB263, qW263, qE263, q210_263, q263_210, q211_263, q263_211, q220_263, q263_220, q228_263, q263_228, q249_263, q263_249, q256_263, q263_256, qB263_e9, Q_X8_⟩ hb_ hon hoff
        refine ⟨_, rfl, fun K hK => ?_⟩
        replace ha := am ha
        have BK210 := am qB210
        have BK211 := am qB211
        have BK220 := am qB220
        have BK228 := am qB228
        have BK249 := am qB249
        have BK256 := am qB256
        have HB := am qHB
        refine box_step ?hg (N := 21) ?hd (cs := #[.int .i64 0, .int .i64 0]) (t := 24) ?hr ?_; (case hd => rfl); (case hg => rfl); (case hr => first | (go_simp; done) | (go_simp; rfl))
        intro gb263 hg w110 hbox hb
        have n0_ := bb BK210 hb
        have n1_ := bb BK211 hb
        have n2_ := bb BK220 hb
        have n3_ := bb BK228 hb
        have n4_ := bb BK249 hb
        have n5_ := bb BK256 hb
        have n6_ := am (below_step pw hb)
        have n7_ := am (hbox)
        have n8_ := am ((by rw [hg]; exact (below_size pw) : w.heap.size ≤ gb263))
        have n9_ := am ((by rw [hg]; exact (below_size pw) : w.heap.size ≤ gb263))
        have n10_ := am ((by rw [hg]; exact Nat.ne_of_lt (blk_lt pk) : gb210 ≠ gb263))
        have n11_ := am ((by rw [hg]; exact Nat.ne_of_gt (blk_lt pk) : gb263 ≠ gb210))
        have n12_ := am ((by rw [hg]; exact Nat.ne_of_lt (blk_lt pk) : gb211 ≠ gb263))
        have n13_ := am ((by rw [hg]; exact Nat.ne_of_gt (blk_lt pk) : gb263 ≠ gb211))
        have n14_ := am ((by rw [hg]; exact Nat.ne_of_lt (blk_lt pk) : gb220 ≠ gb263))
        have n15_ := am ((by rw [hg]; exact Nat.ne_of_gt (blk_lt pk) : gb263 ≠ gb220))
        have n16_ := am ((by rw [hg]; exact Nat.ne_of_lt (blk_lt pk) : gb228 ≠ gb263))
        have n17_ := am ((by rw [hg]; exact Nat.ne_of_gt (blk_lt pk) : gb263 ≠ gb228))
        have n18_ := am ((by rw [hg]; exact Nat.ne_of_lt (blk_lt pk) : gb249 ≠ gb263))
        have n19_ := am ((by rw [hg]; exact Nat.ne_of_gt (blk_lt pk) : gb263 ≠ gb249))
        have n20_ := am ((by rw [hg]; exact Nat.ne_of_lt (blk_lt pk) : gb256 ≠ gb263))
        have n21_ := am ((by rw [hg]; exact Nat.ne_of_gt (blk_lt pk) : gb263 ≠ gb256))
        clear BK210 BK211 BK220 BK228 BK249 BK256 HB
        revert n0_ n1_ n2_ n3_ n4_ n5_ n6_ n7_ n8_ n9_ n10_ n11_ n12_ n13_ n14_ n15_ n16_ n17_ n18_ n19_ n20_ n21_
        intro BK210 BK211 BK220 BK228 BK249 BK256 HB BK263 GW263 GE263 NB210_263 NB263_210 NB211_263 NB263_211 NB220_263 NB263_220 NB228_263 NB263_228 NB249_263 NB263_249 NB256_263 NB263_256
        clear hb hbox hg
        refine hK.out _ _ ⟨gb263, (.pointer (some ⟨gb263, 0, none⟩)), (by rw [ha.out]; exact putSel_upk 8 hb_ rfl rfl rfl), pk, pk, pk, pk, pk, pk, pw, fun _ _ => pk, fun _ => GW263.out, fun _ => GE263.out, fun _ => NB210_263.out, fun _ => NB263_210.out, fun _ => NB211_263.out, fun _ => NB263_211.out, fun _ => NB220_263.out, fun _ => NB263_220.out, fun _ => NB228_263.out, fun _ => NB263_228.out, fun _ => NB249_263.out, fun _ => NB263_249.out, fun _ => NB256_263.out, fun _ => NB263_256.out, fun h0_ => absurd ((hoff 9 kk).symm.trans h0_) (by decide), fun _ => rfl⟩
       refine steps_cons ?_ ?_
       ·rintro b a w' ⟨gb263, m8_, ha, qB210, qB211, qB220, qB228, qB249, qB256, qHB, qB263, qW263, qE263, q210_263, q263_210, q211_263, q263_211, q220_263, q263_220, q228_263, q263_228, q249_263, q263_249, q256_263, q263_256, qB263_e9, Q_X8_⟩ hb_ hon hoff
        refine ⟨_, rfl, fun K hK => ?_⟩
        have e21 : a.tmps[21]? = some (m8_) := by rw [ha]; exact putSel_on (e := (8, 21, m8_)) 8 rfl rfl (hon 8 kk) rfl
        rw [Q_X8_ (hon 8 kk)] at e21
        have e143 : a.tmps[143]? = some (.agg #[.int .i64 t261, .int .i64 t262]) := by rw [ha]; exact putSel_on (e := (6, 143, .agg #[.int .i64 t261, .int .i64 t262])) 6 rfl rfl (hon 6 kk) rfl
        replace ha := am ha
        have BK210 := am qB210
        have BK211 := am qB211
        have BK220 := am qB220
        have BK228 := am qB228
        have BK249 := am qB249
        have BK256 := am qB256
        have HB := am qHB
        have BK263 := am (qB263 (hon 8 kk) hb_)
        have GW263 := am (qW263 (hon 8 kk))
        have GE263 := am (qE263 (hon 8 kk))
        have NB210_263 := am (q210_263 (hon 8 kk))
        have NB263_210 := am (q263_210 (hon 8 kk))
        have NB211_263 := am (q211_263 (hon 8 kk))
        have NB263_211 := am (q263_211 (hon 8 kk))
        have NB220_263 := am (q220_263 (hon 8 kk))
        have NB263_220 := am (q263_220 (hon 8 kk))
        have NB228_263 := am (q228_263 (hon 8 kk))
        have NB263_228 := am (q263_228 (hon 8 kk))
        have NB249_263 := am (q249_263 (hon 8 kk))
        have NB263_249 := am (q263_249 (hon 8 kk))
        have NB256_263 := am (q256_263 (hon 8 kk))
        have NB263_256 := am (q263_256 (hon 8 kk))
        have hs115 : w'.cell? ⟨gb263, 0, none⟩ = some (.int .i64 0) := bc BK263 0
        have hfs115 := blk_frozen BK263.out 0
        have hns115_0 := NB210_263.out
        have hns115_1 := NB211_263.out
        have hns115_2 := NB220_263.out
        have hns115_3 := NB228_263.out
        have hns115_4 := NB249_263.out
        have hns115_5 := NB256_263.out
        have hms115_0 := NB263_210.out
        have hms115_1 := NB263_211.out
        have hms115_2 := NB263_220.out
        have hms115_3 := NB263_228.out
        have hms115_4 := NB263_249.out
        have hms115_5 := NB263_256.out
        have hs116 : w'.cell? ⟨gb263, 1, none⟩ = some (.int .i64 0) := bc BK263 1
        have hfs116 := blk_frozen BK263.out 1
        have hns116_0 := NB210_263.out
        have hns116_1 := NB211_263.out
        have hns116_2 := NB220_263.out
        have hns116_3 := NB228_263.out
        have hns116_4 := NB249_263.out
        have hns116_5 := NB256_263.out
        have hms116_0 := NB263_210.out
        have hms116_1 := NB263_211.out
        have hms116_2 := NB263_220.out
        have hms116_3 := NB263_228.out
        have hms116_4 := NB263_249.out
        have hms116_5 := NB263_256.out
        refine skip_ (w1 := ?_) (by rfl) rfl ?_ ?_
        rotate_left
        ·go_simp
         rfl
        refine hK.out _ _ ⟨gb263, m8_, (by rw [ha.out]; exact putSel_none (v := undef) rfl), (by (with_reducible repeat (first | refine blk_drewN ?_ _ | refine blk_drew ?_ | refine blk_alloc ?_ _)); refine blk_far ?_ NB210_263.out _; (with_reducible repeat (first | refine blk_drewN ?_ _ | refine blk_drew ?_ | refine blk_alloc ?_ _)); refine blk_far ?_ NB210_263.out _; (with_reducible repeat (first | refine blk_drewN ?_ _ | refine blk_drew ?_ | refine blk_alloc ?_ _)); exact BK210.out), (by (with_reducible repeat (first | refine blk_drewN ?_ _ | refine blk_drew ?_ | refine blk_alloc ?_ _)); refine blk_far ?_ NB211_263.out _; (with_reducible repeat (first | refine blk_drewN ?_ _ | refine blk_drew ?_ | refine blk_alloc ?_ _)); refine blk_far ?_ NB211_263.out _; (with_reducible repeat (first | refine blk_drewN ?_ _ | refine blk_drew ?_ | refine blk_alloc ?_ _)); exact BK211.out), (by (with_reducible repeat (first | refine blk_drewN ?_ _ | refine blk_drew ?_ | refine blk_alloc ?_ _)); refine blk_far ?_ NB220_263.out _; (with_reducible repeat (first | refine blk_drewN ?_ _ | refine blk_drew ?_ | refine blk_alloc ?_ _)); refine blk_far ?_ NB220_263.out _; (with_reducible repeat (first | refine blk_drewN ?_ _ | refine blk_drew ?_ | refine blk_alloc ?_ _)); exact BK220.out), (by (with_reducible repeat (first | refine blk_drewN ?_ _ | refine blk_drew ?_ | refine blk_alloc ?_ _)); refine blk_far ?_ NB228_263.out _; (with_reducible repeat (first | refine blk_drewN ?_ _ | refine blk_drew ?_ | refine blk_alloc ?_ _)); refine blk_far ?_ NB228_263.out _; (with_reducible repeat (first | refine blk_drewN ?_ _ | refine blk_drew ?_ | refine blk_alloc ?_ _)); exact BK228.out), (by (with_reducible repeat (first | refine blk_drewN ?_ _ | refine blk_drew ?_ | refine blk_alloc ?_ _)); refine blk_far ?_ NB249_263.out _; (with_reducible repeat (first | refine blk_drewN ?_ _ | refine blk_drew ?_ | refine blk_alloc ?_ _)); refine blk_far ?_ NB249_263.out _; (with_reducible repeat (first | refine blk_drewN ?_ _ | refine blk_drew ?_ | refine blk_alloc ?_ _)); exact BK249.out), (by (with_reducible repeat (first | refine blk_drewN ?_ _ | refine blk_drew ?_ | refine blk_alloc ?_ _)); refine blk_far ?_ NB256_263.out _; (with_reducible repeat (first | refine blk_drewN ?_ _ | refine blk_drew ?_ | refine blk_alloc ?_ _)); refine blk_far ?_ NB256_263.out _; (with_reducible repeat (first | refine blk_drewN ?_ _ | refine blk_drew ?_ | refine blk_alloc ?_ _)); exact BK256.out), pw, fun _ h1_ => absurd ((up_self b 9).symm.trans h1_) (by decide), fun _ => GW263.out, fun _ => GE263.out, fun _ => NB210_263.out, fun _ => NB263_210.out, fun _ => NB211_263.out, fun _ => NB263_211.out, fun _ => NB220_263.out, fun _ => NB263_220.out, fun _ => NB228_263.out, fun _ => NB263_228.out, fun _ => NB249_263.out, fun _ => NB263_249.out, fun _ => NB256_263.out, fun _ => NB263_256.out, fun _ => (by (with_reducible repeat (first | refine blk_drewN ?_ _ | refine blk_drew ?_ | refine blk_alloc ?_ _)); refine blk_put (cs := #[.int .i64 t261, .int .i64 0]) ?_ 1 _ rfl; (with_reducible repeat (first | refine blk_drewN ?_ _ | refine blk_drew ?_ | refine blk_alloc ?_ _)); refine blk_put (cs := #[.int .i64 0, .int .i64 0]) ?_ 0 _ rfl; (with_reducible repeat (first | refine blk_drewN ?_ _ | refine blk_drew ?_ | refine blk_alloc ?_ _)); exact BK263.out), Q_X8_⟩
       refine steps_cons ?_ ?_
       ·rintro b a w' ⟨gb263, m8_, ha, qB210, qB211, qB220, qB228, qB249, qB256, qHB, qB263, qW263, qE263, q210_263, q263_210, q211_263, q263_211, q220_263, q263_220, q228_263, q263_228, q249_263, q263_249, q256_263, q263_256, qB263_e9, Q_X8_⟩ hb_ hon hoff
        refine ⟨_, rfl, fun K hK => ?_⟩
        have e144 : a.tmps[144]? = some (.nilIface) := by rw [ha]; exact putSel_on (e := (7, 144, .nilIface)) 7 rfl rfl (hon 7 kk) rfl
        replace ha := am ha
        have BK210 := am qB210
        have BK211 := am qB211
        have BK220 := am qB220
        have BK228 := am qB228
        have BK249 := am qB249
        have BK256 := am qB256
        have HB := am qHB
        have GW263 := am (qW263 (hon 8 kk))
        have GE263 := am (qE263 (hon 8 kk))
        have NB210_263 := am (q210_263 (hon 8 kk))
        have NB263_210 := am (q263_210 (hon 8 kk))
        have NB211_263 := am (q211_263 (hon 8 kk))
        have NB263_211 := am (q263_211 (hon 8 kk))
        have NB220_263 := am (q220_263 (hon 8 kk))
        have NB263_220 := am (q263_220 (hon 8 kk))
        have NB228_263 := am (q228_263 (hon 8 kk))
        have NB263_228 := am (q263_228 (hon 8 kk))
        have NB249_263 := am (q249_263 (hon 8 kk))
        have NB263_249 := am (q263_249 (hon 8 kk))
        have NB256_263 := am (q256_263 (hon 8 kk))
        have NB263_256 := am (q263_256 (hon 8 kk))
        have BK263 := am (qB263_e9 (hon 9 kk))
        refine value_ (w1 := w') (v := .nilIface) (by rfl) rfl ?_ ?_
        ·go_simp
         (try simp only [i64_w])
         try rfl
        refine hK.out _ _ ⟨gb263, m8_, (by rw [ha.out]; exact putSel_upk 9 hb_ rfl rfl rfl), qB210, qB211, qB220, qB228, qB249, qB256, qHB, fun _ h1_ => absurd ((hon 9 kk).symm.trans h1_) (by decide), qW263, qE263, q210_263, q263_210, q211_263, q263_211, q220_263, q263_220, q228_263, q263_228, q249_263, q263_249, q256_263, q263_256, qB263_e9, Q_X8_⟩
       exact steps_nil
      rintro b a w116 hall ⟨gb263, m8_, ha, qB210, qB211, qB220, qB228, qB249, qB256, qHB, qB263, qW263, qE263, q210_263, q263_210, q211_263, q263_211, q220_263, q263_220, q228_263, q263_228, q249_263, q263_249, q256_263, q263_256, qB263_e9, Q_X8_⟩
      clear BK210 BK211 BK220 BK228 BK249 BK256 HB
      have hb0_ := hall 0 kk
      have hb1_ := hall 1 kk
      have hb2_ := hall 2 kk
      have hb3_ := hall 3 kk
      have hb4_ := hall 4 kk
      have hb5_ := hall 5 kk
      have hb6_ := hall 6 kk
      have hb7_ := hall 7 kk
      have hb8_ := hall 8 kk
      have hb9_ := hall 9 kk
      have hb10_ := hall 10 kk
      subst ha
      obtain rfl := Q_X8_ hb8_
      simp only [putSel, hb0_, hb1_, hb2_, hb3_, hb4_, hb5_, hb6_, hb7_, hb8_, hb9_, hb10_, if_true, Act.put, List.setIfInBounds_toArray, List.set_cons_zero, List.set_cons_succ]
      have BK210 := am qB210
      clear qB210
      have BK211 := am qB211
      clear qB211
      have BK220 := am qB220
      clear qB220
      have BK228 := am qB228
      clear qB228
      have BK249 := am qB249
      clear qB249
      have BK256 := am qB256
      clear qB256
      have HB := am qHB
      clear qHB
      clear qB263
      have GW263 := am (qW263 hb8_)
      clear qW263
      have GE263 := am (qE263 hb8_)
      clear qE263
      have NB210_263 := am (q210_263 hb8_)
      clear q210_263
      have NB263_210 := am (q263_210 hb8_)
      clear q263_210
      have NB211_263 := am (q211_263 hb8_)
      clear q211_263
      have NB263_211 := am (q263_211 hb8_)
      clear q263_211
      have NB220_263 := am (q220_263 hb8_)
      clear q220_263
      have NB263_220 := am (q263_220 hb8_)
      clear q263_220
      have NB228_263 := am (q228_263 hb8_)
      clear q228_263
      have NB263_228 := am (q263_228 hb8_)
      clear q263_228
      have NB249_263 := am (q249_263 hb8_)
      clear q249_263
      have NB263_249 := am (q263_249 hb8_)
      clear q263_249
      have NB256_263 := am (q256_263 hb8_)
      clear q256_263
      have NB263_256 := am (q263_256 hb8_)
      clear q263_256
      have BK263 := am (qB263_e9 hb9_)
      clear qB263_e9
      clear hall hb0_ hb1_ hb2_ hb3_ hb4_ hb5_ hb6_ hb7_ hb8_ hb9_ hb10_
      try go_wp2
      have n0_ := am (blk_drew BK210.out)
      have n1_ := am (blk_drew BK211.out)
      have n2_ := am (blk_drew BK220.out)
      have n3_ := am (blk_drew BK228.out)
      have n4_ := am (blk_drew BK249.out)
      have n5_ := am (blk_drew BK256.out)
      have n6_ := am (blk_drew BK263.out)
      have n7_ := am (below_drew1 HB.out)
      clear BK210 BK211 BK220 BK228 BK249 BK256 BK263 HB
      revert n0_ n1_ n2_ n3_ n4_ n5_ n6_ n7_
      intro BK210 BK211 BK220 BK228 BK249 BK256 BK263 HB
      refine start_ (n := 11) (S := fun w' => True) (ds := []) #[false, false, false, false, false, false, false, false, false, false, false] kk rfl rfl trivial (fun hHeld => ?_); refine with_tabW L2_CongrLattice.tab20 L2_CongrLattice.bits20 (fun HT_ HW_ => ?_)
      generalize w116.drew = w117 at BK210 BK211 BK220 BK228 BK249 BK256 BK263 HB hHeld ⊢
      refine inv_at [0, 1, 2, 3, 4, 5, 6, 7, 8, 9, 10] (fun a0_ b a w' => ∃ (gb270 : Nat) (m8_ : Value), a = putSel a0_ b [(0, 146, .agg #[.int .i64 a1_0, .int .i64 a1_1]), (1, 147, .agg #[.int .i64 t264, .int .i64 t265]), (2, 148, .agg #[.int .i64 a0_0, .int .i64 a0_1]), (3, 149, .agg #[.int .i64 t266, .int .i64 t267]), (4, 150, .tuple #[.agg #[.int .i64 t268, .int .i64 t269], .nilIface]), (5, 145, .tuple #[.agg #[.int .i64 t268, .int .i64 t269], .nilIface]), (6, 151, .agg #[.int .i64 t268, .int .i64 t269]), (7, 152, .nilIface), (8, 22, m8_), (10, 14, .nilIface)] ∧ (w'.heap[gb210]? = some (.cells #[.int .i64 a0_0, .int .i64 a0_1] 69 (0, 0))) ∧ (w'.heap[gb211]? = some (.cells #[.int .i64 a1_0, .int .i64 a1_1] 69 (0, 0))) ∧ (w'.heap[gb220]? = some (.cells #[.int .i64 t218, .int .i64 t219] 24 (0, 0))) ∧ (w'.heap[gb228]? = some (.cells #[.int .i64 t225, .int .i64 t226] 24 (0, 0))) ∧ (w'.heap[gb249]? = some (.cells #[.int .i64 t247, .int .i64 t248] 24 (0, 0))) ∧ (w'.heap[gb256]? = some (.cells #[.int .i64 t254, .int .i64 t255] 24 (0, 0))) ∧ (w'.heap[gb263]? = some (.cells #[.int .i64 t261, .int .i64 t262] 24 (0, 0))) ∧ (Below w.heap.size w w') ∧ (b 8 = true → b 9 = false → w'.heap[gb270]? = some (.cells #[.int .i64 0, .int .i64 0] 24 (0, 0))) ∧ (b 8 = true → w.heap.size ≤ gb270) ∧ (b 8 = true → w.heap.size ≤ gb270) ∧ (b 8 = true → gb210 ≠ gb270) ∧ (b 8 = true → gb270 ≠ gb210) ∧ (b 8 = true → gb211 ≠ gb270) ∧ (b 8 = true → gb270 ≠ gb211) ∧ (b 8 = true → gb220 ≠ gb270) ∧ (b 8 = true → gb270 ≠ gb220) ∧ (b 8 = true → gb228 ≠ gb270) ∧ (b 8 = true → gb270 ≠ gb228) ∧ (b 8 = true → gb249 ≠ gb270) ∧ (b 8 = true → gb270 ≠ gb249) ∧ (b 8 = true → gb256 ≠ gb270) ∧ (b 8 = true → gb270 ≠ gb256) ∧ (b 8 = true → gb263 ≠ gb270) ∧ (b 8 = true → gb270 ≠ gb263) ∧ (b 9 = true → w'.heap[gb270]? = some (.cells #[.int .i64 t268, .int .i64 t269] 24 (0, 0))) ∧ (b 8 = true → (m8_ : Value) = .pointer (some ⟨gb270, 0, none⟩))) HT_.out HW_.out kk kk ?_ ?_ ?_
      ·exact ⟨0, .bool false, by simp only [putSel, Bool.false_eq_true, if_false], BK210.out, BK211.out, BK220.out, BK228.out, BK249.out, BK256.out, BK263.out, HB.out, fun h_ => absurd h_ (by decide), fun h_ => absurd h_ (by decide), fun h_ => absurd h_ (by decide), fun h_ => absurd h_ (by decide), fun h_ => absurd h_ (by decide), fun h_ => absurd h_ (by decide), fun h_ => absurd h_ (by decide), fun h_ => absurd h_ (by decide), fun h_ => absurd h_ (by decide), fun h_ => absurd h_ (by decide), fun h_ => absurd h_ (by decide), fun h_ => absurd h_ (by decide), fun h_ => absurd h_ (by decide), fun h_ => absurd h_ (by decide), fun h_ => absurd h_ (by decide), fun h_ => absurd h_ (by decide), fun h_ => absurd h_ (by decide), fun h_ => absurd h_ (by decide), fun h_ => absurd h_ (by decide)⟩
      ·skip
       clear BK210 BK211 BK220 BK228 BK249 BK256 BK263 HB
       refine steps_cons ?_ ?_
       ·rintro b a w' ⟨gb270, m8_, ha, qB210, qB211, qB220, qB228, qB249, qB256, qB263, qHB, qB270, qW270, qE270, q210_270, q270_210, q211_270, q270_211, q220_270, q270_220, q228_270, q270_228, q249_270, q270_249, q256_270, q270_256, q263_270, q270_263, qB270_e9, Q_X8_⟩ hb_ hon hoff
        refine ⟨_, rfl, fun K hK => ?_⟩
        have e3 : a.tmps[3]? = some (.pointer (some ⟨gb211, 0, none⟩)) := by rw [ha]; exact (putSel_off rfl).trans rfl
        replace ha := am ha
        have BK210 := am qB210
        have BK211 := am qB211
        have BK220 := am qB220
        have BK228 := am qB228
        have BK249 := am qB249
        have BK256 := am qB256
        have BK263 := am qB263
        have HB := am qHB
        have hc0_ : w'.cell? ⟨gb211, 0, none⟩ = some (.int .i64 a1_0) := bc BK211 0
        have hc1_ : w'.cell? ⟨gb211, 1, none⟩ = some (.int .i64 a1_1) := bc BK211 1
        refine value_ (w1 := w') (v := .agg #[.int .i64 a1_0, .int .i64 a1_1]) (by rfl) rfl ?_ ?_
        ·go_simp
         (try simp only [i64_w])
         try rfl
        refine hK.out _ _ ⟨gb270, m8_, (by rw [ha.out]; exact putSel_upk 0 hb_ rfl rfl rfl), qB210, qB211, qB220, qB228, qB249, qB256, qB263, qHB, qB270, qW270, qE270, q210_270, q270_210, q211_270, q270_211, q220_270, q270_220, q228_270, q270_228, q249_270, q270_249, q256_270, q270_256, q263_270, q270_263, fun h0_ => absurd ((hoff 9 kk).symm.trans h0_) (by decide), Q_X8_⟩
       refine steps_cons ?_ ?_
       ·rintro b a w' ⟨gb270, m8_, ha, qB210, qB211, qB220, qB228, qB249, qB256, qB263, qHB, qB270, qW270, qE270, q210_270, q270_210, q211_270, q270_211, q220_270, q270_220, q228_270, q270_228, q249_270, q270_249, q256_270, q270_256, q263_270, q270_263, qB270_e9, Q_X8_⟩ hb_ hon hoff
        refine ⟨_, rfl, fun K hK => ?_⟩
        have e146 : a.tmps[146]? = some (.agg #[.int .i64 a1_0, .int .i64 a1_1]) := by rw [ha]; exact putSel_on (e := (0, 146, .agg #[.int .i64 a1_0, .int .i64 a1_1])) 0 rfl rfl (hon 0 kk) rfl
        replace ha := am ha
        have BK210 := am qB210
        have BK211 := am qB211
        have BK220 := am qB220
        have BK228 := am qB228
        have BK249 := am qB249
        have BK256 := am qB256
        have BK263 := am qB263
        have HB := am qHB
        refine goes_ Tryd.func41 kk rfl #[.agg #[.int .i64 a1_0, .int .i64 a1_1]] (by rfl) rfl rfl (by first | (simp only [List.map_toArray, List.map_cons, List.map_nil, Act.eval, Array.getD_eq_getD_getElem?, Option.getD_some, e146]; done) | (simp only [List.map_toArray, List.map_cons, List.map_nil, Act.eval, Array.getD_eq_getD_getElem?, Option.getD_some, e146]; rfl)) ?_
        with_reducible refine (L2_own.calls a1_0 a1_1 t264 t265 _ A84.out).mono ?_
        rintro e w118 ⟨rfl, hb⟩
        refine ⟨_, rfl, ?_⟩
        have n0_ := bb BK210 hb
        have n1_ := bb BK211 hb
        have n2_ := bb BK220 hb
        have n3_ := bb BK228 hb
        have n4_ := bb BK249 hb
        have n5_ := bb BK256 hb
        have n6_ := bb BK263 hb
        have n7_ := am (below_step pw hb)
        have z_BK270 := fun (h0_ : b 8 = true) (h1_ : b 9 = false) => (show w118.heap[gb270]? = some (.cells #[.int .i64 0, .int .i64 0] 24 (0, 0)) from by first | exact (blk_below (g := gb270) (o := .cells #[.int .i64 0, .int .i64 0] 24 (0, 0)) (by (with_reducible repeat (first | refine blk_drewN ?_ _ | refine blk_drew ?_ | refine blk_alloc ?_ _)); exact (qB270 h0_ h1_)) hb))
        clear BK210 BK211 BK220 BK228 BK249 BK256 BK263 HB
        revert n0_ n1_ n2_ n3_ n4_ n5_ n6_ n7_
        intro BK210 BK211 BK220 BK228 BK249 BK256 BK263 HB
        (try clear hb)
        (try clear hb2)
        (try clear hk)
        (try clear hi)
        refine hK.out _ _ ⟨gb270, m8_, (by rw [ha.out]; exact putSel_upk 1 hb_ rfl rfl rfl), pk, pk, pk, pk, pk, pk, pk, pw, z_BK270, qW270, qE270, q210_270, q270_210, q211_270, q270_211, q220_270, q270_220, q228_270, q270_228, q249_270, q270_249, q256_270, q270_256, q263_270, q270_263, fun h0_ => absurd ((hoff 9 kk).symm.trans h0_) (by decide), Q_X8_⟩
       refine steps_cons ?_ ?_
       ·rintro b a w' ⟨gb270, m8_, ha, qB210, qB211, qB220, qB228, qB249, qB256, qB263, qHB, qB270, qW270, qE270, q210_270, q270_210, q211_270, q270_211, q220_270, q270_220, q228_270, q270_228, q249_270, q270_249, q256_270, q270_256, q263_270, q270_263, qB270_e9, Q_X8_⟩ hb_ hon hoff
        refine ⟨_, rfl, fun K hK => ?_⟩
        have e2 : a.tmps[2]? = some (.pointer (some ⟨gb210, 0, none⟩)) := by rw [ha]; exact (putSel_off rfl).trans rfl
        replace ha := am ha
        have BK210 := am qB210
        have BK211 := am qB211
        have BK220 := am qB220
        have BK228 := am qB228
        have BK249 := am qB249
        have BK256 := am qB256
        have BK263 := am qB263
        have HB := am qHB
        have hc0_ : w'.cell? ⟨gb210, 0, none⟩ = some (.int .i64 a0_0) := bc BK210 0
        have hc1_ : w'.cell? ⟨gb210, 1, none⟩ = some (.int .i64 a0_1) := bc BK210 1
        refine value_ (w1 := w') (v := .agg #[.int .i64 a0_0, .int .i64 a0_1]) (by rfl) rfl ?_ ?_
        ·go_simp
         (try simp only [i64_w])
         try rfl
        refine hK.out _ _ ⟨gb270, m8_, (by rw [ha.out]; exact putSel_upk 2 hb_ rfl rfl rfl), qB210, qB211, qB220, qB228, qB249, qB256, qB263, qHB, qB270, qW270, qE270, q210_270, q270_210, q211_270, q270_211, q220_270, q270_220, q228_270, q270_228, q249_270, q270_249, q256_270, q270_256, q263_270, q270_263, fun h0_ => absurd ((hoff 9 kk).symm.trans h0_) (by decide), Q_X8_⟩
       refine steps_cons ?_ ?_
       ·rintro b a w' ⟨gb270, m8_, ha, qB210, qB211, qB220, qB228, qB249, qB256, qB263, qHB, qB270, qW270, qE270, q210_270, q270_210, q211_270, q270_211, q220_270, q270_220, q228_270, q270_228, q249_270, q270_249, q256_270, q270_256, q263_270, q270_263, qB270_e9, Q_X8_⟩ hb_ hon hoff
        refine ⟨_, rfl, fun K hK => ?_⟩
        have e148 : a.tmps[148]? = some (.agg #[.int .i64 a0_0, .int .i64 a0_1]) := by rw [ha]; exact putSel_on (e := (2, 148, .agg #[.int .i64 a0_0, .int .i64 a0_1])) 2 rfl rfl (hon 2 kk) rfl
        replace ha := am ha
        have BK210 := am qB210
        have BK211 := am qB211
        have BK220 := am qB220
        have BK228 := am qB228
        have BK249 := am qB249
        have BK256 := am qB256
        have BK263 := am qB263
        have HB := am qHB
        refine goes_ Tryd.func41 kk rfl #[.agg #[.int .i64 a0_0, .int .i64 a0_1]] (by rfl) rfl rfl (by first | (simp only [List.map_toArray, List.map_cons, List.map_nil, Act.eval, Array.getD_eq_getD_getElem?, Option.getD_some, e148]; done) | (simp only [List.map_toArray, List.map_cons, List.map_nil, Act.eval, Array.getD_eq_getD_getElem?, Option.getD_some, e148]; rfl)) ?_
        with_reducible refine (L2_own.calls a0_0 a0_1 t266 t267 _ A85.out).mono ?_
        rintro e w120 ⟨rfl, hb⟩
        refine ⟨_, rfl, ?_⟩
        have n0_ := bb BK210 hb
        have n1_ := bb BK211 hb
        have n2_ := bb BK220 hb
        have n3_ := bb BK228 hb
        have n4_ := bb BK249 hb
        have n5_ := bb BK256 hb
        have n6_ := bb BK263 hb
        have n7_ := am (below_step pw hb)
        have z_BK270 := fun (h0_ : b 8 = true) (h1_ : b 9 = false) => (show w120.heap[gb270]? = some (.cells #[.int .i64 0, .int .i64 0] 24 (0, 0)) from by first | exact (blk_below (g := gb270) (o := .cells #[.int .i64 0, .int .i64 0] 24 (0, 0)) (by (with_reducible repeat (first | refine blk_drewN ?_ _ | refine blk_drew ?_ | refine blk_alloc ?_ _)); exact (qB270 h0_ h1_)) hb))
        clear BK210 BK211 BK220 BK228 BK249 BK256 BK263 HB
        revert n0_ n1_ n2_ n3_ n4_ n5_ n6_ n7_
        intro BK210 BK211 BK220 BK228 BK249 BK256 BK263 HB
        (try clear hb)
        (try clear hb2)
        (try clear hk)
        (try clear hi)
        refine hK.out _ _ ⟨gb270, m8_, (by rw [ha.out]; exact putSel_upk 3 hb_ rfl rfl rfl), pk, pk, pk, pk, pk, pk, pk, pw, z_BK270, qW270, qE270, q210_270, q270_210, q211_270, q270_211, q220_270, q270_220, q228_270, q270_228, q249_270, q270_249, q256_270, q270_256, q263_270, q270_263, fun h0_ => absurd ((hoff 9 kk).symm.trans h0_) (by decide), Q_X8_⟩
       refine steps_cons ?_ ?_
       ·rintro b a w' ⟨gb270, m8_, ha, qB210, qB211, qB220, qB228, qB249, qB256, qB263, qHB, qB270, qW270, qE270, q210_270, q270_210, q211_270, q270_211, q220_270, q270_220, q228_270, q270_228, q249_270, q270_249, q256_270, q270_256, q263_270, q270_263, qB270_e9, Q_X8_⟩ hb_ hon hoff
        refine ⟨_, rfl, fun K hK => ?_⟩
        have e147 : a.tmps[147]? = some (.agg #[.int .i64 t264, .int .i64 t265]) := by rw [ha]; exact putSel_on (e := (1, 147, .agg #[.int .i64 t264, .int .i64 t265])) 1 rfl rfl (hon 1 kk) rfl
        have e149 : a.tmps[149]? = some (.agg #[.int .i64 t266, .int .i64 t267]) := by rw [ha]; exact putSel_on (e := (3, 149, .agg #[.int .i64 t266, .int .i64 t267])) 3 rfl rfl (hon 3 kk) rfl
        replace ha := am ha
        have BK210 := am qB210
        have BK211 := am qB211
        have BK220 := am qB220
        have BK228 := am qB228
        have BK249 := am qB249
        have BK256 := am qB256
        have BK263 := am qB263
        have HB := am qHB
        refine goes_ Tryd.func44 kk rfl #[.agg #[.int .i64 t264, .int .i64 t265], .agg #[.int .i64 t266, .int .i64 t267]] (by rfl) rfl rfl (by first | (simp only [List.map_toArray, List.map_cons, List.map_nil, Act.eval, Array.getD_eq_getD_getElem?, Option.getD_some, e147, e149]; done) | (simp only [List.map_toArray, List.map_cons, List.map_nil, Act.eval, Array.getD_eq_getD_getElem?, Option.getD_some, e147, e149]; rfl)) ?_
        with_reducible refine (congr_Mul_ok.calls kj49 t264 t265 t266 t267 t268 t269 _ A86.out (am (ErrAt.below hE2.out pw)).out (am (ErrAt.below hE3.out pw)).out).mono ?_
        rintro e w121 ⟨rfl, hb⟩
        refine ⟨_, rfl, ?_⟩
        have n0_ := bb BK210 hb
        have n1_ := bb BK211 hb
        have n2_ := bb BK220 hb
        have n3_ := bb BK228 hb
        have n4_ := bb BK249 hb
        have n5_ := bb BK256 hb
        have n6_ := bb BK263 hb
        have n7_ := am (below_step pw hb)
        have z_BK270 := fun (h0_ : b 8 = true) (h1_ : b 9 = false) => (show w121.heap[gb270]? = some (.cells #[.int .i64 0, .int .i64 0] 24 (0, 0)) from by first | exact (blk_below (g := gb270) (o := .cells #[.int .i64 0, .int .i64 0] 24 (0, 0)) (by (with_reducible repeat (first | refine blk_drewN ?_ _ | refine blk_drew ?_ | refine blk_alloc ?_ _)); exact (qB270 h0_ h1_)) hb))
        clear BK210 BK211 BK220 BK228 BK249 BK256 BK263 HB
        revert n0_ n1_ n2_ n3_ n4_ n5_ n6_ n7_
        intro BK210 BK211 BK220 BK228 BK249 BK256 BK263 HB
        (try clear hb)
        (try clear hb2)
        (try clear hk)
        (try clear hi)
        refine hK.out _ _ ⟨gb270, m8_, (by rw [ha.out]; exact putSel_upk 4 hb_ rfl rfl rfl), pk, pk, pk, pk, pk, pk, pk, pw, z_BK270, qW270, qE270, q210_270, q270_210, q211_270, q270_211, q220_270, q270_220, q228_270, q270_228, q249_270, q270_249, q256_270, q270_256, q263_270, q270_263, fun h0_ => absurd ((hoff 9 kk).symm.trans h0_) (by decide), Q_X8_⟩
       refine steps_cons ?_ ?_
       ·rintro b a w' ⟨gb270, m8_, ha, qB210, qB211, qB220, qB228, qB249, qB256, qB263, qHB, qB270, qW270, qE270, q210_270, q270_210, q211_270, q270_211, q220_270, q270_220, q228_270, q270_228, q249_270, q270_249, q256_270, q270_256, q263_270, q270_263, qB270_e9, Q_X8_⟩ hb_ hon hoff
        refine ⟨_, rfl, fun K hK => ?_⟩
        have e150 : a.tmps[150]? = some (.tuple #[.agg #[.int .i64 t268, .int .i64 t269], .nilIface]) := by rw [ha]; exact putSel_on (e := (4, 150, .tuple #[.agg #[.int .i64 t268, .int .i64 t269], .nilIface])) 4 rfl rfl (hon 4 kk) rfl
        replace ha := am ha
        have BK210 := am qB210
        have BK211 := am qB211
        have BK220 := am qB220
        have BK228 := am qB228
        have BK249 := am qB249
        have BK256 := am qB256
        have BK263 := am qB263
        have HB := am qHB
        refine value_ (w1 := w') (v := .tuple #[.agg #[.int .i64 t268, .int .i64 t269], .nilIface]) (by rfl) rfl ?_ ?_
        ·go_simp
         (try simp only [i64_w])
         try rfl
        refine hK.out _ _ ⟨gb270, m8_, (by rw [ha.out]; exact putSel_upk 5 hb_ rfl rfl rfl), qB210, qB211, qB220, qB228, qB249, qB256, qB263, qHB, qB270, qW270, qE270, q210_270, q270_210, q211_270, q270_211, q220_270, q270_220, q228_270, q270_228, q249_270, q270_249, q256_270, q270_256, q263_270, q270_263, fun h0_ => absurd ((hoff 9 kk).symm.trans h0_) (by decide), Q_X8_⟩
       refine steps_cons ?_ ?_
       ·rintro b a w' ⟨gb270, m8_, ha, qB210, qB211, qB220, qB228, qB249, qB256, qB263, qHB, qB270, qW270, qE270, q210_270, q270_210, q211_270, q270_211, q220_270, q270_220, q228_270, q270_228, q249_270, q270_249, q256_270, q270_256, q263_270, q270_263, qB270_e9, Q_X8_⟩ hb_ hon hoff
        refine ⟨_, rfl, fun K hK => ?_⟩
        have e145 : a.tmps[145]? = some (.tuple #[.agg #[.int .i64 t268, .int .i64 t269], .nilIface]) := by rw [ha]; exact putSel_on (e := (5, 145, .tuple #[.agg #[.int .i64 t268, .int .i64 t269], .nilIface])) 5 rfl rfl (hon 5 kk) rfl
        replace ha := am ha
        have BK210 := am qB210
        have BK211 := am qB211
        have BK220 := am qB220
        have BK228 := am qB228
        have BK249 := am qB249
        have BK256 := am qB256
        have BK263 := am qB263
        have HB := am qHB
        refine value_ (w1 := w') (v := .agg #[.int .i64 t268, .int .i64 t269]) (by rfl) rfl ?_ ?_
        ·go_simp
         (try simp only [i64_w])
         try rfl
        refine hK.out _ _ ⟨gb270, m8_, (by rw [ha.out]; exact putSel_upk 6 hb_ rfl rfl rfl), qB210, qB211, qB220, qB228, qB249, qB256, qB263, qHB, qB270, qW270, qE270, q210_270, q270_210, q211_270, q270_211, q220_270, q270_220, q228_270, q270_228, q249_270, q270_249, q256_270, q270_256, q263_270, q270_263, fun h0_ => absurd ((hoff 9 kk).symm.trans h0_) (by decide), Q_X8_⟩
       refine steps_cons ?_ ?_
       ·rintro b a w' ⟨gb270, m8_, ha, qB210, qB211, qB220, qB228, qB249, qB256, qB263, qHB, qB270, qW270, qE270, q210_270, q270_210, q211_270, q270_211, q220_270, q270_220, q228_270, q270_228, q249_270, q270_249, q256_270, q270_256, q263_270, q270_263, qB270_e9, Q_X8_⟩ hb_ hon hoff
        refine ⟨_, rfl, fun K hK => ?_⟩
        have e145 : a.tmps[145]? = some (.tuple #[.agg #[.int .i64 t268, .int .i64 t269], .nilIface]) := by rw [ha]; exact putSel_on (e := (5, 145, .tuple #[.agg #[.int .i64 t268, .int .i64 t269], .nilIface])) 5 rfl rfl (hon 5 kk) rfl
        replace ha := am ha
        have BK210 := am qB210
        have BK211 := am qB211
        have BK220 := am qB220
        have BK228 := am qB228
        have BK249 := am qB249
        have BK256 := am qB256
        have BK263 := am qB263
        have HB := am qHB
        refine value_ (w1 := w') (v := .nilIface) (by rfl) rfl ?_ ?_
        ·go_simp
         (try simp only [i64_w])
         try rfl
        refine hK.out _ _ ⟨gb270, m8_, (by rw [ha.out]; exact putSel_upk 7 hb_ rfl rfl rfl), qB210, qB211, qB220, qB228, qB249, qB256, qB263, qHB, qB270, qW270, qE270, q210_270, q270_210, q211_270, q270_211, q220_270, q270_220, q228_270, q270_228, q249_270, q270_249, q256_270, q270_256, q263_270, q270_263, qB270_e9, Q_X8_⟩
       refine steps_cons ?_ ?_
       ·rintro b a w' ⟨gb270, m8_, ha, qB210, qB211, qB220, qB228, qB249, qB256, qB263, qHB, qB270, qW270, qE270, q210_270, q270_210, q211_270, q270_211, q220_270, q270_220, q228_270, q270_228, q249_270, q270_249, q256_270, q270_256, q263_270, q270_263, qB270_e9, Q_X8_⟩ hb_ hon hoff
        refine ⟨_, rfl, fun K hK => ?_⟩
        replace ha := am ha
        have BK210 := am qB210
        have BK211 := am qB211
        have BK220 := am qB220
        have BK228 := am qB228
        have BK249 := am qB249
        have BK256 := am qB256
        have BK263 := am qB263
        have HB := am qHB
        refine box_step ?hg (N := 22) ?hd (cs := #[.int .i64 0, .int .i64 0]) (t := 24) ?hr ?_; (case hd => rfl); (case hg => rfl); (case hr => first | (go_simp; done) | (go_simp; rfl))
        intro gb270 hg w118 hbox hb
        have n0_ := bb BK210 hb
        have n1_ := bb BK211 hb
        have n2_ := bb BK220 hb
        have n3_ := bb BK228 hb
        have n4_ := bb BK249 hb
        have n5_ := bb BK256 hb
        have n6_ := bb BK263 hb
        have n7_ := am (below_step pw hb)
        have n8_ := am (hbox)
        have n9_ := am ((by rw [hg]; exact (below_size pw) : w.heap.size ≤ gb270))
        have n10_ := am ((by rw [hg]; exact (below_size pw) : w.heap.size ≤ gb270))
        have n11_ := am ((by rw [hg]; exact Nat.ne_of_lt (blk_lt pk) : gb210 ≠ gb270))
        have n12_ := am ((by rw [hg]; exact Nat.ne_of_gt (blk_lt pk) : gb270 ≠ gb210))
        have n13_ := am ((by rw [hg]; exact Nat.ne_of_lt (blk_lt pk) : gb211 ≠ gb270))
        have n14_ := am ((by rw [hg]; exact Nat.ne_of_gt (blk_lt pk) : gb270 ≠ gb211))
        have n15_ := am ((by rw [hg]; exact Nat.ne_of_lt (blk_lt pk) : gb220 ≠ gb270))
        have n16_ := am ((by rw [hg]; exact Nat.ne_of_gt (blk_lt pk) : gb270 ≠ gb220))
        have n17_ := am ((by rw [hg]; exact Nat.ne_of_lt (blk_lt pk) : gb228 ≠ gb270))
        have n18_ := am ((by rw [hg]; exact Nat.ne_of_gt (blk_lt pk) : gb270 ≠ gb228))
        have n19_ := am ((by rw [hg]; exact Nat.ne_of_lt (blk_lt pk) : gb249 ≠ gb270))
        have n20_ := am ((by rw [hg]; exact Nat.ne_of_gt (blk_lt pk) : gb270 ≠ gb249))
        have n21_ := am ((by rw [hg]; exact Nat.ne_of_lt (blk_lt pk) : gb256 ≠ gb270))
        have n22_ := am ((by rw [hg]; exact Nat.ne_of_gt (blk_lt pk) : gb270 ≠ gb256))
        have n23_ := am ((by rw [hg]; exact Nat.ne_of_lt (blk_lt pk) : gb263 ≠ gb270))
        have n24_ := am ((by rw [hg]; exact Nat.ne_of_gt (blk_lt pk) : gb270 ≠ gb263))
        clear BK210 BK211 BK220 BK228 BK249 BK256 BK263 HB
        revert n0_ n1_ n2_ n3_ n4_ n5_ n6_ n7_ n8_ n9_ n10_ n11_ n12_ n13_ n14_ n15_ n16_ n17_ n18_ n19_ n20_ n21_ n22_ n23_ n24_
        intro BK210 BK211 BK220 BK228 BK249 BK256 BK263 HB BK270 GW270 GE270 NB210_270 NB270_210 NB211_270 NB270_211 NB220_270 NB270_220 NB228_270 NB270_228 NB249_270 NB270_249 NB256_270 NB270_256 NB263_270 NB270_263
        clear hb hbox hg
        refine hK.out _ _ ⟨gb270, (.pointer (some ⟨gb270, 0, none⟩)), (by rw [ha.out]; exact putSel_upk 8 hb_ rfl rfl rfl), pk, pk, pk, pk, pk, pk, pk, pw, fun _ _ => pk, fun _ => GW270.out, fun _ => GE270.out, fun _ => NB210_270.out, fun _ => NB270_210.out, fun _ => NB211_270.out, fun _ => NB270_211.out, fun _ => NB220_270.out, fun _ => NB270_220.out, fun _ => NB228_270.out, fun _ => NB270_228.out, fun _ => NB249_270.out, fun _ => NB270_249.out, fun _ => NB256_270.out, fun _ => NB270_256.out, fun _ => NB263_270.out, fun _ => NB270_263.out, fun h0_ => absurd ((hoff 9 kk).symm.trans h0_) (by decide), fun _ => rfl⟩
       refine steps_cons ?_ ?_
       ·rintro b a w' ⟨gb270, m8_, ha, qB210, qB211, qB220, qB228, qB249, qB256, qB263, qHB, qB270, qW270, qE270, q210_270, q270_210, q211_270, q270_211, q220_270, q270_220, q228_270, q270_228, q249_270, q270_249, q256_270, q270_256, q263_270, q270_263, qB270_e9, Q_X8_⟩ hb_ hon hoff
        refine ⟨_, rfl, fun K hK => ?_⟩
        have e22 : a.tmps[22]? = some (m8_) := by rw [ha]; exact putSel_on (e := (8, 22, m8_)) 8 rfl rfl (hon 8 kk) rfl
        rw [Q_X8_ (hon 8 kk)] at e22
        have e151 : a.tmps[151]? = some (.agg #[.int .i64 t268, .int .i64 t269]) := by rw [ha]; exact putSel_on (e := (6, 151, .agg #[.int .i64 t268, .int .i64 t269])) 6 rfl rfl (hon 6 kk) rfl
        replace ha := am ha
        have BK210 := am qB210
        have BK211 := am qB211
        have BK220 := am qB220
        have BK228 := am qB228
        have BK249 := am qB249
        have BK256 := am qB256
        have BK263 := am qB263
        have HB := am qHB
        have BK270 := am (qB270 (hon 8 kk) hb_)
        have GW270 := am (qW270 (hon 8 kk))
        have GE270 := am (qE270 (hon 8 kk))
        have NB210_270 := am (q210_270 (hon 8 kk))
        have NB270_210 := am (q270_210 (hon 8 kk))
        have NB211_270 := am (q211_270 (hon 8 kk))
        have NB270_211 := am (q270_211 (hon 8 kk))
        have NB220_270 := am (q220_270 (hon 8 kk))
        have NB270_220 := am (q270_220 (hon 8 kk))
        have NB228_270 := am (q228_270 (hon 8 kk))
        have NB270_228 := am (q270_228 (hon 8 kk))
        have NB249_270 := am (q249_270 (hon 8 kk))
        have NB270_249 := am (q270_249 (hon 8 kk))
        have NB256_270 := am (q256_270 (hon 8 kk))
        have NB270_256 := am (q270_256 (hon 8 kk))
        have NB263_270 := am (q263_270 (hon 8 kk))
        have NB270_263 := am (q270_263 (hon 8 kk))
        have hs123 : w'.cell? ⟨gb270, 0, none⟩ = some (.int .i64 0) := bc BK270 0
        have hfs123 := blk_frozen BK270.out 0
        have hns123_0 := NB210_270.out
        have hns123_1 := NB211_270.out
        have hns123_2 := NB220_270.out
        have hns123_3 := NB228_270.out
        have hns123_4 := NB249_270.out
        have hns123_5 := NB256_270.out
        have hns123_6 := NB263_270.out
        have hms123_0 := NB270_210.out
        have hms123_1 := NB270_211.out
        have hms123_2 := NB270_220.out
        have hms123_3 := NB270_228.out
        have hms123_4 := NB270_249.out
        have hms123_5 := NB270_256.out
        have hms123_6 := NB270_263.out
        have hs124 : w'.cell? ⟨gb270, 1, none⟩ = some (.int .i64 0) := bc BK270 1
        have hfs124 := blk_frozen BK270.out 1
        have hns124_0 := NB210_270.out
        have hns124_1 := NB211_270.out
        have hns124_2 := NB220_270.out
        have hns124_3 := NB228_270.out
        have hns124_4 := NB249_270.out
        have hns124_5 := NB256_270.out
        have hns124_6 := NB263_270.out
        have hms124_0 := NB270_210.out
        have hms124_1 := NB270_211.out
        have hms124_2 := NB270_220.out
        have hms124_3 := NB270_228.out
        have hms124_4 := NB270_249.out
        have hms124_5 := NB270_256.out
        have hms124_6 := NB270_263.out
        refine skip_ (w1 := ?_) (by rfl) rfl ?_ ?_
        rotate_left
        ·go_simp
         rfl
        refine hK.out _ _ ⟨gb270, m8_, (by rw [ha.out]; exact putSel_none (v := undef) rfl), (by (with_reducible repeat (first | refine blk_drewN ?_ _ | refine blk_drew ?_ | refine blk_alloc ?_ _)); refine blk_far ?_ NB210_270.out _; (with_reducible repeat (first | refine blk_drewN ?_ _ | refine blk_drew ?_ | refine blk_alloc ?_ _)); refine blk_far ?_ NB210_270.out _; (with_reducible repeat (first | refine blk_drewN ?_ _ | refine blk_drew ?_ | refine blk_alloc ?_ _)); exact BK210.out), (by (with_reducible repeat (first | refine blk_drewN ?_ _ | refine blk_drew ?_ | refine blk_alloc ?_ _)); refine blk_far ?_ NB211_270.out _; (with_reducible repeat (first | refine blk_drewN ?_ _ | refine blk_drew ?_ | refine blk_alloc ?_ _)); refine blk_far ?_ NB211_270.out _; (with_reducible repeat (first | refine blk_drewN ?_ _ | refine blk_drew ?_ | refine blk_alloc ?_ _)); exact BK211.out), (by (with_reducible repeat (first | refine blk_drewN ?_ _ | refine blk_drew ?_ | refine blk_alloc ?_ _)); refine blk_far ?_ NB220_270.out _; (with_reducible repeat (first | refine blk_drewN ?_ _ | refine blk_drew ?_ | refine blk_alloc ?_ _)); refine blk_far ?_ NB220_270.out _; (with_reducible repeat (first | refine blk_drewN ?_ _ | refine blk_drew ?_ | refine blk_alloc ?_ _)); exact BK220.out), (by (with_reducible repeat (first | refine blk_drewN ?_ _ | refine blk_drew ?_ | refine blk_alloc ?_ _)); refine blk_far ?_ NB228_270.out _; (with_reducible repeat (first | refine blk_drewN ?_ _ | refine blk_drew ?_ | refine blk_alloc ?_ _)); refine blk_far ?_ NB228_270.out _; (with_reducible repeat (first | refine blk_drewN ?_ _ | refine blk_drew ?_ | refine blk_alloc ?_ _)); exact BK228.out), (by (with_reducible repeat (first | refine blk_drewN ?_ _ | refine blk_drew ?_ | refine blk_alloc ?_ _)); refine blk_far ?_ NB249_270.out _; (with_reducible repeat (first | refine blk_drewN ?_ _ | refine blk_drew ?_ | refine blk_alloc ?_ _)); refine blk_far ?_ NB249_270.out _; (with_reducible repeat (first | refine blk_drewN ?_ _ | refine blk_drew ?_ | refine blk_alloc ?_ _)); exact BK249.out), (by (with_reducible repeat (first | refine blk_drewN ?_ _ | refine blk_drew ?_ | refine blk_alloc ?_ _)); refine blk_far ?_ NB256_270.out _; (with_reducible repeat (first | refine blk_drewN ?_ _ | refine blk_drew ?_ | refine blk_alloc ?_ _)); refine blk_far ?_ NB256_270.out _; (with_reducible repeat (first | refine blk_drewN ?_ _ | refine blk_drew ?_ | refine blk_alloc ?_ _)); exact BK256.out), (by (with_reducible repeat (first | refine blk_drewN ?_ _ | refine blk_drew ?_ | refine blk_alloc ?_ _)); refine blk_far ?_ NB263_270.out _; (with_reducible repeat (first | refine blk_drewN ?_ _ | refine blk_drew ?_ | refine blk_alloc ?_ _)); refine blk_far ?_ NB263_270.out _; (with_reducible repeat (first | refine blk_drewN ?_ _ | refine blk_drew ?_ | refine blk_alloc ?_ _)); exact BK263.out), pw, fun _ h1_ => absurd ((up_self b 9).symm.trans h1_) (by decide), fun _ => GW270.out, fun _ => GE270.out, fun _ => NB210_270.out, fun _ => NB270_210.out, fun _ => NB211_270.out, fun _ => NB270_211.out, fun _ => NB220_270.out, fun _ => NB270_220.out, fun _ => NB228_270.out, fun _ => NB270_228.out, fun _ => NB249_270.out, fun _ => NB270_249.out, fun _ => NB256_270.out, fun _ => NB270_256.out, fun _ => NB263_270.out, fun _ => NB270_263.out, fun _ => (by (with_reducible repeat (first | refine blk_drewN ?_ _ | refine blk_drew ?_ | refine blk_alloc ?_ _)); refine blk_put (cs := #[.int .i64 t268, .int .i64 0]) ?_ 1 _ rfl; (with_reducible repeat (first | refine blk_drewN ?_ _ | refine blk_drew ?_ | refine blk_alloc ?_ _)); refine blk_put (cs := #[.int .i64 0, .int .i64 0]) ?_ 0 _ rfl; (with_reducible repeat (first | refine blk_drewN ?_ _ | refine blk_drew ?_ | refine blk_alloc ?_ _)); exact BK270.out), Q_X8_⟩
       refine steps_cons ?_ ?_
       ·rintro b a w' ⟨gb270, m8_, ha, qB210, qB211, qB220, qB228, qB249, qB256, qB263, qHB, qB270, qW270, qE270, q210_270, q270_210, q211_270, q270_211, q220_270, q270_220, q228_270, q270_228, q249_270, q270_249, q256_270, q270_256, q263_270, q270_263, qB270_e9, Q_X8_⟩ hb_ hon hoff
        refine ⟨_, rfl, fun K hK => ?_⟩
        have e152 : a.tmps[152]? = some (.nilIface) := by rw [ha]; exact putSel_on (e := (7, 152, .nilIface)) 7 rfl rfl (hon 7 kk) rfl
        replace ha := am ha
        have BK210 := am qB210
        have BK211 := am qB211
        have BK220 := am qB220
        have BK228 := am qB228
        have BK249 := am qB249
        have BK256 := am qB256
        have BK263 := am qB263
        have HB := am qHB
        have GW270 := am (qW270 (hon 8 kk))
        have GE270 := am (qE270 (hon 8 kk))
        have NB210_270 := am (q210_270 (hon 8 kk))
        have NB270_210 := am (q270_210 (hon 8 kk))
        have NB211_270 := am (q211_270 (hon 8 kk))
        have NB270_211 := am (q270_211 (hon 8 kk))
        have NB220_270 := am (q220_270 (hon 8 kk))
        have NB270_220 := am (q270_220 (hon 8 kk))
        have NB228_270 := am (q228_270 (hon 8 kk))
        have NB270_228 := am (q270_228 (hon 8 kk))
        have NB249_270 := am (q249_270 (hon 8 kk))
        have NB270_249 := am (q270_249 (hon 8 kk))
        have NB256_270 := am (q256_270 (hon 8 kk))
        have NB270_256 := am (q270_256 (hon 8 kk))
        have NB263_270 := am (q263_270 (hon 8 kk))
        have NB270_263 := am (q270_263 (hon 8 kk))
        have BK270 := am (qB270_e9 (hon 9 kk))
        refine value_ (w1 := w') (v := .nilIface) (by rfl) rfl ?_ ?_
        ·go_simp
         (try simp only [i64_w])
         try rfl
        refine hK.out _ _ ⟨gb270, m8_, (by rw [ha.out]; exact putSel_upk 9 hb_ rfl rfl rfl), qB210, qB211, qB220, qB228, qB249, qB256, qB263, qHB, fun _ h1_ => absurd ((hon 9 kk).symm.trans h1_) (by decide), qW270, qE270, q210_270, q270_210, q211_270, q270_211, q220_270, q270_220, q228_270, q270_228, q249_270, q270_249, q256_270, q270_256, q263_270, q270_263, qB270_e9, Q_X8_⟩
       exact steps_nil
      rintro b a w124 hall ⟨gb270, m8_, ha, qB210, qB211, qB220, qB228, qB249, qB256, qB263, qHB, qB270, qW270, qE270, q210_270, q270_210, q211_270, q270_211, q220_270, q270_220, q228_270, q270_228, q249_270, q270_249, q256_270, q270_256, q263_270, q270_263, qB270_e9, Q_X8_⟩
      clear BK210 BK211 BK220 BK228 BK249 BK256 BK263 HB
      have hb0_ := hall 0 kk
      have hb1_ := hall 1 kk
      have hb2_ := hall 2 kk
      have hb3_ := hall 3 kk
      have hb4_ := hall 4 kk
      have hb5_ := hall 5 kk
      have hb6_ := hall 6 kk
      have hb7_ := hall 7 kk
      have hb8_ := hall 8 kk
      have hb9_ := hall 9 kk
      have hb10_ := hall 10 kk
      subst ha
      obtain rfl := Q_X8_ hb8_
      simp only [putSel, hb0_, hb1_, hb2_, hb3_, hb4_, hb5_, hb6_, hb7_, hb8_, hb9_, hb10_, if_true, Act.put, List.setIfInBounds_toArray, List.set_cons_zero, List.set_cons_succ]
      have BK210 := am qB210
      clear qB210
      have BK211 := am qB211
      clear qB211
      have BK220 := am qB220
      clear qB220
      have BK228 := am qB228
      clear qB228
      have BK249 := am qB249
      clear qB249
      have BK256 := am qB256
      clear qB256
      have BK263 := am qB263
      clear qB263
      have HB := am qHB
      clear qHB
      clear qB270
      have GW270 := am (qW270 hb8_)
      clear qW270
      have GE270 := am (qE270 hb8_)
      clear qE270
      have NB210_270 := am (q210_270 hb8_)
      clear q210_270
      have NB270_210 := am (q270_210 hb8_)
      clear q270_210
      have NB211_270 := am (q211_270 hb8_)
      clear q211_270
      have NB270_211 := am (q270_211 hb8_)
      clear q270_211
      have NB220_270 := am (q220_270 hb8_)
      clear q220_270
      have NB270_220 := am (q270_220 hb8_)
      clear q270_220
      have NB228_270 := am (q228_270 hb8_)
      clear q228_270
      have NB270_228 := am (q270_228 hb8_)
      clear q270_228
      have NB249_270 := am (q249_270 hb8_)
      clear q249_270
      have NB270_249 := am (q270_249 hb8_)
      clear q270_249
      have NB256_270 := am (q256_270 hb8_)
      clear q256_270
      have NB270_256 := am (q270_256 hb8_)
      clear q270_256
      have NB263_270 := am (q263_270 hb8_)
      clear q263_270
      have NB270_263 := am (q270_263 hb8_)
      clear q270_263
      have BK270 := am (qB270_e9 hb9_)
      clear qB270_e9
      clear hall hb0_ hb1_ hb2_ hb3_ hb4_ hb5_ hb6_ hb7_ hb8_ hb9_ hb10_
      try go_wp2
      have n0_ := am (blk_drew BK210.out)
      have n1_ := am (blk_drew BK211.out)
      have n2_ := am (blk_drew BK220.out)
      have n3_ := am (blk_drew BK228.out)
      have n4_ := am (blk_drew BK249.out)
      have n5_ := am (blk_drew BK256.out)
      have n6_ := am (blk_drew BK263.out)
      have n7_ := am (blk_drew BK270.out)
      have n8_ := am (below_drew1 HB.out)
      clear BK210 BK211 BK220 BK228 BK249 BK256 BK263 BK270 HB
      revert n0_ n1_ n2_ n3_ n4_ n5_ n6_ n7_ n8_
      intro BK210 BK211 BK220 BK228 BK249 BK256 BK263 BK270 HB
      refine start_ (n := 11) (S := fun w' => True) (ds := []) #[false, false, false, false, false, false, false, false, false, false, false] kk rfl rfl trivial (fun hHeld => ?_); refine with_tabW L2_CongrLattice.tab21 L2_CongrLattice.bits21 (fun HT_ HW_ => ?_)
      generalize w124.drew = w125 at BK210 BK211 BK220 BK228 BK249 BK256 BK263 BK270 HB hHeld ⊢
      refine inv_at [0, 1, 2, 3, 4, 5, 6, 7, 8, 9, 10] (fun a0_ b a w' => ∃ (gb277 : Nat) (m8_ : Value), a = putSel a0_ b [(0, 154, .agg #[.int .i64 a0_0, .int .i64 a0_1]), (1, 155, .agg #[.int .i64 t271, .int .i64 t272]), (2, 156, .agg #[.int .i64 a0_0, .int .i64 a0_1]), (3, 157, .agg #[.int .i64 t273, .int .i64 t274]), (4, 158, .tuple #[.agg #[.int .i64 t275, .int .i64 t276], .nilIface]), (5, 153, .tuple #[.agg #[.int .i64 t275, .int .i64 t276], .nilIface]), (6, 159, .agg #[.int .i64 t275, .int .i64 t276]), (7, 160, .nilIface), (8, 23, m8_), (10, 24, .nilIface)] ∧ (w'.heap[gb210]? = some (.cells #[.int .i64 a0_0, .int .i64 a0_1] 69 (0, 0))) ∧ (w'.heap[gb211]? = some (.cells #[.int .i64 a1_0, .int .i64 a1_1] 69 (0, 0))) ∧ (w'.heap[gb220]? = some (.cells #[.int .i64 t218, .int .i64 t219] 24 (0, 0))) ∧ (w'.heap[gb228]? = some (.cells #[.int .i64 t225, .int .i64 t226] 24 (0, 0))) ∧ (w'.heap[gb249]? = some (.cells #[.int .i64 t247, .int .i64 t248] 24 (0, 0))) ∧ (w'.heap[gb256]? = some (.cells #[.int .i64 t254, .int .i64 t255] 24 (0, 0))) ∧ (w'.heap[gb263]? = some (.cells #[.int .i64 t261, .int .i64 t262] 24 (0, 0))) ∧ (w'.heap[gb270]? = some (.cells #[.int .i64 t268, .int .i64 t269] 24 (0, 0))) ∧ (Below w.heap.size w w') ∧ (b 8 = true → b 9 = false → w'.heap[gb277]? = some (.cells #[.int .i64 0, .int .i64 0] 24 (0, 0))) ∧ (b 8 = true → w.heap.size ≤ gb277) ∧ (b 8 = true → w.heap.size ≤ gb277) ∧ (b 8 = true → gb210 ≠ gb277) ∧ (b 8 = true → gb277 ≠ gb210) ∧ (b 8 = true → gb211 ≠ gb277) ∧ (b 8 = true → gb277 ≠ gb211) ∧ (b 8 = true → gb220 ≠ gb277) ∧ (b 8 = true → gb277 ≠ gb220) ∧ (b 8 = true → gb228 ≠ gb277) ∧ (b 8 = true → gb277 ≠ gb228) ∧ (b 8 = true → gb249 ≠ gb277) ∧ (b 8 = true → gb277 ≠ gb249) ∧ (b 8 = true → gb256 ≠ gb277) ∧ (b 8 = true → gb277 ≠ gb256) ∧ (b 8 = true → gb263 ≠ gb277) ∧ (b 8 = true → gb277 ≠ gb263) ∧ (b 8 = true → gb270 ≠ gb277) ∧ (b 8 = true → gb277 ≠ gb270) ∧ (b 9 = true → w'.heap[gb277]? = some (.cells #[.int .i64 t275, .int .i64 t276] 24 (0, 0))) ∧ (b 8 = true → (m8_ : Value) = .pointer (some ⟨gb277, 0, none⟩))) HT_.out HW_.out kk kk ?_ ?_ ?_
      ·exact ⟨0, .bool false, by simp only [putSel, Bool.false_eq_true, if_false], BK210.out, BK211.out, BK220.out, BK228.out, BK249.out, BK256.out, BK263.out, BK270.out, HB.out, fun h_ => absurd h_ (by decide), fun h_ => absurd h_ (by decide), fun h_ => absurd h_ (by decide), fun h_ => absurd h_ (by decide), fun h_ => absurd h_ (by decide), fun h_ => absurd h_ (by decide), fun h_ => absurd h_ (by decide), fun h_ => absurd h_ (by decide), fun h_ => absurd h_ (by decide), fun h_ => absurd h_ (by decide), fun h_ => absurd h_ (by decide), fun h_ => absurd h_ (by decide), fun h_ => absurd h_ (by decide), fun h_ => absurd h_ (by decide), fun h_ => absurd h_ (by decide), fun h_ => absurd h_ (by decide), fun h_ => absurd h_ (by decide), fun h_ => absurd h_ (by decide), fun h_ => absurd h_ (by decide), fun h_ => absurd h_ (by decide), fun h_ => absurd h_ (by decide)⟩
      ·skip
       clear BK210 BK211 BK220 BK228 BK249 BK256 BK263 BK270 HB
       refine steps_cons ?_ ?_
       ·rintro b a w' ⟨gb277, m8_, ha, qB210, qB211, qB220, qB228, qB249, qB256, qB263, qB270, qHB, qB277, qW277, qE277, q210_277, q277_210, q211_277, q277_211, q220_277, q277_220, q228_277, q277_228, q249_277, q277_249, q256_277, q277_256, q263_277, q277_263, q270_277, q277_270, qB277_e9, Q_X8_⟩ hb_ hon hoff
        refine ⟨_, rfl, fun K hK => ?_⟩
        have e2 : a.tmps[2]? = some (.pointer (some ⟨gb210, 0, none⟩)) := by rw [ha]; exact (putSel_off rfl).trans rfl
        replace ha := am ha
        have BK210 := am qB210
        have BK211 := am qB211
        have BK220 := am qB220
        have BK228 := am qB228
        have BK249 := am qB249
        have BK256 := am qB256
        have BK263 := am qB263
        have BK270 := am qB270
        have HB := am qHB
        have hc0_ : w'.cell? ⟨gb210, 0, none⟩ = some (.int .i64 a0_0) := bc BK210 0
        have hc1_ : w'.cell? ⟨gb210, 1, none⟩ = some (.int .i64 a0_1) := bc BK210 1
        refine value_ (w1 := w') (v := .agg #[.int .i64 a0_0, .int .i64 a0_1]) (by rfl) rfl ?_ ?_
        ·go_simp
         (try simp only [i64_w])
         try rfl
        refine hK.out _ _ ⟨gb277, m8_, (by rw [ha.out]; exact putSel_upk 0 hb_ rfl rfl rfl), qB210, qB211, qB220, qB228, qB249, qB256, qB263, qB270, qHB, qB277, qW277, qE277, q210_277, q277_210, q211_277, q277_211, q220_277, q277_220, q228_277, q277_228, q249_277, q277_249, q256_277, q277_256, q263_277, q277_263, q270_277, q277_270, fun h0_ => absurd ((hoff 9 kk).symm.trans h0_) (by decide), Q_X8_⟩
       refine steps_cons ?_ ?_
       ·rintro b a w' ⟨gb277, m8_, ha, qB210, qB211, qB220, qB228, qB249, qB256, qB263, qB270, qHB, qB277, qW277, qE277, q210_277, q277_210, q211_277, q277_211, q220_277, q277_220, q228_277, q277_228, q249_277, q277_249, q256_277, q277_256, q263_277, q277_263, q270_277, q277_270, qB277_e9, Q_X8_⟩ hb_ hon hoff
        refine ⟨_, rfl, fun K hK => ?_⟩
        have e154 : a.tmps[154]? = some (.agg #[.int .i64 a0_0, .int .i64 a0_1]) := by rw [ha]; exact putSel_on (e := (0, 154, .agg #[.int .i64 a0_0, .int .i64 a0_1])) 0 rfl rfl (hon 0 kk) rfl
        replace ha := am ha
        have BK210 := am qB210
        have BK211 := am qB211
        have BK220 := am qB220
        have BK228 := am qB228
        have BK249 := am qB249
        have BK256 := am qB256
        have BK263 := am qB263
        have BK270 := am qB270
        have HB := am qHB
        refine goes_ Tryd.func41 kk rfl #[.agg #[.int .i64 a0_0, .int .i64 a0_1]] (by rfl) rfl rfl (by first | (simp only [List.map_toArray, List.map_cons, List.map_nil, Act.eval, Array.getD_eq_getD_getElem?, Option.getD_some, e154]; done) | (simp only [List.map_toArray, List.map_cons, List.map_nil, Act.eval, Array.getD_eq_getD_getElem?, Option.getD_some, e154]; rfl)) ?_
        with_reducible refine (L2_own.calls a0_0 a0_1 t271 t272 _ A87.out).mono ?_
        rintro e w126 ⟨rfl, hb⟩
        refine ⟨_, rfl, ?_⟩
        have n0_ := bb BK210 hb
        have n1_ := bb BK211 hb
        have n2_ := bb BK220 hb
        have n3_ := bb BK228 hb
        have n4_ := bb BK249 hb
        have n5_ := bb BK256 hb
        have n6_ := bb BK263 hb
        have n7_ := bb BK270 hb
        have n8_ := am (below_step pw hb)
        have z_BK277 := fun (h0_ : b 8 = true) (h1_ : b 9 = false) => (show w126.heap[gb277]? = some (.cells #[.int .i64 0, .int .i64 0] 24 (0, 0)) from by first | exact (blk_below (g := gb277) (o := .cells #[.int .i64 0, .int .i64 0] 24 (0, 0)) (by (with_reducible repeat (first | refine blk_drewN ?_ _ | refine blk_drew ?_ | refine blk_alloc ?_ _)); exact (qB277 h0_ h1_)) hb))
        clear BK210 BK211 BK220 BK228 BK249 BK256 BK263 BK270 HB
        revert n0_ n1_ n2_ n3_ n4_ n5_ n6_ n7_ n8_
        intro BK210 BK211 BK220 BK228 BK249 BK256 BK263 BK270 HB
        (try clear hb)
        (try clear hb2)
        (try clear hk)
        (try clear hi)
        refine hK.out _ _ ⟨gb277, m8_, (by rw [ha.out]; exact putSel_upk 1 hb_ rfl rfl rfl), pk, pk, pk, pk, pk, pk, pk, pk, pw, z_BK277, qW277, qE277, q210_277, q277_210, q211_277, q277_211, q220_277, q277_220, q228_277, q277_228, q249_277, q277_249, q256_277, q277_256, q263_277, q277_263, q270_277, q277_270, fun h0_ => absurd ((hoff 9 kk).symm.trans h0_) (by decide), Q_X8_⟩
       refine steps_cons ?_ ?_
       ·rintro b a w' ⟨gb277, m8_, ha, qB210, qB211, qB220, qB228, qB249, qB256, qB263, qB270, qHB, qB277, qW277, qE277, q210_277, q277_210, q211_277, q277_211, q220_277, q277_220, q228_277, q277_228, q249_277, q277_249, q256_277, q277_256, q263_277, q277_263, q270_277, q277_270, qB277_e9, Q_X8_⟩ hb_ hon hoff
        refine ⟨_, rfl, fun K hK => ?_⟩
        have e2 : a.tmps[2]? = some (.pointer (some ⟨gb210, 0, none⟩)) := by rw [ha]; exact (putSel_off rfl).trans rfl
        replace ha := am ha
        have BK210 := am qB210
        have BK211 := am qB211
        have BK220 := am qB220
        have BK228 := am qB228
        have BK249 := am qB249
        have BK256 := am qB256
        have BK263 := am qB263
        have BK270 := am qB270
        have HB := am qHB
        have hc0_ : w'.cell? ⟨gb210, 0, none⟩ = some (.int .i64 a0_0) := bc BK210 0
        have hc1_ : w'.cell? ⟨gb210, 1, none⟩ = some (.int .i64 a0_1) := bc BK210 1
        refine value_ (w1 := w') (v := .agg #[.int .i64 a0_0, .int .i64 a0_1]) (by rfl) rfl ?_ ?_
        ·go_simp
         (try simp only [i64_w])
         try rfl
        refine hK.out _ _ ⟨gb277, m8_, (by rw [ha.out]; exact putSel_upk 2 hb_ rfl rfl rfl), qB210, qB211, qB220, qB228, qB249, qB256, qB263, qB270, qHB, qB277, qW277, qE277, q210_277, q277_210, q211_277, q277_211, q220_277, q277_220, q228_277, q277_228, q249_277, q277_249, q256_277, q277_256, q263_277, q277_263, q270_277, q277_270, fun h0_ => absurd ((hoff 9 kk).symm.trans h0_) (by decide), Q_X8_⟩
       refine steps_cons ?_ ?_
       ·rintro b a w' ⟨gb277, m8_, ha, qB210, qB211, qB220, qB228, qB249, qB256, qB263, qB270, qHB, qB277, qW277, qE277, q210_277, q277_210, q211_277, q277_211, q220_277, q277_220, q228_277, q277_228, q249_277, q277_249, q256_277, q277_256, q263_277, q277_263, q270_277, q277_270, qB277_e9, Q_X8_⟩ hb_ hon hoff
        refine ⟨_, rfl, fun K hK => ?_⟩
        have e156 : a.tmps[156]? = some (.agg #[.int .i64 a0_0, .int .i64 a0_1]) := by rw [ha]; exact putSel_on (e := (2, 156, .agg #[.int .i64 a0_0, .int .i64 a0_1])) 2 rfl rfl (hon 2 kk) rfl
        replace ha := am ha
        have BK210 := am qB210
        have BK211 := am qB211
        have BK220 := am qB220
        have BK228 := am qB228
        have BK249 := am qB249
        have BK256 := am qB256
        have BK263 := am qB263
        have BK270 := am qB270
        have HB := am qHB
        refine goes_ Tryd.func41 kk rfl #[.agg #[.int .i64 a0_0, .int .i64 a0_1]] (by rfl) rfl rfl (by first | (simp only [List.map_toArray, List.map_cons, List.map_nil, Act.eval, Array.getD_eq_getD_getElem?, Option.getD_some, e156]; done) | (simp only [List.map_toArray, List.map_cons, List.map_nil, Act.eval, Array.getD_eq_getD_getElem?, Option.getD_some, e156]; rfl)) ?_
        with_reducible refine (L2_own.calls a0_0 a0_1 t273 t274 _ A88.out).mono ?_
        rintro e w128 ⟨rfl, hb⟩
        refine ⟨_, rfl, ?_⟩
        have n0_ := bb BK210 hb
        have n1_ := bb BK211 hb
        have n2_ := bb BK220 hb
        have n3_ := bb BK228 hb
        have n4_ := bb BK249 hb
        have n5_ := bb BK256 hb
        have n6_ := bb BK263 hb
        have n7_ := bb BK270 hb
        have n8_ := am (below_step pw hb)
        have z_BK277 := fun (h0_ : b 8 = true) (h1_ : b 9 = false) => (show w128.heap[gb277]? = some (.cells #[.int .i64 0, .int .i64 0] 24 (0, 0)) from by first | exact (blk_below (g := gb277) (o := .cells #[.int .i64 0, .int .i64 0] 24 (0, 0)) (by (with_reducible repeat (first | refine blk_drewN ?_ _ | refine blk_drew ?_ | refine blk_alloc ?_ _)); exact (qB277 h0_ h1_)) hb))
        clear BK210 BK211 BK220 BK228 BK249 BK256 BK263 BK270 HB
        revert n0_ n1_ n2_ n3_ n4_ n5_ n6_ n7_ n8_
        intro BK210 BK211 BK220 BK228 BK249 BK256 BK263 BK270 HB
        (try clear hb)
        (try clear hb2)
        (try clear hk)
        (try clear hi)
        refine hK.out _ _ ⟨gb277, m8_, (by rw [ha.out]; exact putSel_upk 3 hb_ rfl rfl rfl), pk, pk, pk, pk, pk, pk, pk, pk, pw, z_BK277, qW277, qE277, q210_277, q277_210, q211_277, q277_211, q220_277, q277_220, q228_277, q277_228, q249_277, q277_249, q256_277, q277_256, q263_277, q277_263, q270_277, q277_270, fun h0_ => absurd ((hoff 9 kk).symm.trans h0_) (by decide), Q_X8_⟩
       refine steps_cons ?_ ?_
       ·rintro b a w' ⟨gb277, m8_, ha, qB210, qB211, qB220, qB228, qB249, qB256, qB263, qB270, qHB, qB277, qW277, qE277, q210_277, q277_210, q211_277, q277_211, q220_277, q277_220, q228_277, q277_228, q249_277, q277_249, q256_277, q277_256, q263_277, q277_263, q270_277, q277_270, qB277_e9, Q_X8_⟩ hb_ hon hoff
        refine ⟨_, rfl, fun K hK => ?_⟩
        have e155 : a.tmps[155]? = some (.agg #[.int .i64 t271, .int .i64 t272]) := by rw [ha]; exact putSel_on (e := (1, 155, .agg #[.int .i64 t271, .int .i64 t272])) 1 rfl rfl (hon 1 kk) rfl
        have e157 : a.tmps[157]? = some (.agg #[.int .i64 t273, .int .i64 t274]) := by rw [ha]; exact putSel_on (e := (3, 157, .agg #[.int .i64 t273, .int .i64 t274])) 3 rfl rfl (hon 3 kk) rfl
        replace ha := am ha
        have BK210 := am qB210
        have BK211 := am qB211
        have BK220 := am qB220
        have BK228 := am qB228
        have BK249 := am qB249
        have BK256 := am qB256
        have BK263 := am qB263
        have BK270 := am qB270
        have HB := am qHB
        refine goes_ Tryd.func45 kk rfl #[.agg #[.int .i64 t271, .int .i64 t272], .agg #[.int .i64 t273, .int .i64 t274]] (by rfl) rfl rfl (by first | (simp only [List.map_toArray, List.map_cons, List.map_nil, Act.eval, Array.getD_eq_getD_getElem?, Option.getD_some, e155, e157]; done) | (simp only [List.map_toArray, List.map_cons, List.map_nil, Act.eval, Array.getD_eq_getD_getElem?, Option.getD_some, e155, e157]; rfl)) ?_
        with_reducible refine (congr_Sub_ok.calls kj49 t271 t272 t273 t274 t275 t276 _ A89.out (am (ErrAt.below hE2.out pw)).out (am (ErrAt.below hE3.out pw)).out).mono ?_
        rintro e w129 ⟨rfl, hb⟩
        refine ⟨_, rfl, ?_⟩
        have n0_ := bb BK210 hb
        have n1_ := bb BK211 hb
        have n2_ := bb BK220 hb
        have n3_ := bb BK228 hb
        have n4_ := bb BK249 hb
        have n5_ := bb BK256 hb
        have n6_ := bb BK263 hb
        have n7_ := bb BK270 hb
        have n8_ := am (below_step pw hb)
        have z_BK277 := fun (h0_ : b 8 = true) (h1_ : b 9 = false) => (show w129.heap[gb277]? = some (.cells #[.int .i64 0, .int .i64 0] 24 (0, 0)) from by first | exact (blk_below (g := gb277) (o := .cells #[.int .i64 0, .int .i64 0] 24 (0, 0)) (by (with_reducible repeat (first | refine blk_drewN ?_ _ | refine blk_drew ?_ | refine blk_alloc ?_ _)); exact (qB277 h0_ h1_)) hb))
        clear BK210 BK211 BK220 BK228 BK249 BK256 BK263 BK270 HB
        revert n0_ n1_ n2_ n3_ n4_ n5_ n6_ n7_ n8_
        intro BK210 BK211 BK220 BK228 BK249 BK256 BK263 BK270 HB
        (try clear hb)
        (try clear hb2)
        (try clear hk)
        (try clear hi)
        refine hK.out _ _ ⟨gb277, m8_, (by rw [ha.out]; exact putSel_upk 4 hb_ rfl rfl rfl), pk, pk, pk, pk, pk, pk, pk, pk, pw, z_BK277, qW277, qE277, q210_277, q277_210, q211_277, q277_211, q220_277, q277_220, q228_277, q277_228, q249_277, q277_249, q256_277, q277_256, q263_277, q277_263, q270_277, q277_270, fun h0_ => absurd ((hoff 9 kk).symm.trans h0_) (by decide), Q_X8_⟩
       refine steps_cons ?_ ?_
       ·rintro b a w' ⟨gb277, m8_, ha, qB210, qB211, qB220, qB228, qB249, qB256, qB263, qB270, qHB, qB277, qW277, qE277, q210_277, q277_210, q211_277, q277_211, q220_277, q277_220, q228_277, q277_228, q249_277, q277_249, q256_277, q277_256, q263_277, q277_263, q270_277, q277_270, qB277_e9, Q_X8_⟩ hb_ hon hoff
        refine ⟨_, rfl, fun K hK => ?_⟩
        have e158 : a.tmps[158]? = some (.tuple #[.agg #[.int .i64 t275, .int .i64 t276], .nilIface]) := by rw [ha]; exact putSel_on (e := (4, 158, .tuple #[.agg #[.int .i64 t275, .int .i64 t276], .nilIface])) 4 rfl rfl (hon 4 kk) rfl
        replace ha := am ha
        have BK210 := am qB210
        have BK211 := am qB211
        have BK220 := am qB220
        have BK228 := am qB228
        have BK249 := am qB249
        have BK256 := am qB256
        have BK263 := am qB263
        have BK270 := am qB270
        have HB := am qHB
        refine value_ (w1 := w') (v := .tuple #[.agg #[.int .i64 t275, .int .i64 t276], .nilIface]) (by rfl) rfl ?_ ?_
        ·go_simp
         (try simp only [i64_w])
         try rfl
        refine hK.out _ _ ⟨gb277, m8_, (by rw [ha.out]; exact putSel_upk 5 hb_ rfl rfl rfl), qB210, qB211, qB220, qB228, qB249, qB256, qB263, qB270, qHB, qB277, qW277, qE277, q210_277, q277_210, q211_277, q277_211, q220_277, q277_220, q228_277, q277_228, q249_277, q277_249, q256_277, q277_256, q263_277, q277_263, q270_277, q277_270, fun h0_ => absurd ((hoff 9 kk).symm.trans h0_) (by decide), Q_X8_⟩
       refine steps_cons ?_ ?_
       ·rintro b a w' ⟨gb277, m8_, ha, qB210, qB211, qB220, qB228, qB249, qB256, qB263, qB270, qHB, qB277, qW277, qE277, q210_277, q277_210, q211_277, q277_211, q220_277, q277_220, q228_277, q277_228, q249_277, q277_249, q256_277, q277_256, q263_277, q277_263, q270_277, q277_270, qB277_e9, Q_X8_⟩ hb_ hon hoff
        refine ⟨_, rfl, fun K hK => ?_⟩
        have e153 : a.tmps[153]? = some (.tuple #[.agg #[.int .i64 t275, .int .i64 t276], .nilIface]) := by rw [ha]; exact putSel_on (e := (5, 153, .tuple #[.agg #[.int .i64 t275, .int .i64 t276], .nilIface])) 5 rfl rfl (hon 5 kk) rfl
        replace ha := am ha
        have BK210 := am qB210
        have BK211 := am qB211
        have BK220 := am qB220
        have BK228 := am qB228
        have BK249 := am qB249
        have BK256 := am qB256
        have BK263 := am qB263
        have BK270 := am qB270
        have HB := am qHB
        refine value_ (w1 := w') (v := .agg #[.int .i64 t275, .int .i64 t276]) (by rfl) rfl ?_ ?_
        ·go_simp
         (try simp only [i64_w])
         try rfl
        refine hK.out _ _ ⟨gb277, m8_, (by rw [ha.out]; exact putSel_upk 6 hb_ rfl rfl rfl), qB210, qB211, qB220, qB228, qB249, qB256, qB263, qB270, qHB, qB277, qW277, qE277, q210_277, q277_210, q211_277, q277_211, q220_277, q277_220, q228_277, q277_228, q249_277, q277_249, q256_277, q277_256, q263_277, q277_263, q270_277, q277_270, fun h0_ => absurd ((hoff 9 kk).symm.trans h0_) (by decide), Q_X8_⟩
       refine steps_cons ?_ ?_
       ·rintro b a w' ⟨gb277, m8_, ha, qB210, qB211, qB220, qB228, qB249, qB256, qB263, qB270, qHB, qB277, qW277, qE277, q210_277, q277_210, q211_277, q277_211, q220_277, q277_220, q228_277, q277_228, q249_277, q277_249, q256_277, q277_256, q263_277, q277_263, q270_277, q277_270, qB277_e9, Q_X8_⟩ hb_ hon hoff
        refine ⟨_, rfl, fun K hK => ?_⟩
        have e153 : a.tmps[153]? = some (.tuple #[.agg #[.int .i64 t275, .int .i64 t276], .nilIface]) := by rw [ha]; exact putSel_on (e := (5, 153, .tuple #[.agg #[.int .i64 t275, .int .i64 t276], .nilIface])) 5 rfl rfl (hon 5 kk) rfl
        replace ha := am ha
        have BK210 := am qB210
        have BK211 := am qB211
        have BK220 := am qB220
        have BK228 := am qB228
        have BK249 := am qB249
        have BK256 := am qB256
        have BK263 := am qB263
        have BK270 := am qB270
        have HB := am qHB
        refine value_ (w1 := w') (v := .nilIface) (by rfl) rfl ?_ ?_
        ·go_simp
         (try simp only [i64_w])
         try rfl
        refine hK.out _ _ ⟨gb277, m8_, (by rw [ha.out]; exact putSel_upk 7 hb_ rfl rfl rfl), qB210, qB211, qB220, qB228, qB249, qB256, qB263, qB270, qHB, qB277, qW277, qE277, q210_277, q277_210, q211_277, q277_211, q220_277, q277_220, q228_277, q277_228, q249_277, q277_249, q256_277, q277_256, q263_277, q277_263, q270_277, q277_270, qB277_e9, Q_X8_⟩
       refine steps_cons ?_ ?_
       ·rintro b a w' ⟨gb277, m8_, ha, qB210, qB211, qB220, qB228, qB249, qB256, qB263, qB270, qHB, qB277, qW277, qE277, q210_277, q277_210, q211_277, q277_211, q220_277, q277_220, q228_277, q277_228, q249_277, q277_249, q256_277, q277_256, q263_277, q277_263, q270_277, q277_270, qB277_e9, Q_X8_⟩ hb_ hon hoff
        refine ⟨_, rfl, fun K hK => ?_⟩
        replace ha := am ha
        have BK210 := am qB210
        have BK211 := am qB211
        have BK220 := am qB220
        have BK228 := am qB228
        have BK249 := am qB249
        have BK256 := am qB256
        have BK263 := am qB263
        have BK270 := am qB270
        have HB := am qHB
        refine box_step ?hg (N := 23) ?hd (cs := #[.int .i64 0, .int .i64 0]) (t := 24) ?hr ?_; (case hd => rfl); (case hg => rfl); (case hr => first | (go_simp; done) | (go_simp; rfl))
        intro gb277 hg w126 hbox hb
        have n0_ := bb BK210 hb
        have n1_ := bb BK211 hb
        have n2_ := bb BK220 hb
        have n3_ := bb BK228 hb
        have n4_ := bb BK249 hb
        have n5_ := bb BK256 hb
        have n6_ := bb BK263 hb
        have n7_ := bb BK270 hb
        have n8_ := am (below_step pw hb)
        have n9_ := am (hbox)
        have n10_ := am ((by rw [hg]; exact (below_size pw) : w.heap.size ≤ gb277))
        have n11_ := am ((by rw [hg]; exact (below_size pw) : w.heap.size ≤ gb277))
        have n12_ := am ((by rw [hg]; exact Nat.ne_of_lt (blk_lt pk) : gb210 ≠ gb277))
        have n13_ := am ((by rw [hg]; exact Nat.ne_of_gt (blk_lt pk) : gb277 ≠ gb210))
        have n14_ := am ((by rw [hg]; exact Nat.ne_of_lt (blk_lt pk) : gb211 ≠ gb277))
        have n15_ := am ((by rw [hg]; exact Nat.ne_of_gt (blk_lt pk) : gb277 ≠ gb211))
        have n16_ := am ((by rw [hg]; exact Nat.ne_of_lt (blk_lt pk) : gb220 ≠ gb277))
        have n17_ := am ((by rw [hg]; exact Nat.ne_of_gt (blk_lt pk) : gb277 ≠ gb220))
        have n18_ := am ((by rw [hg]; exact Nat.ne_of_lt (blk_lt pk) : gb228 ≠ gb277))
        have n19_ := am ((by rw [hg]; exact Nat.ne_of_gt (blk_lt pk) : gb277 ≠ gb228))
        have n20_ := am ((by rw [hg]; exact Nat.ne_of_lt (blk_lt pk) : gb249 ≠ gb277))
        have n21_ := am ((by rw [hg]; exact Nat.ne_of_gt (blk_lt pk) : gb277 ≠ gb249))
        have n22_ := am ((by rw [hg]; exact Nat.ne_of_lt (blk_lt pk) : gb256 ≠ gb277))
        have n23_ := am ((by rw [hg]; exact Nat.ne_of_gt (blk_lt pk) : gb277 ≠ gb256))
        have n24_ := am ((by rw [hg]; exact Nat.ne_of_lt (blk_lt pk) : gb263 ≠ gb277))
        have n25_ := am ((by rw [hg]; exact Nat.ne_of_gt (blk_lt pk) : gb277 ≠ gb263))
        have n26_ := am ((by rw [hg]; exact Nat.ne_of_lt (blk_lt pk) : gb270 ≠ gb277))
        have n27_ := am ((by rw [hg]; exact Nat.ne_of_gt (blk_lt pk) : gb277 ≠ gb270))
        clear BK210 BK211 BK220 BK228 BK249 BK256 BK263 BK270 HB
        revert n0_ n1_ n2_ n3_ n4_ n5_ n6_ n7_ n8_ n9_ n10_ n11_ n12_ n13_ n14_ n15_ n16_ n17_ n18_ n19_ n20_ n21_ n22_ n23_ n24_ n25_ n26_ n27_
        intro BK210 BK211 BK220 BK228 BK249 BK256 BK263 BK270 HB BK277 GW277 GE277 NB210_277 NB277_210 NB211_277 NB277_211 NB220_277 NB277_220 NB228_277 NB277_228 NB249_277 NB277_249 NB256_277 NB277_256 NB263_277 NB277_263 NB270_277 NB277_270
        clear hb hbox hg
        refine hK.out _ _ ⟨gb277, (.pointer (some ⟨gb277, 0, none⟩)), (by rw [ha.out]; exact putSel_upk 8 hb_ rfl rfl rfl), pk, pk, pk, pk, pk, pk, pk, pk, pw, fun _ _ => pk, fun _ => GW277.out, fun _ => GE277.out, fun _ => NB210_277.out, fun _ => NB277_210.out, fun _ => NB211_277.out, fun _ => NB277_211.out, fun _ => NB220_277.out, fun _ => NB277_220.out, fun _ => NB228_277.out, fun _ => NB277_228.out, fun _ => NB249_277.out, fun _ => NB277_249.out, fun _ => NB256_277.out, fun _ => NB277_256.out, fun _ => NB263_277.out, fun _ => NB277_263.out, fun _ => NB270_277.out, fun _ => NB277_270.out, fun h0_ => absurd ((hoff 9 kk).symm.trans h0_) (by decide), fun _ => rfl⟩
       refine steps_cons ?_ ?_
       ·rintro b a w' ⟨gb277, m8_, ha, qB210, qB211, qB220, qB228, qB249, qB256, qB263, qB270, qHB, qB277, qW277, qE277, q210_277, q277_210, q211_277, q277_211, q220_277, q277_220, q228_277, q277_228, q249_277, q277_249, q256_277, q277_256, q263_277, q277_263, q270_277, q277_270, qB277_e9, Q_X8_⟩ hb_ hon hoff
        refine ⟨_, rfl, fun K hK => ?_⟩
        have e23 : a.tmps[23]? = some (m8_) := by rw [ha]; exact putSel_on (e := (8, 23, m8_)) 8 rfl rfl (hon 8 kk) rfl
        rw [Q_X8_ (hon 8 kk)] at e23
        have e159 : a.tmps[159]? = some (.agg #[.int .i64 t275, .int .i64 t276]) := by rw [ha]; exact putSel_on (e := (6, 159, .agg #[.int .i64 t275, .int .i64 t276])) 6 rfl rfl (hon 6 kk) rfl
        replace ha := am ha
        have BK210 := am qB210
        have BK211 := am qB211
        have BK220 := am qB220
        have BK228 := am qB228
        have BK249 := am qB249
        have BK256 := am qB256
        have BK263 := am qB263
        have BK270 := am qB270
        have HB := am qHB
        have BK277 := am (qB277 (hon 8 kk) hb_)
        have GW277 := am (qW277 (hon 8 kk))
        have GE277 := am (qE277 (hon 8 kk))
        have NB210_277 := am (q210_277 (hon 8 kk))
        have NB277_210 := am (q277_210 (hon 8 kk))
        have NB211_277 := am (q211_277 (hon 8 kk))
        have NB277_211 := am (q277_211 (hon 8 kk))
        have NB220_277 := am (q220_277 (hon 8 kk))
        have NB277_220 := am (q277_220 (hon 8 kk))
        have NB228_277 := am (q228_277 (hon 8 kk))
        have NB277_228 := am (q277_228 (hon 8 kk))
        have NB249_277 := am (q249_277 (hon 8 kk))
        have NB277_249 := am (q277_249 (hon 8 kk))
        have NB256_277 := am (q256_277 (hon 8 kk))
        have NB277_256 := am (q277_256 (hon 8 kk))
        have NB263_277 := am (q263_277 (hon 8 kk))
        have NB277_263 := am (q277_263 (hon 8 kk))
        have NB270_277 := am (q270_277 (hon 8 kk))
        have NB277_270 := am (q277_270 (hon 8 kk))
        have hs131 : w'.cell? ⟨gb277, 0, none⟩ = some (.int .i64 0) := bc BK277 0
        have hfs131 := blk_frozen BK277.out 0
        have hns131_0 := NB210_277.out
        have hns131_1 := NB211_277.out
        have hns131_2 := NB220_277.out
        have hns131_3 := NB228_277.out
        have hns131_4 := NB249_277.out
        have hns131_5 := NB256_277.out
        have hns131_6 := NB263_277.out
        have hns131_7 := NB270_277.out
        have hms131_0 := NB277_210.out
        have hms131_1 := NB277_211.out
        have hms131_2 := NB277_220.out
        have hms131_3 := NB277_228.out
        have hms131_4 := NB277_249.out
        have hms131_5 := NB277_256.out
        have hms131_6 := NB277_263.out
        have hms131_7 := NB277_270.out
        have hs132 : w'.cell? ⟨gb277, 1, none⟩ = some (.int .i64 0) := bc BK277 1
        have hfs132 := blk_frozen BK277.out 1
        have hns132_0 := NB210_277.out
        have hns132_1 := NB211_277.out
        have hns132_2 := NB220_277.out
        have hns132_3 := NB228_277.out
        have hns132_4 := NB249_277.out
        have hns132_5 := NB256_277.out
        have hns132_6 := NB263_277.out
        have hns132_7 := NB270_277.out
        have hms132_0 := NB277_210.out
        have hms132_1 := NB277_211.out
        have hms132_2 := NB277_220.out
        have hms132_3 := NB277_228.out
        have hms132_4 := NB277_249.out
        have hms132_5 := NB277_256.out
        have hms132_6 := NB277_263.out
        have hms132_7 := NB277_270.out
        refine skip_ (w1 := ?_) (by rfl) rfl ?_ ?_
        rotate_left
        ·go_simp
         rfl
        refine hK.out _ _ ⟨gb277, m8_, (by rw [ha.out]; exact putSel_none (v := undef) rfl), (by (with_reducible repeat (first | refine blk_drewN ?_ _ | refine blk_drew ?_ | refine blk_alloc ?_ _)); refine blk_far ?_ NB210_277.out _; (with_reducible repeat (first | refine blk_drewN ?_ _ | refine blk_drew ?_ | refine blk_alloc ?_ _)); refine blk_far ?_ NB210_277.out _; (with_reducible repeat (first | refine blk_drewN ?_ _ | refine blk_drew ?_ | refine blk_alloc ?_ _)); exact BK210.out), (by (with_reducible repeat (first | refine blk_drewN ?_ _ | refine blk_drew ?_ | refine blk_alloc ?_ _)); refine blk_far ?_ NB211_277.out _; (with_reducible repeat (first | refine blk_drewN ?_ _ | refine blk_drew ?_ | refine blk_alloc ?_ _)); refine blk_far ?_ NB211_277.out _; (with_reducible repeat (first | refine blk_drewN ?_ _ | refine blk_drew ?_ | refine blk_alloc ?_ _)); exact BK211.out), (by (with_reducible repeat (first | refine blk_drewN ?_ _ | refine blk_drew ?_ | refine blk_alloc ?_ _)); refine blk_far ?_ NB220_277.out _; (with_reducible repeat (first | refine blk_drewN ?_ _ | refine blk_drew ?_ | refine blk_alloc ?_ _)); refine blk_far ?_ NB220_277.out _; (with_reducible repeat (first | refine blk_drewN ?_ _ | refine blk_drew ?_ | refine blk_alloc ?_ _)); exact BK220.out), (by (with_reducible repeat (first | refine blk_drewN ?_ _ | refine blk_drew ?_ | refine blk_alloc ?_ _)); refine blk_far ?_ NB228_277.out _; (with_reducible repeat (first | refine blk_drewN ?_ _ | refine blk_drew ?_ | refine blk_alloc ?_ _)); refine blk_far ?_ NB228_277.out _; (with_reducible repeat (first | refine blk_drewN ?_ _ | refine blk_drew ?_ | refine blk_alloc ?_ _)); exact BK228.out), (by (with_reducible repeat (first | refine blk_drewN ?_ _ | refine blk_drew ?_ | refine blk_alloc ?_ _)); refine blk_far ?_ NB249_277.out _; (with_reducible repeat (first | refine blk_drewN ?_ _ | refine blk_drew ?_ | refine blk_alloc ?_ _)); refine blk_far ?_ NB249_277.out _; (with_reducible repeat (first | refine blk_drewN ?_ _ | refine blk_drew ?_ | refine blk_alloc ?_ _)); exact BK249.out), (by (with_reducible repeat (first | refine blk_drewN ?_ _ | refine blk_drew ?_ | refine blk_alloc ?_ _)); refine blk_far ?_ NB256_277.out _; (with_reducible repeat (first | refine blk_drewN ?_ _ | refine blk_drew ?_ | refine blk_alloc ?_ _)); refine blk_far ?_ NB256_277.out _; (with_reducible repeat (first | refine blk_drewN ?_ _ | refine blk_drew ?_ | refine blk_alloc ?_ _)); exact BK256.out), (by (with_reducible repeat (first | refine blk_drewN ?_ _ | refine blk_drew ?_ | refine blk_alloc ?_ _)); refine blk_far ?_ NB263_277.out _; (with_reducible repeat (first | refine blk_drewN ?_ _ | refine blk_drew ?_ | refine blk_alloc ?_ _)); refine blk_far ?_ NB263_277.out _; (with_reducible repeat (first | refine blk_drewN ?_ _ | refine blk_drew ?_ | refine blk_alloc ?_ _)); exact BK263.out), (by (with_reducible repeat (first | refine blk_drewN ?_ _ | refine blk_drew ?_ | refine blk_alloc ?_ _)); refine blk_far ?_ NB270_277.out _; (with_reducible repeat (first | refine blk_drewN ?_ _ | refine blk_drew ?_ | refine blk_alloc ?_ _)); refine blk_far ?_ NB270_277.out _; (with_reducible repeat (first | refine blk_drewN ?_ _ | refine blk_drew ?_ | refine blk_alloc ?_ _)); exact BK270.out), pw, fun _ h1_ => absurd ((up_self b 9).symm.trans h1_) (by decide), fun _ => GW277.out, fun _ => GE277.out, fun _ => NB210_277.out, fun _ => NB277_210.out, fun _ => NB211_277.out, fun _ => NB277_211.out, fun _ => NB220_277.out, fun _ => NB277_220.out, fun _ => NB228_277.out, fun _ => NB277_228.out, fun _ => NB249_277.out, fun _ => NB277_249.out, fun _ => NB256_277.out, fun _ => NB277_256.out, fun _ => NB263_277.out, fun _ => NB277_263.out, fun _ => NB270_277.out, fun _ => NB277_270.out, fun _ => (by (with_reducible repeat (first | refine blk_drewN ?_ _ | refine blk_drew ?_ | refine blk_alloc ?_ _)); refine blk_put (cs := #[.int .i64 t275, .int .i64 0]) ?_ 1 _ rfl; (with_reducible repeat (first | refine blk_drewN ?_ _ | refine blk_drew ?_ | refine blk_alloc ?_ _)); refine blk_put (cs := #[.int .i64 0, .int .i64 0]) ?_ 0 _ rfl; (with_reducible repeat (first | refine blk_drewN ?_ _ | refine blk_drew ?_ | refine blk_alloc ?_ _)); exact BK277.out), Q_X8_⟩
       refine steps_cons ?_ ?_
       ·rintro b a w' ⟨gb277, m8_, ha, qB210, qB211, qB220, qB228, qB249, qB256, qB263, qB270, qHB, qB277, qW277, qE277, q210_277, q277_210, q211_277, q277_211, q220_277, q277_220, q228_277, q277_228, q249_277, q277_249, q256_277, q277_256, q263_277, q277_263, q270_277, q277_270, qB277_e9, Q_X8_⟩ hb_ hon hoff
        refine ⟨_, rfl, fun K hK => ?_⟩
        have e160 : a.tmps[160]? = some (.nilIface) := by rw [ha]; exact putSel_on (e := (7, 160, .nilIface)) 7 rfl rfl (hon 7 kk) rfl
        replace ha := am ha
        have BK210 := am qB210
        have BK211 := am qB211
        have BK220 := am qB220
        have BK228 := am qB228
        have BK249 := am qB249
        have BK256 := am qB256
        have BK263 := am qB263
        have BK270 := am qB270
        have HB := am qHB
        have GW277 := am (qW277 (hon 8 kk))
        have GE277 := am (qE277 (hon 8 kk))
        have NB210_277 := am (q210_277 (hon 8 kk))
        have NB277_210 := am (q277_210 (hon 8 kk))
        have NB211_277 := am (q211_277 (hon 8 kk))
        have NB277_211 := am (q277_211 (hon 8 kk))
        have NB220_277 := am (q220_277 (hon 8 kk))
        have NB277_220 := am (q277_220 (hon 8 kk))
        have NB228_277 := am (q228_277 (hon 8 kk))
        have NB277_228 := am (q277_228 (hon 8 kk))
        have NB249_277 := am (q249_277 (hon 8 kk))
        have NB277_249 := am (q277_249 (hon 8 kk))
        have NB256_277 := am (q256_277 (hon 8 kk))
        have NB277_256 := am (q277_256 (hon 8 kk))
        have NB263_277 := am (q263_277 (hon 8 kk))
        have NB277_263 := am (q277_263 (hon 8 kk))
        have NB270_277 := am (q270_277 (hon 8 kk))
        have NB277_270 := am (q277_270 (hon 8 kk))
        have BK277 := am (qB277_e9 (hon 9 kk))
        refine value_ (w1 := w') (v := .nilIface) (by rfl) rfl ?_ ?_
        ·go_simp
         (try simp only [i64_w])
         try rfl
        refine hK.out _ _ ⟨gb277, m8_, (by rw [ha.out]; exact putSel_upk 9 hb_ rfl rfl rfl), qB210, qB211, qB220, qB228, qB249, qB256, qB263, qB270, qHB, fun _ h1_ => absurd ((hon 9 kk).symm.trans h1_) (by decide), qW277, qE277, q210_277, q277_210, q211_277, q277_211, q220_277, q277_220, q228_277, q277_228, q249_277, q277_249, q256_277, q277_256, q263_277, q277_263, q270_277, q277_270, qB277_e9, Q_X8_⟩
       exact steps_nil
      rintro b a w132 hall ⟨gb277, m8_, ha, qB210, qB211, qB220, qB228, qB249, qB256, qB263, qB270, qHB, qB277, qW277, qE277, q210_277, q277_210, q211_277, q277_211, q220_277, q277_220, q228_277, q277_228, q249_277, q277_249, q256_277, q277_256, q263_277, q277_263, q270_277, q277_270, qB277_e9, Q_X8_⟩
      clear BK210 BK211 BK220 BK228 BK249 BK256 BK263 BK270 HB
      have hb0_ := hall 0 kk
      have hb1_ := hall 1 kk
      have hb2_ := hall 2 kk
      have hb3_ := hall 3 kk
      have hb4_ := hall 4 kk
      have hb5_ := hall 5 kk
      have hb6_ := hall 6 kk
      have hb7_ := hall 7 kk
      have hb8_ := hall 8 kk
      have hb9_ := hall 9 kk
      have hb10_ := hall 10 kk
      subst ha
      obtain rfl := Q_X8_ hb8_
      simp only [putSel, hb0_, hb1_, hb2_, hb3_, hb4_, hb5_, hb6_, hb7_, hb8_, hb9_, hb10_, if_true, Act.put, List.setIfInBounds_toArray, List.set_cons_zero, List.set_cons_succ]
      have BK210 := am qB210
      clear qB210
      have BK211 := am qB211
      clear qB211
      have BK220 := am qB220
      clear qB220
      have BK228 := am qB228
      clear qB228
      have BK249 := am qB249
      clear qB249
      have BK256 := am qB256
      clear qB256
      have BK263 := am qB263
      clear qB263
      have BK270 := am qB270
      clear qB270
      have HB := am qHB
      clear qHB
      clear qB277
      have GW277 := am (qW277 hb8_)
      clear qW277
      have GE277 := am (qE277 hb8_)
      clear qE277
      have NB210_277 := am (q210_277 hb8_)
      clear q210_277
      have NB277_210 := am (q277_210 hb8_)
      clear q277_210
      have NB211_277 := am (q211_277 hb8_)
      clear q211_277
      have NB277_211 := am (q277_211 hb8_)
      clear q277_211
      have NB220_277 := am (q220_277 hb8_)
      clear q220_277
      have NB277_220 := am (q277_220 hb8_)
      clear q277_220
      have NB228_277 := am (q228_277 hb8_)
      clear q228_277
      have NB277_228 := am (q277_228 hb8_)
      clear q277_228
      have NB249_277 := am (q249_277 hb8_)
      clear q249_277
      have NB277_249 := am (q277_249 hb8_)
      clear q277_249
      have NB256_277 := am (q256_277 hb8_)
      clear q256_277
      have NB277_256 := am (q277_256 hb8_)
      clear q277_256
      have NB263_277 := am (q263_277 hb8_)
      clear q263_277
      have NB277_263 := am (q277_263 hb8_)
      clear q277_263
      have NB270_277 := am (q270_277 hb8_)
      clear q270_277
      have NB277_270 := am (q277_270 hb8_)
      clear q277_270
      have BK277 := am (qB277_e9 hb9_)
      clear qB277_e9
      clear hall hb0_ hb1_ hb2_ hb3_ hb4_ hb5_ hb6_ hb7_ hb8_ hb9_ hb10_
      have hnb133 := NB249_210.out
      have hnc133 := NB210_249.out
      have hnb134 := NB249_211.out
      have hnc134 := NB211_249.out
      have hnb135 := NB249_220.out
      have hnc135 := NB220_249.out
      have hnb136 := NB249_228.out
      have hnc136 := NB228_249.out
      have hnb137 := NB249_256.out
      have hnc137 := NB256_249.out
      have hnb138 := NB249_263.out
      have hnc138 := NB263_249.out
      have hnb139 := NB249_270.out
      have hnc139 := NB270_249.out
      have hnb140 := NB249_277.out
      have hnc140 := NB277_249.out
      have hcz141_0 : w132.cell? ⟨gb249, 0, none⟩ = some (.int .i64 t247) := bc BK249 0
      have hcz141_1 : w132.cell? ⟨gb249, 1, none⟩ = some (.int .i64 t248) := bc BK249 1
      have hfz141_0 := blk_frozen BK249.out 0
      have hfz141_1 := blk_frozen BK249.out 1
      have hnb142 := NB256_210.out
      have hnc142 := NB210_256.out
      have hnb143 := NB256_211.out
      have hnc143 := NB211_256.out
      have hnb144 := NB256_220.out
      have hnc144 := NB220_256.out
      have hnb145 := NB256_228.out
      have hnc145 := NB228_256.out
      have hnb146 := NB256_263.out
      have hnc146 := NB263_256.out
      have hnb147 := NB256_270.out
      have hnc147 := NB270_256.out
      have hnb148 := NB256_277.out
      have hnc148 := NB277_256.out
      have hcz149_0 : w132.cell? ⟨gb256, 0, none⟩ = some (.int .i64 t254) := bc BK256 0
      have hcz149_1 : w132.cell? ⟨gb256, 1, none⟩ = some (.int .i64 t255) := bc BK256 1
      have hfz149_0 := blk_frozen BK256.out 0
      have hfz149_1 := blk_frozen BK256.out 1
      have hnb150 := NB263_210.out
      have hnc150 := NB210_263.out
      have hnb151 := NB263_211.out
      have hnc151 := NB211_263.out
      have hnb152 := NB263_220.out
      have hnc152 := NB220_263.out
      have hnb153 := NB263_228.out
      have hnc153 := NB228_263.out
      have hnb154 := NB263_270.out
      have hnc154 := NB270_263.out
      have hnb155 := NB263_277.out
      have hnc155 := NB277_263.out
      have hcz156_0 : w132.cell? ⟨gb263, 0, none⟩ = some (.int .i64 t261) := bc BK263 0
      have hcz156_1 : w132.cell? ⟨gb263, 1, none⟩ = some (.int .i64 t262) := bc BK263 1
      have hfz156_0 := blk_frozen BK263.out 0
      have hfz156_1 := blk_frozen BK263.out 1
      have hnb157 := NB270_210.out
      have hnc157 := NB210_270.out
      have hnb158 := NB270_211.out
      have hnc158 := NB211_270.out
      have hnb159 := NB270_220.out
      have hnc159 := NB220_270.out
      have hnb160 := NB270_228.out
      have hnc160 := NB228_270.out
      have hnb161 := NB270_277.out
      have hnc161 := NB277_270.out
      have hcz162_0 : w132.cell? ⟨gb270, 0, none⟩ = some (.int .i64 t268) := bc BK270 0
      have hcz162_1 : w132.cell? ⟨gb270, 1, none⟩ = some (.int .i64 t269) := bc BK270 1
      have hfz162_0 := blk_frozen BK270.out 0
      have hfz162_1 := blk_frozen BK270.out 1
      have hnb163 := NB277_210.out
      have hnc163 := NB210_277.out
      have hnb164 := NB277_211.out
      have hnc164 := NB211_277.out
      have hnb165 := NB277_220.out
      have hnc165 := NB220_277.out
      have hnb166 := NB277_228.out
      have hnc166 := NB228_277.out
      have hcz167_0 : w132.cell? ⟨gb277, 0, none⟩ = some (.int .i64 t275) := bc BK277 0
      have hcz167_1 : w132.cell? ⟨gb277, 1, none⟩ = some (.int .i64 t276) := bc BK277 1
      have hfz167_0 := blk_frozen BK277.out 0
      have hfz167_1 := blk_frozen BK277.out 1
      try go_wp2_with (first | (go_at_call 19; (with_reducible refine (congr_Has.calls kj49 t275 t276 0 t278 _ A92.out (am (ErrAt.below hE2.out pw)).out (am (ErrAt.below hE3.out pw)).out).mono ?_); rintro e w168 ⟨rfl, hb⟩; have n0_ := bb BK210 hb; have n1_ := bb BK211 hb; have n2_ := bb BK220 hb; have n3_ := bb BK228 hb; have n4_ := bb BK249 hb; have n5_ := bb BK256 hb; have n6_ := bb BK263 hb; have n7_ := bb BK270 hb; have n8_ := bb BK277 hb; have n9_ := am (below_step pw hb); clear BK210; clear BK211; clear BK220; clear BK228; clear BK249; clear BK256; clear BK263; clear BK270; clear BK277; clear HB; have BK210 := n0_; have BK211 := n1_; have BK220 := n2_; have BK228 := n3_; have BK249 := n4_; have BK256 := n5_; have BK263 := n6_; have BK270 := n7_; have BK277 := n8_; have HB := n9_; clear n0_ n1_ n2_ n3_ n4_ n5_ n6_ n7_ n8_ n9_; (try clear hb); (try clear hb2); (try clear hk); (try clear hi)))
      go_ret
      exact ⟨pe, pw⟩
     rw [if_neg c91] at H
     exact absurd H (by simp)
    rw [if_neg c90] at H
    exact absurd H (by simp)

end Go.Proofs.YtjpboodkmhikpaaDoor.C
