-- Written by wip/xprint.py (the session's program over the kit's print).
import Derived.Test.YtjpboodkmhikpaaDoorEb
import Derived.Test.YtjpboodkmhikpaaDoorC0
import Derived.Test.YtjpboodkmhikpaaDoorC5
namespace Go.Proofs.YtjpboodkmhikpaaDoor.C
open Go.RowKit Go.Proofs.YtjpboodkmhikpaaDoorW.PrintWords Go.Proofs.YtjpboodkmhikpaaDoorW.PrintLast Go.Proofs.YtjpboodkmhikpaaDoorW.PrintMore Go.Proofs.Rcg
attribute [local go_sem] max2_int min2_int max_two min_two max_three min_three max_four min_four   -- for this text's walks alone
set_option linter.unusedVariables false
set_option linter.unusedSimpArgs false

/-! ### R2_CongrError: function 91 -/
def R2_CongrError.j0 : Nat → Bool → Int → Int → Option (Int)
 | 0, _, _, _ => none
 | k + 1, x22, x203000, x203001 => if x22 = true then (some 2) else (if x203001 > 0 then (if x203000 < 0 then (some 3) else (if x203000 ≥ x203001 then (some 3) else (some 0))) else (some 0))
def R2_CongrError.f (k : Nat) (a0_0 : Int) (a0_1 : Int) : Option (Int) := (R2_Far.f a0_0 1099511627776).bind fun t203 => (if a0_1 < 0 then (R2_CongrError.j0 k true a0_0 a0_1) else (if a0_1 > 1048576 then (R2_CongrError.j0 k true a0_0 a0_1) else (if a0_1 = 0 then (R2_CongrError.j0 k t203 a0_0 a0_1) else (R2_CongrError.j0 k false a0_0 a0_1))))
theorem R2_CongrError.mono_l : ∀ k, (∀ y0 y1 y2, LeO (R2_CongrError.j0 k y0 y1 y2) (R2_CongrError.j0 (k + 1) y0 y1 y2))
 | 0 => fun _ _ _ r h => by simp [R2_CongrError.j0] at h
 | k + 1 => by
  have ih0 := R2_CongrError.mono_l k
  intro y0 y1 y2
  unfold R2_CongrError.j0
  repeat' first
  | (with_reducible exact ih0 _ _ _)
  | (with_reducible exact LeO.refl _)
  | (with_reducible exact LeO.none _)
  | (with_reducible refine LeO.ite ?_ ?_)
  | (with_reducible refine LeO.bind ?_ (fun _ => ?_))
  | exact ih0 _ _ _
  | exact LeO.none _
  | refine LeO.ite ?_ ?_
  | refine LeO.bind ?_ (fun _ => ?_)
theorem R2_CongrError.mono : ∀ a0 a1 k, LeO (R2_CongrError.f k a0 a1) (R2_CongrError.f (k + 1) a0 a1) := by
 intro a0 a1 k
 have ih0 := R2_CongrError.mono_l k
 unfold R2_CongrError.f
 repeat' first
   | (with_reducible exact ih0 _ _ _)
   | (with_reducible exact LeO.refl _)
   | (with_reducible exact LeO.none _)
   | (with_reducible refine LeO.ite ?_ ?_)
   | (with_reducible refine LeO.bind ?_ (fun _ => ?_))
   | exact ih0 _ _ _
   | exact LeO.none _
   | refine LeO.ite ?_ ?_
   | refine LeO.bind ?_ (fun _ => ?_)
set_option maxHeartbeats 8000000 in
set_option maxRecDepth 100000 in
theorem R2_CongrError.calls [EA] (k : Nat) (a0_0 : Int) (a0_1 : Int) (r : Int) (w : World) (h : R2_CongrError.f k a0_0 a0_1 = some r) :
  Calls Tryd.prog 91 #[.agg #[.int .i64 a0_0, .int .i64 a0_1]] w fun e w' => e = .returned (.int .i64 r) ∧ Below w.heap.size w w' := by
 have hu69 := Tryd.underlying69
 have HB := am (Below.refl w.heap.size w)
 have H : ((R2_Far.f a0_0 1099511627776).bind fun t203 => (if a0_1 < 0 then (R2_CongrError.j0 k true a0_0 a0_1) else (if a0_1 > 1048576 then (R2_CongrError.j0 k true a0_0 a0_1) else (if a0_1 = 0 then (R2_CongrError.j0 k t203 a0_0 a0_1) else (R2_CongrError.j0 k false a0_0 a0_1))))) = some r := h
 clear h
 replace H := Option.bind_eq_some_iff.mp H
 obtain ⟨t203, A20, H⟩ := H
 replace H : (if a0_1 < 0 then (R2_CongrError.j0 k true a0_0 a0_1) else (if a0_1 > 1048576 then (R2_CongrError.j0 k true a0_0 a0_1) else (if a0_1 = 0 then (R2_CongrError.j0 k t203 a0_0 a0_1) else (R2_CongrError.j0 k false a0_0 a0_1)))) = some r := H
 have A2 := am A20
 clear A20
 have HC3 := am H
 clear H
 go_enter Tryd.func91, Tryd.ntmps91
 go_upto_region 2 with (first | ((with_reducible refine gate_dst (N := 1) rfl ?_); refine box_event ?hg (N := 1) ?hd (cs := #[.int .i64 a0_0, .int .i64 a0_1]) (t := 69) ?hr ?_; (case hd => rfl); (case hg => rfl); (case hr => first | (go_simp; done) | (go_simp; rfl)); intro gb202 hg w4 hbox hb; have n0_ := am (below_step pw hb); have n1_ := am (hbox); have n2_ := am ((by rw [hg]; exact (below_size pw) : w.heap.size ≤ gb202)); have n3_ := am ((by rw [hg]; exact (below_size pw) : w.heap.size ≤ gb202)); clear HB; have HB := n0_; have BK202 := n1_; have GW202 := n2_; have GE202 := n3_; clear n0_ n1_ n2_ n3_; clear hb hbox hg; have hcz5_0 : w4.cell? ⟨gb202, 0, none⟩ = some (.int .i64 a0_0) := bc BK202 0; have hcz5_1 : w4.cell? ⟨gb202, 1, none⟩ = some (.int .i64 a0_1) := bc BK202 1; have hfz5_0 := blk_frozen BK202.out 0; have hfz5_1 := blk_frozen BK202.out 1) | ((with_reducible refine gate_callee (f := 37) rfl ?_); refine goesL_ (some 6) rfl rfl Tryd.func37 kk rfl #[.int .i64 a0_0, .int .i64 1099511627776] rfl (by (try simp only [List.map_toArray, List.map_cons, List.map_nil]); first | done | rfl | (simp only [List.length_drop, List.length_take]; rfl)) ?_; (with_reducible refine (R2_Far.calls a0_0 1099511627776 t203 _ A2.out).mono ?_); rintro e w' ⟨rfl, ⟨nd, rfl⟩⟩; refine ⟨_, rfl, ?_⟩))
 (try simp only [Act.put, List.setIfInBounds_toArray, List.set_cons_zero, List.set_cons_succ])
 go_cut [22] (fun v22 wc => ∃ (kq : Nat) (x22_2 : Bool), v22 = .bool x22_2 ∧ Aside0 (R2_CongrError.j0 kq x22_2 a0_0 a0_1 = some r) ∧ Aside0 (kq ≤ k) ∧ Aside0 (wc.heap[gb202]? = some (.cells #[.int .i64 a0_0, .int .i64 a0_1] 69 (0, 0))) ∧ Aside0 (Below w.heap.size w wc))
 case first =>
  have H := HC3.out
  clear HC3
  by_cases c6 : a0_1 < 0
  ·rw [if_pos c6] at H
   have c6b0 : decide (a0_1 < 0) = true := decide_eq_true c6
   clear c6
   (first | rw [c6b0] | (simp only [i64_w, i32_w]; rw [c6b0]) | skip)
   have H' := am H
   clear H
   have hcz7_0 : w4.cell? ⟨gb202, 0, none⟩ = some (.int .i64 a0_0) := bc BK202 0
   have hcz7_1 : w4.cell? ⟨gb202, 1, none⟩ = some (.int .i64 a0_1) := bc BK202 1
   have hfz7_0 := blk_frozen BK202.out 0
   have hfz7_1 := blk_frozen BK202.out 1
   go_wp2
   go_meet
   case rel => exact ⟨_, (true), pr, H', ⟨by first | omega | exact Nat.le_refl _⟩, ⟨by (with_reducible repeat (first | refine blk_drewN ?_ _ | refine blk_drew ?_ | refine blk_alloc ?_ _)); exact BK202.out⟩, ⟨pw⟩⟩
  rw [if_neg c6] at H
  have c6b0 : decide (a0_1 < 0) = false := decide_eq_false c6
  clear c6
  (first | rw [c6b0] | (simp only [i64_w, i32_w]; rw [c6b0]) | skip)
  by_cases c8 : a0_1 > 1048576
  ·rw [if_pos c8] at H
   have c8b0 : decide (1048576 < a0_1) = true := decide_eq_true c8
   clear c8
   have H' := am H
   clear H
   have hcz9_0 : w4.cell? ⟨gb202, 0, none⟩ = some (.int .i64 a0_0) := bc BK202 0
   have hcz9_1 : w4.cell? ⟨gb202, 1, none⟩ = some (.int .i64 a0_1) := bc BK202 1
   have hfz9_0 := blk_frozen BK202.out 0
   have hfz9_1 := blk_frozen BK202.out 1
   go_wp2
   go_meet
   case rel => exact ⟨_, (true), pr, H', ⟨by first | omega | exact Nat.le_refl _⟩, ⟨by (with_reducible repeat (first | refine blk_drewN ?_ _ | refine blk_drew ?_ | refine blk_alloc ?_ _)); exact BK202.out⟩, ⟨pw⟩⟩
  rw [if_neg c8] at H
  have c8b0 : decide (1048576 < a0_1) = false := decide_eq_false c8
  clear c8
  by_cases c10 : a0_1 = 0
  ·rw [if_pos c10] at H
   have c10b0 : (a0_1 == 0) = true := beq_iff_eq.mpr c10
   have c10b1 : (a0_1 != 0) = false := bne_eq_false_iff_eq.mpr c10
   clear c10
   have H' := am H
   clear H
   have hcz11_0 : w4.cell? ⟨gb202, 0, none⟩ = some (.int .i64 a0_0) := bc BK202 0
   have hcz11_1 : w4.cell? ⟨gb202, 1, none⟩ = some (.int .i64 a0_1) := bc BK202 1
   have hfz11_0 := blk_frozen BK202.out 0
   have hfz11_1 := blk_frozen BK202.out 1
   go_wp2
   go_meet
   case rel => exact ⟨_, (t203), pr, H', ⟨by first | omega | exact Nat.le_refl _⟩, ⟨by (with_reducible repeat (first | refine blk_drewN ?_ _ | refine blk_drew ?_ | refine blk_alloc ?_ _)); exact BK202.out⟩, ⟨pw⟩⟩
  rw [if_neg c10] at H
  have c10b0 : (a0_1 == 0) = false := beq_eq_false_iff_ne.mpr c10
  have c10b1 : (a0_1 != 0) = true := bne_iff_ne.mpr c10
  have H' := am H
  clear H
  have hcz12_0 : w4.cell? ⟨gb202, 0, none⟩ = some (.int .i64 a0_0) := bc BK202 0
  have hcz12_1 : w4.cell? ⟨gb202, 1, none⟩ = some (.int .i64 a0_1) := bc BK202 1
  have hfz12_0 := blk_frozen BK202.out 0
  have hfz12_1 := blk_frozen BK202.out 1
  go_wp2
  go_meet
  case rel => exact ⟨_, (false), pr, H', ⟨by first | omega | exact Nat.le_refl _⟩, ⟨by (with_reducible repeat (first | refine blk_drewN ?_ _ | refine blk_drew ?_ | refine blk_alloc ?_ _)); exact BK202.out⟩, ⟨pw⟩⟩
 clear HC3
 try clear c1
 try clear p2
 try clear c3
 try clear c6
 try clear c6b0
 try clear c8
 try clear c8b0
 try clear c9
 try clear c10
 try clear c10b0
 try clear c10b1
 try clear hcz11_0
 try clear hcz11_1
 try clear hcz12_0
 try clear hcz12_1
 try clear hcz5_0
 try clear hcz5_1
 try clear hcz7_0
 try clear hcz7_1
 try clear hcz9_0
 try clear hcz9_1
 try clear hfz11_0
 try clear hfz11_1
 try clear hfz12_0
 try clear hfz12_1
 try clear hfz5_0
 try clear hfz5_1
 try clear hfz7_0
 try clear hfz7_1
 try clear hfz9_0
 try clear hfz9_1
 obtain ⟨kq, x22_2, rfl, HA, HJ2, BK202, HB⟩ := hcut
 cases kq with
 | zero => exact absurd HA.out (by simp [R2_CongrError.j0])
 | succ kj2 =>
  have H := HA.out
  clear HA
  simp only [R2_CongrError.j0] at H
  by_cases c13 : x22_2 = true
  ·subst c13
   have H1 : (some 2) = some r := by rw [if_pos rfl] at H; exact H
   clear H
   have H := H1
   clear H1
   obtain rfl := Option.some.inj H
   go_wp2
   go_ret
   exact ⟨pe, pw⟩
  replace c13 := Bool.eq_false_iff.mpr c13
  subst c13
  have H1 : (if a0_1 > 0 then (if a0_0 < 0 then (some 3) else (if a0_0 ≥ a0_1 then (some 3) else (some 0))) else (some 0)) = some r := by rw [if_neg (show ¬ (false = true) by decide)] at H; exact H
  clear H
  have H := H1
  clear H1
  by_cases c14 : a0_1 > 0
  ·rw [if_pos c14] at H
   have c14b0 : decide (0 < a0_1) = true := decide_eq_true c14
   clear c14
   by_cases c15 : a0_0 < 0
   ·rw [if_pos c15] at H
    have c15b0 : decide (a0_0 < 0) = true := decide_eq_true c15
    clear c15
    obtain rfl := Option.some.inj H
    have hcz16_0 : wc.cell? ⟨gb202, 0, none⟩ = some (.int .i64 a0_0) := bc BK202 0
    have hcz16_1 : wc.cell? ⟨gb202, 1, none⟩ = some (.int .i64 a0_1) := bc BK202 1
    have hfz16_0 := blk_frozen BK202.out 0
    have hfz16_1 := blk_frozen BK202.out 1
    go_wp2
    go_ret
    exact ⟨pe, pw⟩
   rw [if_neg c15] at H
   have c15b0 : decide (a0_0 < 0) = false := decide_eq_false c15
   clear c15
   by_cases c17 : a0_0 ≥ a0_1
   ·rw [if_pos c17] at H
    have c17b0 : decide (a0_1 ≤ a0_0) = true := decide_eq_true c17
    clear c17
    obtain rfl := Option.some.inj H
    have hcz18_0 : wc.cell? ⟨gb202, 0, none⟩ = some (.int .i64 a0_0) := bc BK202 0
    have hcz18_1 : wc.cell? ⟨gb202, 1, none⟩ = some (.int .i64 a0_1) := bc BK202 1
    have hfz18_0 := blk_frozen BK202.out 0
    have hfz18_1 := blk_frozen BK202.out 1
    go_wp2
    go_ret
    exact ⟨pe, pw⟩
   rw [if_neg c17] at H
   have c17b0 : decide (a0_1 ≤ a0_0) = false := decide_eq_false c17
   clear c17
   obtain rfl := Option.some.inj H
   have hcz19_0 : wc.cell? ⟨gb202, 0, none⟩ = some (.int .i64 a0_0) := bc BK202 0
   have hcz19_1 : wc.cell? ⟨gb202, 1, none⟩ = some (.int .i64 a0_1) := bc BK202 1
   have hfz19_0 := blk_frozen BK202.out 0
   have hfz19_1 := blk_frozen BK202.out 1
   go_wp2
   go_ret
   exact ⟨pe, pw⟩
  rw [if_neg c14] at H
  have c14b0 : decide (0 < a0_1) = false := decide_eq_false c14
  clear c14
  obtain rfl := Option.some.inj H
  have hcz20_0 : wc.cell? ⟨gb202, 0, none⟩ = some (.int .i64 a0_0) := bc BK202 0
  have hcz20_1 : wc.cell? ⟨gb202, 1, none⟩ = some (.int .i64 a0_1) := bc BK202 1
  have hfz20_0 := blk_frozen BK202.out 0
  have hfz20_1 := blk_frozen BK202.out 1
  go_wp2
  go_ret
  exact ⟨pe, pw⟩

/-! ### R2_TwoCongrs: function 39 -/
def R2_TwoCongrs.f (k : Nat) (a0_0 : Int) (a0_1 : Int) (a1_0 : Int) (a1_1 : Int) : Option (Int) := (R2_CongrError.f k a0_0 a0_1).bind fun t206 => (if t206 = 0 then ((R2_CongrError.f k a1_0 a1_1).bind fun t207 => (some t207)) else (some t206))
theorem R2_TwoCongrs.mono : ∀ a0 a1 a2 a3 k, LeO (R2_TwoCongrs.f k a0 a1 a2 a3) (R2_TwoCongrs.f (k + 1) a0 a1 a2 a3) := by
 intro a0 a1 a2 a3 k
 unfold R2_TwoCongrs.f
 repeat' first
   | (with_reducible exact R2_CongrError.mono _ _ _)
   | (with_reducible exact LeO.refl _)
   | (with_reducible exact LeO.none _)
   | (with_reducible refine LeO.ite ?_ ?_)
   | (with_reducible refine LeO.bind ?_ (fun _ => ?_))
   | exact R2_CongrError.mono _ _ _
   | exact LeO.none _
   | refine LeO.ite ?_ ?_
   | refine LeO.bind ?_ (fun _ => ?_)
set_option maxHeartbeats 8000000 in
set_option maxRecDepth 100000 in
theorem R2_TwoCongrs.calls [EA] (k : Nat) (a0_0 : Int) (a0_1 : Int) (a1_0 : Int) (a1_1 : Int) (r : Int) (w : World) (h : R2_TwoCongrs.f k a0_0 a0_1 a1_0 a1_1 = some r) :
  Calls Tryd.prog 39 #[.agg #[.int .i64 a0_0, .int .i64 a0_1], .agg #[.int .i64 a1_0, .int .i64 a1_1]] w fun e w' => e = .returned (.int .i64 r) ∧ Below w.heap.size w w' := by
 have hu69 := Tryd.underlying69
 have HB := am (Below.refl w.heap.size w)
 have H : ((R2_CongrError.f k a0_0 a0_1).bind fun t206 => (if t206 = 0 then ((R2_CongrError.f k a1_0 a1_1).bind fun t207 => (some t207)) else (some t206))) = some r := h
 clear h
 replace H := Option.bind_eq_some_iff.mp H
 obtain ⟨t206, A30, H⟩ := H
 replace H : (if t206 = 0 then ((R2_CongrError.f k a1_0 a1_1).bind fun t207 => (some t207)) else (some t206)) = some r := H
 have A3 := am A30
 clear A30
 by_cases c4 : t206 = 0
 ·rw [if_pos c4] at H
  have c4b0 : (t206 == 0) = true := beq_iff_eq.mpr c4
  have c4b1 : (t206 != 0) = false := bne_eq_false_iff_eq.mpr c4
  clear c4
  replace H := Option.bind_eq_some_iff.mp H
  obtain ⟨t207, A50, H⟩ := H
  replace H : (some t207) = some r := H
  have A5 := am A50
  clear A50
  obtain rfl := Option.some.inj H
  go_enter Tryd.func39, Tryd.ntmps39
  go_wp2_with (first | ((with_reducible refine gate_dst (N := 2) rfl ?_); refine box_event ?hg (N := 2) ?hd (cs := #[.int .i64 a0_0, .int .i64 a0_1]) (t := 69) ?hr ?_; (case hd => rfl); (case hg => rfl); (case hr => first | (go_simp; done) | (go_simp; rfl)); intro gb204 hg w6 hbox hb; have n0_ := am (below_step pw hb); have n1_ := am (hbox); have n2_ := am ((by rw [hg]; exact (below_size pw) : w.heap.size ≤ gb204)); have n3_ := am ((by rw [hg]; exact (below_size pw) : w.heap.size ≤ gb204)); clear HB; have HB := n0_; have BK204 := n1_; have GW204 := n2_; have GE204 := n3_; clear n0_ n1_ n2_ n3_; clear hb hbox hg) | ((with_reducible refine gate_dst (N := 3) rfl ?_); refine box_event ?hg (N := 3) ?hd (cs := #[.int .i64 a1_0, .int .i64 a1_1]) (t := 69) ?hr ?_; (case hd => rfl); (case hg => rfl); (case hr => first | (go_simp; done) | (go_simp; rfl)); intro gb205 hg w7 hbox hb; have n0_ := bb BK204 hb; have n1_ := am (below_step pw hb); have n2_ := am (hbox); have n3_ := am ((by rw [hg]; exact (below_size pw) : w.heap.size ≤ gb205)); have n4_ := am ((by rw [hg]; exact (below_size pw) : w.heap.size ≤ gb205)); have n5_ := am ((by rw [hg]; exact Nat.ne_of_lt (blk_lt pk) : gb204 ≠ gb205)); have n6_ := am ((by rw [hg]; exact Nat.ne_of_gt (blk_lt pk) : gb205 ≠ gb204)); clear BK204; clear HB; have BK204 := n0_; have HB := n1_; have BK205 := n2_; have GW205 := n3_; have GE205 := n4_; have NB204_205 := n5_; have NB205_204 := n6_; clear n0_ n1_ n2_ n3_ n4_ n5_ n6_; clear hb hbox hg; have hnb8 := NB204_205.out; have hnc8 := NB205_204.out; have hcz9_0 : w7.cell? ⟨gb204, 0, none⟩ = some (.int .i64 a0_0) := bc BK204 0; have hcz9_1 : w7.cell? ⟨gb204, 1, none⟩ = some (.int .i64 a0_1) := bc BK204 1; have hfz9_0 := blk_frozen BK204.out 0; have hfz9_1 := blk_frozen BK204.out 1) | ((with_reducible refine gate_callee (f := 91) rfl ?_); refine goesL_ (some 7) rfl rfl Tryd.func91 kk rfl #[.agg #[.int .i64 a0_0, .int .i64 a0_1]] rfl (by (try simp only [List.map_toArray, List.map_cons, List.map_nil]); first | done | rfl | (simp only [List.length_drop, List.length_take]; rfl)) ?_; (with_reducible refine (R2_CongrError.calls k a0_0 a0_1 t206 _ A3.out).mono ?_); rintro e w10 ⟨rfl, hb⟩; refine ⟨_, rfl, ?_⟩; have n0_ := bb BK204 hb; have n1_ := bb BK205 hb; have n2_ := am (below_step pw hb); clear BK204; clear BK205; clear HB; have BK204 := n0_; have BK205 := n1_; have HB := n2_; clear n0_ n1_ n2_; (try clear hb); (try clear hb2); (try clear hk); (try clear hi); have hcz11_0 : w10.cell? ⟨gb205, 0, none⟩ = some (.int .i64 a1_0) := bc BK205 0; have hcz11_1 : w10.cell? ⟨gb205, 1, none⟩ = some (.int .i64 a1_1) := bc BK205 1; have hfz11_0 := blk_frozen BK205.out 0; have hfz11_1 := blk_frozen BK205.out 1) | ((with_reducible refine gate_callee (f := 91) rfl ?_); refine goesL_ (some 11) rfl rfl Tryd.func91 kk rfl #[.agg #[.int .i64 a1_0, .int .i64 a1_1]] rfl (by (try simp only [List.map_toArray, List.map_cons, List.map_nil]); first | done | rfl | (simp only [List.length_drop, List.length_take]; rfl)) ?_; (with_reducible refine (R2_CongrError.calls k a1_0 a1_1 t207 _ A5.out).mono ?_); rintro e w12 ⟨rfl, hb⟩; refine ⟨_, rfl, ?_⟩; have n0_ := bb BK204 hb; have n1_ := bb BK205 hb; have n2_ := am (below_step pw hb); clear BK204; clear BK205; clear HB; have BK204 := n0_; have BK205 := n1_; have HB := n2_; clear n0_ n1_ n2_; (try clear hb); (try clear hb2); (try clear hk); (try clear hi)))
  go_ret
  exact ⟨pe, pw⟩
 rw [if_neg c4] at H
 have c4b0 : (t206 == 0) = false := beq_eq_false_iff_ne.mpr c4
 have c4b1 : (t206 != 0) = true := bne_iff_ne.mpr c4
 obtain rfl := Option.some.inj H
 go_enter Tryd.func39, Tryd.ntmps39
 go_wp2_with (first | ((with_reducible refine gate_dst (N := 2) rfl ?_); refine box_event ?hg (N := 2) ?hd (cs := #[.int .i64 a0_0, .int .i64 a0_1]) (t := 69) ?hr ?_; (case hd => rfl); (case hg => rfl); (case hr => first | (go_simp; done) | (go_simp; rfl)); intro gb204 hg w13 hbox hb; have n0_ := am (below_step pw hb); have n1_ := am (hbox); have n2_ := am ((by rw [hg]; exact (below_size pw) : w.heap.size ≤ gb204)); have n3_ := am ((by rw [hg]; exact (below_size pw) : w.heap.size ≤ gb204)); clear HB; have HB := n0_; have BK204 := n1_; have GW204 := n2_; have GE204 := n3_; clear n0_ n1_ n2_ n3_; clear hb hbox hg) | ((with_reducible refine gate_dst (N := 3) rfl ?_); refine box_event ?hg (N := 3) ?hd (cs := #[.int .i64 a1_0, .int .i64 a1_1]) (t := 69) ?hr ?_; (case hd => rfl); (case hg => rfl); (case hr => first | (go_simp; done) | (go_simp; rfl)); intro gb205 hg w14 hbox hb; have n0_ := bb BK204 hb; have n1_ := am (below_step pw hb); have n2_ := am (hbox); have n3_ := am ((by rw [hg]; exact (below_size pw) : w.heap.size ≤ gb205)); have n4_ := am ((by rw [hg]; exact (below_size pw) : w.heap.size ≤ gb205)); have n5_ := am ((by rw [hg]; exact Nat.ne_of_lt (blk_lt pk) : gb204 ≠ gb205)); have n6_ := am ((by rw [hg]; exact Nat.ne_of_gt (blk_lt pk) : gb205 ≠ gb204)); clear BK204; clear HB; have BK204 := n0_; have HB := n1_; have BK205 := n2_; have GW205 := n3_; have GE205 := n4_; have NB204_205 := n5_; have NB205_204 := n6_; clear n0_ n1_ n2_ n3_ n4_ n5_ n6_; clear hb hbox hg; have hnb15 := NB204_205.out; have hnc15 := NB205_204.out; have hcz16_0 : w14.cell? ⟨gb204, 0, none⟩ = some (.int .i64 a0_0) := bc BK204 0; have hcz16_1 : w14.cell? ⟨gb204, 1, none⟩ = some (.int .i64 a0_1) := bc BK204 1; have hfz16_0 := blk_frozen BK204.out 0; have hfz16_1 := blk_frozen BK204.out 1) | ((with_reducible refine gate_callee (f := 91) rfl ?_); refine goesL_ (some 7) rfl rfl Tryd.func91 kk rfl #[.agg #[.int .i64 a0_0, .int .i64 a0_1]] rfl (by (try simp only [List.map_toArray, List.map_cons, List.map_nil]); first | done | rfl | (simp only [List.length_drop, List.length_take]; rfl)) ?_; (with_reducible refine (R2_CongrError.calls k a0_0 a0_1 t206 _ A3.out).mono ?_); rintro e w17 ⟨rfl, hb⟩; refine ⟨_, rfl, ?_⟩; have n0_ := bb BK204 hb; have n1_ := bb BK205 hb; have n2_ := am (below_step pw hb); clear BK204; clear BK205; clear HB; have BK204 := n0_; have BK205 := n1_; have HB := n2_; clear n0_ n1_ n2_; (try clear hb); (try clear hb2); (try clear hk); (try clear hi)))
 go_ret
 exact ⟨pe, pw⟩

/-! ### L2_own: function 41 -/
def L2_own.f (a0_0 : Int) (a0_1 : Int) : Option (Int × Int) := some (a0_0, a0_1)
set_option maxHeartbeats 8000000 in
set_option maxRecDepth 100000 in
theorem L2_own.calls [EA] (a0_0 : Int) (a0_1 : Int) (r1 : Int) (r2 : Int) (w : World) (h : L2_own.f a0_0 a0_1 = some (r1, r2)) :
  Calls Tryd.prog 41 #[.agg #[.int .i64 a0_0, .int .i64 a0_1]] w fun e w' => e = .returned (.agg #[.int .i64 r1, .int .i64 r2]) ∧ Below w.heap.size w w' := by
 have hu69 := Tryd.underlying69
 have hu24 := Tryd.underlying24
 have HB := am (Below.refl w.heap.size w)
 have H : (some (a0_0, a0_1)) = some (r1, r2) := h
 clear h
 simp only [Option.some.injEq, Prod.mk.injEq] at H
 obtain ⟨rfl, rfl⟩ := H
 go_enter Tryd.func41, Tryd.ntmps41
 go_wp2_with (first | ((with_reducible refine gate_dst (N := 1) rfl ?_); refine box_event ?hg (N := 1) ?hd (cs := #[.int .i64 a0_0, .int .i64 a0_1]) (t := 69) ?hr ?_; (case hd => rfl); (case hg => rfl); (case hr => first | (go_simp; done) | (go_simp; rfl)); intro gb208 hg w2 hbox hb; have n0_ := am (below_step pw hb); have n1_ := am (hbox); have n2_ := am ((by rw [hg]; exact (below_size pw) : w.heap.size ≤ gb208)); have n3_ := am ((by rw [hg]; exact (below_size pw) : w.heap.size ≤ gb208)); clear HB; have HB := n0_; have BK208 := n1_; have GW208 := n2_; have GE208 := n3_; clear n0_ n1_ n2_ n3_; clear hb hbox hg) | ((with_reducible refine gate_dst (N := 2) rfl ?_); refine box_event ?hg (N := 2) ?hd (cs := #[.int .i64 0, .int .i64 0]) (t := 24) ?hr ?_; (case hd => rfl); (case hg => rfl); (case hr => first | (go_simp; done) | (go_simp; rfl)); intro gb209 hg w3 hbox hb; have n0_ := bb BK208 hb; have n1_ := am (below_step pw hb); have n2_ := am (hbox); have n3_ := am ((by rw [hg]; exact (below_size pw) : w.heap.size ≤ gb209)); have n4_ := am ((by rw [hg]; exact (below_size pw) : w.heap.size ≤ gb209)); have n5_ := am ((by rw [hg]; exact Nat.ne_of_lt (blk_lt pk) : gb208 ≠ gb209)); have n6_ := am ((by rw [hg]; exact Nat.ne_of_gt (blk_lt pk) : gb209 ≠ gb208)); clear BK208; clear HB; have BK208 := n0_; have HB := n1_; have BK209 := n2_; have GW209 := n3_; have GE209 := n4_; have NB208_209 := n5_; have NB209_208 := n6_; clear n0_ n1_ n2_ n3_ n4_ n5_ n6_; clear hb hbox hg; have hnb4 := NB208_209.out; have hnc4 := NB209_208.out; have hcz5_0 : w3.cell? ⟨gb208, 0, none⟩ = some (.int .i64 a0_0) := bc BK208 0; have hcz5_1 : w3.cell? ⟨gb208, 1, none⟩ = some (.int .i64 a0_1) := bc BK208 1; have hfz5_0 := blk_frozen BK208.out 0; have hfz5_1 := blk_frozen BK208.out 1; have hcz6_0 : w3.cell? ⟨gb209, 0, none⟩ = some (.int .i64 0) := bc BK209 0; have hcz6_1 : w3.cell? ⟨gb209, 1, none⟩ = some (.int .i64 0) := bc BK209 1; have hfz6_0 := blk_frozen BK209.out 0; have hfz6_1 := blk_frozen BK209.out 1))
 refine bodyPost_ret (results_cell_row rfl _ _ gb209 24 #[.int .i64 a0_0, .int .i64 a0_1] (0, 0) _ rfl (by (with_reducible repeat (first | refine blk_drewN ?_ _ | refine blk_drew ?_ | refine blk_alloc ?_ _)); refine blk_put (cs := #[.int .i64 a0_0, .int .i64 0]) ?_ 1 _ rfl; (with_reducible repeat (first | refine blk_drewN ?_ _ | refine blk_drew ?_ | refine blk_alloc ?_ _)); refine blk_put (cs := #[.int .i64 0, .int .i64 0]) ?_ 0 _ rfl; (with_reducible repeat (first | refine blk_drewN ?_ _ | refine blk_drew ?_ | refine blk_alloc ?_ _)); exact BK209.out) Tryd.underlying24 rfl kk) rfl ?_
 exact ⟨pe, pw⟩

end Go.Proofs.YtjpboodkmhikpaaDoor.C
