-- Written by wip/xprint.py (the session's program over the kit's print).
import Derived.Test.YtimgfgambeffeaaDoorEb
import Derived.Test.YtimgfgambeffeaaDoorCd
import Derived.Test.YtimgfgambeffeaaDoorC0
import Derived.Test.YtimgfgambeffeaaDoorC3
import Derived.Test.YtimgfgambeffeaaDoorC5
namespace Go.Proofs.YtimgfgambeffeaaDoor.C
open Go.RowKit Go.Proofs.YtimgfgambeffeaaDoorW.PrintWords Go.Proofs.YtimgfgambeffeaaDoorW.PrintLast Go.Proofs.YtimgfgambeffeaaDoorW.PrintMore Go.Proofs.Rcg
attribute [local go_sem] max2_int min2_int max_two min_two max_three min_three max_four min_four   -- for this text's walks alone
set_option linter.unusedVariables false
set_option linter.unusedSimpArgs false

attribute [local go_sem high] eqA34
/-! ### L2_sixth: function 18 -/
def L2_sixth.f (k : Nat)  : Option (Bool) := (congr_Meet.f k 2 4 4 6).bind fun bt139 => (if bt139.2.2.2.isNone = true then (if bt139.2.2.1 = true then (some (bt139.1 == 10 && (bt139.2.1 == 12))) else (some false)) else (some false))
theorem L2_sixth.mono : ∀ k, LeO (L2_sixth.f k ) (L2_sixth.f (k + 1) ) := by
 intro  k
 unfold L2_sixth.f
 repeat' first
   | (with_reducible exact congr_Meet.mono _ _ _ _ _)
   | (with_reducible exact LeO.refl _)
   | (with_reducible exact LeO.none _)
   | (with_reducible refine LeO.ite ?_ ?_)
   | (with_reducible refine LeO.bind ?_ (fun _ => ?_))
   | exact congr_Meet.mono _ _ _ _ _
   | exact LeO.none _
   | refine LeO.ite ?_ ?_
   | refine LeO.bind ?_ (fun _ => ?_)
set_option maxHeartbeats 8000000 in
set_option maxRecDepth 100000 in
theorem L2_sixth.calls [EA] (k : Nat)  (r : Bool) (w : World) (h : L2_sixth.f k  = some r) (h2_ : ErrAt 2 1 w) (h3_ : ErrAt 3 0 w) :
  Calls Tryd.prog 18 #[] w fun e w' => e = .returned (.bool r) ∧ Below w.heap.size w w' := by
 have hE2 := am h2_
 clear h2_
 have hE3 := am h3_
 clear h3_
 have hu34 := Tryd.underlying34
 have hu28 := Tryd.underlying28
 have HB := am (Below.refl w.heap.size w)
 have H : ((congr_Meet.f k 2 4 4 6).bind fun bt139 => (if bt139.2.2.2.isNone = true then (if bt139.2.2.1 = true then (some (bt139.1 == 10 && (bt139.2.1 == 12))) else (some false)) else (some false))) = some r := h
 clear h
 replace H := Option.bind_eq_some_iff.mp H
 obtain ⟨⟨t139, t140, t141, t142⟩, A10, H⟩ := H
 replace H : (if t142.isNone = true then (if t141 = true then (some (t139 == 10 && (t140 == 12))) else (some false)) else (some false)) = some r := H
 have A1 := am A10
 clear A10
 rcases t142 with _ | q144
 ·have H1 : (if t141 = true then (some (t139 == 10 && (t140 == 12))) else (some false)) = some r := by rw [if_pos (show (none : Option Int).isNone = true by rfl)] at H; exact H
  clear H
  have H := H1
  clear H1
  try simp only [errW_none, errW_some]
  by_cases c2 : t141 = true
  ·subst c2
   have H1 : (some (t139 == 10 && (t140 == 12))) = some r := by rw [if_pos rfl] at H; exact H
   clear H
   have H := H1
   clear H1
   obtain rfl := Option.some.inj H
   go_enter Tryd.func18, Tryd.ntmps18
   go_wp2_with (first | ((with_reducible refine gate_callee (f := 20) rfl ?_); refine goesL_ (some 7) rfl rfl Tryd.func20 kk rfl #[.agg #[.int .i64 2, .int .i64 4], .agg #[.int .i64 4, .int .i64 6]] rfl (by (try simp only [List.map_toArray, List.map_cons, List.map_nil]); first | done | rfl | (simp only [List.length_drop, List.length_take]; rfl)) ?_; (with_reducible refine (congr_Meet.calls k 2 4 4 6 t139 t140 true none _ A1.out (am (ErrAt.below hE2.out pw)).out (am (ErrAt.below hE3.out pw)).out).mono ?_); rintro e w3 ⟨rfl, hb⟩; refine ⟨_, rfl, ?_⟩; have n0_ := am (below_step pw hb); clear HB; have HB := n0_; clear n0_; (try clear hb); (try clear hb2); (try clear hk); (try clear hi); (try simp only [errW_none, errW_some])) | ((with_reducible refine gate_dst (N := 1) rfl ?_); refine box_event ?hg (N := 1) ?hd (cs := #[.int .i64 0, .int .i64 0]) (t := 34) ?hr ?_; (case hd => rfl); (case hg => rfl); (case hr => first | (go_simp; done) | (go_simp; rfl)); intro gb143 hg w4 hbox hb; have n0_ := am (below_step pw hb); have n1_ := am (hbox); have n2_ := am ((by rw [hg]; exact (below_size pw) : w.heap.size ≤ gb143)); have n3_ := am ((by rw [hg]; exact (below_size pw) : w.heap.size ≤ gb143)); clear HB; have HB := n0_; have BK143 := n1_; have GW143 := n2_; have GE143 := n3_; clear n0_ n1_ n2_ n3_; clear hb hbox hg; have hcz5_0 : w4.cell? ⟨gb143, 0, none⟩ = some (.int .i64 0) := bc BK143 0; have hcz5_1 : w4.cell? ⟨gb143, 1, none⟩ = some (.int .i64 0) := bc BK143 1; have hfz5_0 := blk_frozen BK143.out 0; have hfz5_1 := blk_frozen BK143.out 1))
   go_ret
   exact ⟨pe, pw⟩
  replace c2 := Bool.eq_false_iff.mpr c2
  subst c2
  have H1 : (some false) = some r := by rw [if_neg (show ¬ (false = true) by decide)] at H; exact H
  clear H
  have H := H1
  clear H1
  obtain rfl := Option.some.inj H
  go_enter Tryd.func18, Tryd.ntmps18
  go_wp2_with (first | ((with_reducible refine gate_callee (f := 20) rfl ?_); refine goesL_ (some 7) rfl rfl Tryd.func20 kk rfl #[.agg #[.int .i64 2, .int .i64 4], .agg #[.int .i64 4, .int .i64 6]] rfl (by (try simp only [List.map_toArray, List.map_cons, List.map_nil]); first | done | rfl | (simp only [List.length_drop, List.length_take]; rfl)) ?_; (with_reducible refine (congr_Meet.calls k 2 4 4 6 t139 t140 false none _ A1.out (am (ErrAt.below hE2.out pw)).out (am (ErrAt.below hE3.out pw)).out).mono ?_); rintro e w6 ⟨rfl, hb⟩; refine ⟨_, rfl, ?_⟩; have n0_ := am (below_step pw hb); clear HB; have HB := n0_; clear n0_; (try clear hb); (try clear hb2); (try clear hk); (try clear hi); (try simp only [errW_none, errW_some])) | ((with_reducible refine gate_dst (N := 1) rfl ?_); refine box_event ?hg (N := 1) ?hd (cs := #[.int .i64 0, .int .i64 0]) (t := 34) ?hr ?_; (case hd => rfl); (case hg => rfl); (case hr => first | (go_simp; done) | (go_simp; rfl)); intro gb143 hg w7 hbox hb; have n0_ := am (below_step pw hb); have n1_ := am (hbox); have n2_ := am ((by rw [hg]; exact (below_size pw) : w.heap.size ≤ gb143)); have n3_ := am ((by rw [hg]; exact (below_size pw) : w.heap.size ≤ gb143)); clear HB; have HB := n0_; have BK143 := n1_; have GW143 := n2_; have GE143 := n3_; clear n0_ n1_ n2_ n3_; clear hb hbox hg; have hcz8_0 : w7.cell? ⟨gb143, 0, none⟩ = some (.int .i64 0) := bc BK143 0; have hcz8_1 : w7.cell? ⟨gb143, 1, none⟩ = some (.int .i64 0) := bc BK143 1; have hfz8_0 := blk_frozen BK143.out 0; have hfz8_1 := blk_frozen BK143.out 1))
  go_ret
  exact ⟨pe, pw⟩
 have H1 : (some false) = some r := by rw [if_neg (show ¬ (some q144).isNone = true by simp)] at H; exact H
 clear H
 have H := H1
 clear H1
 try simp only [errW_none, errW_some]
 obtain rfl := Option.some.inj H
 go_enter Tryd.func18, Tryd.ntmps18
 go_wp2_with (first | ((with_reducible refine gate_callee (f := 20) rfl ?_); refine goesL_ (some 7) rfl rfl Tryd.func20 kk rfl #[.agg #[.int .i64 2, .int .i64 4], .agg #[.int .i64 4, .int .i64 6]] rfl (by (try simp only [List.map_toArray, List.map_cons, List.map_nil]); first | done | rfl | (simp only [List.length_drop, List.length_take]; rfl)) ?_; (with_reducible refine (congr_Meet.calls k 2 4 4 6 t139 t140 t141 (some q144) _ A1.out (am (ErrAt.below hE2.out pw)).out (am (ErrAt.below hE3.out pw)).out).mono ?_); rintro e w9 ⟨rfl, hb⟩; refine ⟨_, rfl, ?_⟩; have n0_ := am (below_step pw hb); clear HB; have HB := n0_; clear n0_; (try clear hb); (try clear hb2); (try clear hk); (try clear hi); (try simp only [errW_none, errW_some])) | ((with_reducible refine gate_dst (N := 1) rfl ?_); refine box_event ?hg (N := 1) ?hd (cs := #[.int .i64 0, .int .i64 0]) (t := 34) ?hr ?_; (case hd => rfl); (case hg => rfl); (case hr => first | (go_simp; done) | (go_simp; rfl)); intro gb143 hg w10 hbox hb; have n0_ := am (below_step pw hb); have n1_ := am (hbox); have n2_ := am ((by rw [hg]; exact (below_size pw) : w.heap.size ≤ gb143)); have n3_ := am ((by rw [hg]; exact (below_size pw) : w.heap.size ≤ gb143)); clear HB; have HB := n0_; have BK143 := n1_; have GW143 := n2_; have GE143 := n3_; clear n0_ n1_ n2_ n3_; clear hb hbox hg; have hcz11_0 : w10.cell? ⟨gb143, 0, none⟩ = some (.int .i64 0) := bc BK143 0; have hcz11_1 : w10.cell? ⟨gb143, 1, none⟩ = some (.int .i64 0) := bc BK143 1; have hfz11_0 := blk_frozen BK143.out 0; have hfz11_1 := blk_frozen BK143.out 1))
 go_ret
 exact ⟨pe, pw⟩

/-! ### R2_Far: function 27 -/
def R2_Far.f (a0 : Int) (a1 : Int) : Option (Bool) := if a0 > a1 then (some true) else (some (decide (a0 < (wrap64 (-a1)))))
set_option maxHeartbeats 8000000 in
set_option maxRecDepth 100000 in
theorem R2_Far.calls [EA] (a0 : Int) (a1 : Int) (r : Bool) (w : World) (h : R2_Far.f a0 a1 = some r) :
  Calls Tryd.prog 27 #[.int .i64 a0, .int .i64 a1] w fun e w' => e = .returned (.bool r) ∧ Drawn0 w w' := by
 have H : (if a0 > a1 then (some true) else (some (decide (a0 < (wrap64 (-a1)))))) = some r := h
 clear h
 by_cases c3 : a0 > a1
 ·rw [if_pos c3] at H
  have c3b0 : decide (a1 < a0) = true := decide_eq_true c3
  clear c3
  obtain rfl := Option.some.inj H
  go_enter Tryd.func27, Tryd.ntmps27
  go_wp2
  go_ret
  exact ⟨by first | rfl | (simp; done) | (simp [*]; done), by repeat (first | exact Drawn0.refl _ | apply Drawn0.step)⟩
 rw [if_neg c3] at H
 have c3b0 : decide (a1 < a0) = false := decide_eq_false c3
 clear c3
 obtain rfl := Option.some.inj H
 go_enter Tryd.func27, Tryd.ntmps27
 go_wp2
 go_ret
 exact ⟨by first | rfl | (simp; done) | (simp [*]; done), by repeat (first | exact Drawn0.refl _ | apply Drawn0.step)⟩

/-! ### R2_CongrError: function 28 -/
def R2_CongrError.j0 : Nat → Bool → Int → Int → Option (Int)
 | 0, _, _, _ => none
 | k + 1, x22, x146000, x146001 => if x22 = true then (some 2) else (if x146001 > 0 then (if x146000 < 0 then (some 3) else (if x146000 ≥ x146001 then (some 3) else (some 0))) else (some 0))
def R2_CongrError.f (k : Nat) (a0_0 : Int) (a0_1 : Int) : Option (Int) := (R2_Far.f a0_0 1099511627776).bind fun t146 => (if a0_1 < 0 then (R2_CongrError.j0 k true a0_0 a0_1) else (if a0_1 > 1048576 then (R2_CongrError.j0 k true a0_0 a0_1) else (if a0_1 = 0 then (R2_CongrError.j0 k t146 a0_0 a0_1) else (R2_CongrError.j0 k false a0_0 a0_1))))
theorem R2_CongrError.mono_l : ∀ k, (∀ y0 y1 y2, LeO (R2_CongrError.j0 k y0 y1 y2) (R2_CongrError.j0 (k + 1) y0 y1 y2))
 | 0 => fun _ _ _ r h => by simp [R2_CongrError.j0] at h
 | k + 1 => by
  have ih0 := R2_CongrError.mono_l k
  intro y0 y1 y2
  unfold R2_CongrError.j0
  repeat' first
  | (with_reducible exact ih0 _ _ _)
  | (with_reducible exact LeO.refl _)
  | (with_reducible exact LeO.none _)
  | (with_reducible refine LeO.ite ?_ ?_)
  | (with_reducible refine LeO.bind ?_ (fun _ => ?_))
  | exact ih0 _ _ _
  | exact LeO.none _
  | refine LeO.ite ?_ ?_
  | refine LeO.bind ?_ (fun _ => ?_)
theorem R2_CongrError.mono : ∀ a0 a1 k, LeO (R2_CongrError.f k a0 a1) (R2_CongrError.f (k + 1) a0 a1) := by
 intro a0 a1 k
 have ih0 := R2_CongrError.mono_l k
 unfold R2_CongrError.f
 repeat' first
   | (with_reducible exact ih0 _ _ _)
   | (with_reducible exact LeO.refl _)
   | (with_reducible exact LeO.none _)
   | (with_reducible refine LeO.ite ?_ ?_)
   | (with_reducible refine LeO.bind ?_ (fun _ => ?_))
   | exact ih0 _ _ _
   | exact LeO.none _
   | refine LeO.ite ?_ ?_
   | refine LeO.bind ?_ (fun _ => ?_)
set_option maxHeartbeats 8000000 in
set_option maxRecDepth 100000 in
theorem R2_CongrError.calls [EA] (k : Nat) (a0_0 : Int) (a0_1 : Int) (r : Int) (w : World) (h : R2_CongrError.f k a0_0 a0_1 = some r) :
  Calls Tryd.prog 28 #[.agg #[.int .i64 a0_0, .int .i64 a0_1]] w fun e w' => e = .returned (.int .i64 r) ∧ Below w.heap.size w w' := by
 have hu32 := Tryd.underlying32
 have HB := am (Below.refl w.heap.size w)
 have H : ((R2_Far.f a0_0 1099511627776).bind fun t146 => (if a0_1 < 0 then (R2_CongrError.j0 k true a0_0 a0_1) else (if a0_1 > 1048576 then (R2_CongrError.j0 k true a0_0 a0_1) else (if a0_1 = 0 then (R2_CongrError.j0 k t146 a0_0 a0_1) else (R2_CongrError.j0 k false a0_0 a0_1))))) = some r := h
 clear h
 replace H := Option.bind_eq_some_iff.mp H
 obtain ⟨t146, A20, H⟩ := H
 replace H : (if a0_1 < 0 then (R2_CongrError.j0 k true a0_0 a0_1) else (if a0_1 > 1048576 then (R2_CongrError.j0 k true a0_0 a0_1) else (if a0_1 = 0 then (R2_CongrError.j0 k t146 a0_0 a0_1) else (R2_CongrError.j0 k false a0_0 a0_1)))) = some r := H
 have A2 := am A20
 clear A20
 have HC3 := am H
 clear H
 go_enter Tryd.func28, Tryd.ntmps28
 go_upto_region 2 with (first | ((with_reducible refine gate_dst (N := 1) rfl ?_); refine box_event ?hg (N := 1) ?hd (cs := #[.int .i64 a0_0, .int .i64 a0_1]) (t := 32) ?hr ?_; (case hd => rfl); (case hg => rfl); (case hr => first | (go_simp; done) | (go_simp; rfl)); intro gb145 hg w4 hbox hb; have n0_ := am (below_step pw hb); have n1_ := am (hbox); have n2_ := am ((by rw [hg]; exact (below_size pw) : w.heap.size ≤ gb145)); have n3_ := am ((by rw [hg]; exact (below_size pw) : w.heap.size ≤ gb145)); clear HB; have HB := n0_; have BK145 := n1_; have GW145 := n2_; have GE145 := n3_; clear n0_ n1_ n2_ n3_; clear hb hbox hg; have hcz5_0 : w4.cell? ⟨gb145, 0, none⟩ = some (.int .i64 a0_0) := bc BK145 0; have hcz5_1 : w4.cell? ⟨gb145, 1, none⟩ = some (.int .i64 a0_1) := bc BK145 1; have hfz5_0 := blk_frozen BK145.out 0; have hfz5_1 := blk_frozen BK145.out 1) | ((with_reducible refine gate_callee (f := 27) rfl ?_); refine goesL_ (some 6) rfl rfl Tryd.func27 kk rfl #[.int .i64 a0_0, .int .i64 1099511627776] rfl (by (try simp only [List.map_toArray, List.map_cons, List.map_nil]); first | done | rfl | (simp only [List.length_drop, List.length_take]; rfl)) ?_; (with_reducible refine (R2_Far.calls a0_0 1099511627776 t146 _ A2.out).mono ?_); rintro e w' ⟨rfl, ⟨nd, rfl⟩⟩; refine ⟨_, rfl, ?_⟩))
 (try simp only [Act.put, List.setIfInBounds_toArray, List.set_cons_zero, List.set_cons_succ])
 go_cut [22] (fun v22 wc => ∃ (kq : Nat) (x22_2 : Bool), v22 = .bool x22_2 ∧ Aside0 (R2_CongrError.j0 kq x22_2 a0_0 a0_1 = some r) ∧ Aside0 (kq ≤ k) ∧ Aside0 (wc.heap[gb145]? = some (.cells #[.int .i64 a0_0, .int .i64 a0_1] 32 (0, 0))) ∧ Aside0 (Below w.heap.size w wc))
 case first =>
  have H := HC3.out
  clear HC3
  by_cases c6 : a0_1 < 0
  ·rw [if_pos c6] at H
   have c6b0 : decide (a0_1 < 0) = true := decide_eq_true c6
   clear c6
   (first | rw [c6b0] | (simp only [i64_w, i32_w]; rw [c6b0]) | skip)
   have H' := am H
   clear H
   have hcz7_0 : w4.cell? ⟨gb145, 0, none⟩ = some (.int .i64 a0_0) := bc BK145 0
   have hcz7_1 : w4.cell? ⟨gb145, 1, none⟩ = some (.int .i64 a0_1) := bc BK145 1
   have hfz7_0 := blk_frozen BK145.out 0
   have hfz7_1 := blk_frozen BK145.out 1
   go_wp2
   go_meet
   case rel => exact ⟨_, (true), pr, H', ⟨by first | omega | exact Nat.le_refl _⟩, ⟨by (with_reducible repeat (first | refine blk_drewN ?_ _ | refine blk_drew ?_ | refine blk_alloc ?_ _)); exact BK145.out⟩, ⟨pw⟩⟩
  rw [if_neg c6] at H
  have c6b0 : decide (a0_1 < 0) = false := decide_eq_false c6
  clear c6
  (first | rw [c6b0] | (simp only [i64_w, i32_w]; rw [c6b0]) | skip)
  by_cases c8 : a0_1 > 1048576
  ·rw [if_pos c8] at H
   have c8b0 : decide (1048576 < a0_1) = true := decide_eq_true c8
   clear c8
   have H' := am H
   clear H
   have hcz9_0 : w4.cell? ⟨gb145, 0, none⟩ = some (.int .i64 a0_0) := bc BK145 0
   have hcz9_1 : w4.cell? ⟨gb145, 1, none⟩ = some (.int .i64 a0_1) := bc BK145 1
   have hfz9_0 := blk_frozen BK145.out 0
   have hfz9_1 := blk_frozen BK145.out 1
   go_wp2
   go_meet
   case rel => exact ⟨_, (true), pr, H', ⟨by first | omega | exact Nat.le_refl _⟩, ⟨by (with_reducible repeat (first | refine blk_drewN ?_ _ | refine blk_drew ?_ | refine blk_alloc ?_ _)); exact BK145.out⟩, ⟨pw⟩⟩
  rw [if_neg c8] at H
  have c8b0 : decide (1048576 < a0_1) = false := decide_eq_false c8
  clear c8
  by_cases c10 : a0_1 = 0
  ·rw [if_pos c10] at H
   have c10b0 : (a0_1 == 0) = true := beq_iff_eq.mpr c10
   have c10b1 : (a0_1 != 0) = false := bne_eq_false_iff_eq.mpr c10
   clear c10
   have H' := am H
   clear H
   have hcz11_0 : w4.cell? ⟨gb145, 0, none⟩ = some (.int .i64 a0_0) := bc BK145 0
   have hcz11_1 : w4.cell? ⟨gb145, 1, none⟩ = some (.int .i64 a0_1) := bc BK145 1
   have hfz11_0 := blk_frozen BK145.out 0
   have hfz11_1 := blk_frozen BK145.out 1
   go_wp2
   go_meet
   case rel => exact ⟨_, (t146), pr, H', ⟨by first | omega | exact Nat.le_refl _⟩, ⟨by (with_reducible repeat (first | refine blk_drewN ?_ _ | refine blk_drew ?_ | refine blk_alloc ?_ _)); exact BK145.out⟩, ⟨pw⟩⟩
  rw [if_neg c10] at H
  have c10b0 : (a0_1 == 0) = false := beq_eq_false_iff_ne.mpr c10
  have c10b1 : (a0_1 != 0) = true := bne_iff_ne.mpr c10
  have H' := am H
  clear H
  have hcz12_0 : w4.cell? ⟨gb145, 0, none⟩ = some (.int .i64 a0_0) := bc BK145 0
  have hcz12_1 : w4.cell? ⟨gb145, 1, none⟩ = some (.int .i64 a0_1) := bc BK145 1
  have hfz12_0 := blk_frozen BK145.out 0
  have hfz12_1 := blk_frozen BK145.out 1
  go_wp2
  go_meet
  case rel => exact ⟨_, (false), pr, H', ⟨by first | omega | exact Nat.le_refl _⟩, ⟨by (with_reducible repeat (first | refine blk_drewN ?_ _ | refine blk_drew ?_ | refine blk_alloc ?_ _)); exact BK145.out⟩, ⟨pw⟩⟩
 clear HC3
 try clear c1
 try clear c2
 try clear p2
 try clear c6
 try clear c6b0
 try clear c8
 try clear c8b0
 try clear c10
 try clear c10b0
 try clear c10b1
 try clear hcz11_0
 try clear hcz11_1
 try clear hcz12_0
 try clear hcz12_1
 try clear hcz5_0
 try clear hcz5_1
 try clear hcz7_0
 try clear hcz7_1
 try clear hcz9_0
 try clear hcz9_1
 try clear hfz11_0
 try clear hfz11_1
 try clear hfz12_0
 try clear hfz12_1
 try clear hfz5_0
 try clear hfz5_1
 try clear hfz7_0
 try clear hfz7_1
 try clear hfz9_0
 try clear hfz9_1
 obtain ⟨kq, x22_2, rfl, HA, HJ2, BK145, HB⟩ := hcut
 cases kq with
 | zero => exact absurd HA.out (by simp [R2_CongrError.j0])
 | succ kj2 =>
  have H := HA.out
  clear HA
  simp only [R2_CongrError.j0] at H
  by_cases c13 : x22_2 = true
  ·subst c13
   have H1 : (some 2) = some r := by rw [if_pos rfl] at H; exact H
   clear H
   have H := H1
   clear H1
   obtain rfl := Option.some.inj H
   go_wp2
   go_ret
   exact ⟨pe, pw⟩
  replace c13 := Bool.eq_false_iff.mpr c13
  subst c13
  have H1 : (if a0_1 > 0 then (if a0_0 < 0 then (some 3) else (if a0_0 ≥ a0_1 then (some 3) else (some 0))) else (some 0)) = some r := by rw [if_neg (show ¬ (false = true) by decide)] at H; exact H
  clear H
  have H := H1
  clear H1
  by_cases c14 : a0_1 > 0
  ·rw [if_pos c14] at H
   have c14b0 : decide (0 < a0_1) = true := decide_eq_true c14
   clear c14
   by_cases c15 : a0_0 < 0
   ·rw [if_pos c15] at H
    have c15b0 : decide (a0_0 < 0) = true := decide_eq_true c15
    clear c15
    obtain rfl := Option.some.inj H
    have hcz16_0 : wc.cell? ⟨gb145, 0, none⟩ = some (.int .i64 a0_0) := bc BK145 0
    have hcz16_1 : wc.cell? ⟨gb145, 1, none⟩ = some (.int .i64 a0_1) := bc BK145 1
    have hfz16_0 := blk_frozen BK145.out 0
    have hfz16_1 := blk_frozen BK145.out 1
    go_wp2
    go_ret
    exact ⟨pe, pw⟩
   rw [if_neg c15] at H
   have c15b0 : decide (a0_0 < 0) = false := decide_eq_false c15
   clear c15
   by_cases c17 : a0_0 ≥ a0_1
   ·rw [if_pos c17] at H
    have c17b0 : decide (a0_1 ≤ a0_0) = true := decide_eq_true c17
    clear c17
    obtain rfl := Option.some.inj H
    have hcz18_0 : wc.cell? ⟨gb145, 0, none⟩ = some (.int .i64 a0_0) := bc BK145 0
    have hcz18_1 : wc.cell? ⟨gb145, 1, none⟩ = some (.int .i64 a0_1) := bc BK145 1
    have hfz18_0 := blk_frozen BK145.out 0
    have hfz18_1 := blk_frozen BK145.out 1
    go_wp2
    go_ret
    exact ⟨pe, pw⟩
   rw [if_neg c17] at H
   have c17b0 : decide (a0_1 ≤ a0_0) = false := decide_eq_false c17
   clear c17
   obtain rfl := Option.some.inj H
   have hcz19_0 : wc.cell? ⟨gb145, 0, none⟩ = some (.int .i64 a0_0) := bc BK145 0
   have hcz19_1 : wc.cell? ⟨gb145, 1, none⟩ = some (.int .i64 a0_1) := bc BK145 1
   have hfz19_0 := blk_frozen BK145.out 0
   have hfz19_1 := blk_frozen BK145.out 1
   go_wp2
   go_ret
   exact ⟨pe, pw⟩
  rw [if_neg c14] at H
  have c14b0 : decide (0 < a0_1) = false := decide_eq_false c14
  clear c14
  obtain rfl := Option.some.inj H
  have hcz20_0 : wc.cell? ⟨gb145, 0, none⟩ = some (.int .i64 a0_0) := bc BK145 0
  have hcz20_1 : wc.cell? ⟨gb145, 1, none⟩ = some (.int .i64 a0_1) := bc BK145 1
  have hfz20_0 := blk_frozen BK145.out 0
  have hfz20_1 := blk_frozen BK145.out 1
  go_wp2
  go_ret
  exact ⟨pe, pw⟩

/-! ### R2_TwoCongrs: function 19 -/
def R2_TwoCongrs.f (k : Nat) (a0_0 : Int) (a0_1 : Int) (a1_0 : Int) (a1_1 : Int) : Option (Int) := (R2_CongrError.f k a0_0 a0_1).bind fun t149 => (if t149 = 0 then ((R2_CongrError.f k a1_0 a1_1).bind fun t150 => (some t150)) else (some t149))
theorem R2_TwoCongrs.mono : ∀ a0 a1 a2 a3 k, LeO (R2_TwoCongrs.f k a0 a1 a2 a3) (R2_TwoCongrs.f (k + 1) a0 a1 a2 a3) := by
 intro a0 a1 a2 a3 k
 unfold R2_TwoCongrs.f
 repeat' first
   | (with_reducible exact R2_CongrError.mono _ _ _)
   | (with_reducible exact LeO.refl _)
   | (with_reducible exact LeO.none _)
   | (with_reducible refine LeO.ite ?_ ?_)
   | (with_reducible refine LeO.bind ?_ (fun _ => ?_))
   | exact R2_CongrError.mono _ _ _
   | exact LeO.none _
   | refine LeO.ite ?_ ?_
   | refine LeO.bind ?_ (fun _ => ?_)
set_option maxHeartbeats 8000000 in
set_option maxRecDepth 100000 in
theorem R2_TwoCongrs.calls [EA] (k : Nat) (a0_0 : Int) (a0_1 : Int) (a1_0 : Int) (a1_1 : Int) (r : Int) (w : World) (h : R2_TwoCongrs.f k a0_0 a0_1 a1_0 a1_1 = some r) :
  Calls Tryd.prog 19 #[.agg #[.int .i64 a0_0, .int .i64 a0_1], .agg #[.int .i64 a1_0, .int .i64 a1_1]] w fun e w' => e = .returned (.int .i64 r) ∧ Below w.heap.size w w' := by
 have hu32 := Tryd.underlying32
 have HB := am (Below.refl w.heap.size w)
 have H : ((R2_CongrError.f k a0_0 a0_1).bind fun t149 => (if t149 = 0 then ((R2_CongrError.f k a1_0 a1_1).bind fun t150 => (some t150)) else (some t149))) = some r := h
 clear h
 replace H := Option.bind_eq_some_iff.mp H
 obtain ⟨t149, A30, H⟩ := H
 replace H : (if t149 = 0 then ((R2_CongrError.f k a1_0 a1_1).bind fun t150 => (some t150)) else (some t149)) = some r := H
 have A3 := am A30
 clear A30
 by_cases c4 : t149 = 0
 ·rw [if_pos c4] at H
  have c4b0 : (t149 == 0) = true := beq_iff_eq.mpr c4
  have c4b1 : (t149 != 0) = false := bne_eq_false_iff_eq.mpr c4
  clear c4
  replace H := Option.bind_eq_some_iff.mp H
  obtain ⟨t150, A50, H⟩ := H
  replace H : (some t150) = some r := H
  have A5 := am A50
  clear A50
  obtain rfl := Option.some.inj H
  go_enter Tryd.func19, Tryd.ntmps19
  go_wp2_with (first | ((with_reducible refine gate_dst (N := 2) rfl ?_); refine box_event ?hg (N := 2) ?hd (cs := #[.int .i64 a0_0, .int .i64 a0_1]) (t := 32) ?hr ?_; (case hd => rfl); (case hg => rfl); (case hr => first | (go_simp; done) | (go_simp; rfl)); intro gb147 hg w6 hbox hb; have n0_ := am (below_step pw hb); have n1_ := am (hbox); have n2_ := am ((by rw [hg]; exact (below_size pw) : w.heap.size ≤ gb147)); have n3_ := am ((by rw [hg]; exact (below_size pw) : w.heap.size ≤ gb147)); clear HB; have HB := n0_; have BK147 := n1_; have GW147 := n2_; have GE147 := n3_; clear n0_ n1_ n2_ n3_; clear hb hbox hg) | ((with_reducible refine gate_dst (N := 3) rfl ?_); refine box_event ?hg (N := 3) ?hd (cs := #[.int .i64 a1_0, .int .i64 a1_1]) (t := 32) ?hr ?_; (case hd => rfl); (case hg => rfl); (case hr => first | (go_simp; done) | (go_simp; rfl)); intro gb148 hg w7 hbox hb; have n0_ := bb BK147 hb; have n1_ := am (below_step pw hb); have n2_ := am (hbox); have n3_ := am ((by rw [hg]; exact (below_size pw) : w.heap.size ≤ gb148)); have n4_ := am ((by rw [hg]; exact (below_size pw) : w.heap.size ≤ gb148)); have n5_ := am ((by rw [hg]; exact Nat.ne_of_lt (blk_lt pk) : gb147 ≠ gb148)); have n6_ := am ((by rw [hg]; exact Nat.ne_of_gt (blk_lt pk) : gb148 ≠ gb147)); clear BK147; clear HB; have BK147 := n0_; have HB := n1_; have BK148 := n2_; have GW148 := n3_; have GE148 := n4_; have NB147_148 := n5_; have NB148_147 := n6_; clear n0_ n1_ n2_ n3_ n4_ n5_ n6_; clear hb hbox hg; have hnb8 := NB147_148.out; have hnc8 := NB148_147.out; have hcz9_0 : w7.cell? ⟨gb147, 0, none⟩ = some (.int .i64 a0_0) := bc BK147 0; have hcz9_1 : w7.cell? ⟨gb147, 1, none⟩ = some (.int .i64 a0_1) := bc BK147 1; have hfz9_0 := blk_frozen BK147.out 0; have hfz9_1 := blk_frozen BK147.out 1) | ((with_reducible refine gate_callee (f := 28) rfl ?_); refine goesL_ (some 7) rfl rfl Tryd.func28 kk rfl #[.agg #[.int .i64 a0_0, .int .i64 a0_1]] rfl (by (try simp only [List.map_toArray, List.map_cons, List.map_nil]); first | done | rfl | (simp only [List.length_drop, List.length_take]; rfl)) ?_; (with_reducible refine (R2_CongrError.calls k a0_0 a0_1 t149 _ A3.out).mono ?_); rintro e w10 ⟨rfl, hb⟩; refine ⟨_, rfl, ?_⟩; have n0_ := bb BK147 hb; have n1_ := bb BK148 hb; have n2_ := am (below_step pw hb); clear BK147; clear BK148; clear HB; have BK147 := n0_; have BK148 := n1_; have HB := n2_; clear n0_ n1_ n2_; (try clear hb); (try clear hb2); (try clear hk); (try clear hi); have hcz11_0 : w10.cell? ⟨gb148, 0, none⟩ = some (.int .i64 a1_0) := bc BK148 0; have hcz11_1 : w10.cell? ⟨gb148, 1, none⟩ = some (.int .i64 a1_1) := bc BK148 1; have hfz11_0 := blk_frozen BK148.out 0; have hfz11_1 := blk_frozen BK148.out 1) | ((with_reducible refine gate_callee (f := 28) rfl ?_); refine goesL_ (some 11) rfl rfl Tryd.func28 kk rfl #[.agg #[.int .i64 a1_0, .int .i64 a1_1]] rfl (by (try simp only [List.map_toArray, List.map_cons, List.map_nil]); first | done | rfl | (simp only [List.length_drop, List.length_take]; rfl)) ?_; (with_reducible refine (R2_CongrError.calls k a1_0 a1_1 t150 _ A5.out).mono ?_); rintro e w12 ⟨rfl, hb⟩; refine ⟨_, rfl, ?_⟩; have n0_ := bb BK147 hb; have n1_ := bb BK148 hb; have n2_ := am (below_step pw hb); clear BK147; clear BK148; clear HB; have BK147 := n0_; have BK148 := n1_; have HB := n2_; clear n0_ n1_ n2_; (try clear hb); (try clear hb2); (try clear hk); (try clear hi)))
  go_ret
  exact ⟨pe, pw⟩
 rw [if_neg c4] at H
 have c4b0 : (t149 == 0) = false := beq_eq_false_iff_ne.mpr c4
 have c4b1 : (t149 != 0) = true := bne_iff_ne.mpr c4
 obtain rfl := Option.some.inj H
 go_enter Tryd.func19, Tryd.ntmps19
 go_wp2_with (first | ((with_reducible refine gate_dst (N := 2) rfl ?_); refine box_event ?hg (N := 2) ?hd (cs := #[.int .i64 a0_0, .int .i64 a0_1]) (t := 32) ?hr ?_; (case hd => rfl); (case hg => rfl); (case hr => first | (go_simp; done) | (go_simp; rfl)); intro gb147 hg w13 hbox hb; have n0_ := am (below_step pw hb); have n1_ := am (hbox); have n2_ := am ((by rw [hg]; exact (below_size pw) : w.heap.size ≤ gb147)); have n3_ := am ((by rw [hg]; exact (below_size pw) : w.heap.size ≤ gb147)); clear HB; have HB := n0_; have BK147 := n1_; have GW147 := n2_; have GE147 := n3_; clear n0_ n1_ n2_ n3_; clear hb hbox hg) | ((with_reducible refine gate_dst (N := 3) rfl ?_); refine box_event ?hg (N := 3) ?hd (cs := #[.int .i64 a1_0, .int .i64 a1_1]) (t := 32) ?hr ?_; (case hd => rfl); (case hg => rfl); (case hr => first | (go_simp; done) | (go_simp; rfl)); intro gb148 hg w14 hbox hb; have n0_ := bb BK147 hb; have n1_ := am (below_step pw hb); have n2_ := am (hbox); have n3_ := am ((by rw [hg]; exact (below_size pw) : w.heap.size ≤ gb148)); have n4_ := am ((by rw [hg]; exact (below_size pw) : w.heap.size ≤ gb148)); have n5_ := am ((by rw [hg]; exact Nat.ne_of_lt (blk_lt pk) : gb147 ≠ gb148)); have n6_ := am ((by rw [hg]; exact Nat.ne_of_gt (blk_lt pk) : gb148 ≠ gb147)); clear BK147; clear HB; have BK147 := n0_; have HB := n1_; have BK148 := n2_; have GW148 := n3_; have GE148 := n4_; have NB147_148 := n5_; have NB148_147 := n6_; clear n0_ n1_ n2_ n3_ n4_ n5_ n6_; clear hb hbox hg; have hnb15 := NB147_148.out; have hnc15 := NB148_147.out; have hcz16_0 : w14.cell? ⟨gb147, 0, none⟩ = some (.int .i64 a0_0) := bc BK147 0; have hcz16_1 : w14.cell? ⟨gb147, 1, none⟩ = some (.int .i64 a0_1) := bc BK147 1; have hfz16_0 := blk_frozen BK147.out 0; have hfz16_1 := blk_frozen BK147.out 1) | ((with_reducible refine gate_callee (f := 28) rfl ?_); refine goesL_ (some 7) rfl rfl Tryd.func28 kk rfl #[.agg #[.int .i64 a0_0, .int .i64 a0_1]] rfl (by (try simp only [List.map_toArray, List.map_cons, List.map_nil]); first | done | rfl | (simp only [List.length_drop, List.length_take]; rfl)) ?_; (with_reducible refine (R2_CongrError.calls k a0_0 a0_1 t149 _ A3.out).mono ?_); rintro e w17 ⟨rfl, hb⟩; refine ⟨_, rfl, ?_⟩; have n0_ := bb BK147 hb; have n1_ := bb BK148 hb; have n2_ := am (below_step pw hb); clear BK147; clear BK148; clear HB; have BK147 := n0_; have BK148 := n1_; have HB := n2_; clear n0_ n1_ n2_; (try clear hb); (try clear hb2); (try clear hk); (try clear hi)))
 go_ret
 exact ⟨pe, pw⟩

/-! ### L2_own: function 21 -/
def L2_own.f (a0_0 : Int) (a0_1 : Int) : Option (Int × Int) := some (a0_0, a0_1)
set_option maxHeartbeats 8000000 in
set_option maxRecDepth 100000 in
theorem L2_own.calls [EA] (a0_0 : Int) (a0_1 : Int) (r1 : Int) (r2 : Int) (w : World) (h : L2_own.f a0_0 a0_1 = some (r1, r2)) :
  Calls Tryd.prog 21 #[.agg #[.int .i64 a0_0, .int .i64 a0_1]] w fun e w' => e = .returned (.agg #[.int .i64 r1, .int .i64 r2]) ∧ Below w.heap.size w w' := by
 have hu32 := Tryd.underlying32
 have hu34 := Tryd.underlying34
 have HB := am (Below.refl w.heap.size w)
 have H : (some (a0_0, a0_1)) = some (r1, r2) := h
 clear h
 simp only [Option.some.injEq, Prod.mk.injEq] at H
 obtain ⟨rfl, rfl⟩ := H
 go_enter Tryd.func21, Tryd.ntmps21
 go_wp2_with (first | ((with_reducible refine gate_dst (N := 1) rfl ?_); refine box_event ?hg (N := 1) ?hd (cs := #[.int .i64 a0_0, .int .i64 a0_1]) (t := 32) ?hr ?_; (case hd => rfl); (case hg => rfl); (case hr => first | (go_simp; done) | (go_simp; rfl)); intro gb151 hg w2 hbox hb; have n0_ := am (below_step pw hb); have n1_ := am (hbox); have n2_ := am ((by rw [hg]; exact (below_size pw) : w.heap.size ≤ gb151)); have n3_ := am ((by rw [hg]; exact (below_size pw) : w.heap.size ≤ gb151)); clear HB; have HB := n0_; have BK151 := n1_; have GW151 := n2_; have GE151 := n3_; clear n0_ n1_ n2_ n3_; clear hb hbox hg) | ((with_reducible refine gate_dst (N := 2) rfl ?_); refine box_event ?hg (N := 2) ?hd (cs := #[.int .i64 0, .int .i64 0]) (t := 34) ?hr ?_; (case hd => rfl); (case hg => rfl); (case hr => first | (go_simp; done) | (go_simp; rfl)); intro gb152 hg w3 hbox hb; have n0_ := bb BK151 hb; have n1_ := am (below_step pw hb); have n2_ := am (hbox); have n3_ := am ((by rw [hg]; exact (below_size pw) : w.heap.size ≤ gb152)); have n4_ := am ((by rw [hg]; exact (below_size pw) : w.heap.size ≤ gb152)); have n5_ := am ((by rw [hg]; exact Nat.ne_of_lt (blk_lt pk) : gb151 ≠ gb152)); have n6_ := am ((by rw [hg]; exact Nat.ne_of_gt (blk_lt pk) : gb152 ≠ gb151)); clear BK151; clear HB; have BK151 := n0_; have HB := n1_; have BK152 := n2_; have GW152 := n3_; have GE152 := n4_; have NB151_152 := n5_; have NB152_151 := n6_; clear n0_ n1_ n2_ n3_ n4_ n5_ n6_; clear hb hbox hg; have hnb4 := NB151_152.out; have hnc4 := NB152_151.out; have hcz5_0 : w3.cell? ⟨gb151, 0, none⟩ = some (.int .i64 a0_0) := bc BK151 0; have hcz5_1 : w3.cell? ⟨gb151, 1, none⟩ = some (.int .i64 a0_1) := bc BK151 1; have hfz5_0 := blk_frozen BK151.out 0; have hfz5_1 := blk_frozen BK151.out 1; have hcz6_0 : w3.cell? ⟨gb152, 0, none⟩ = some (.int .i64 0) := bc BK152 0; have hcz6_1 : w3.cell? ⟨gb152, 1, none⟩ = some (.int .i64 0) := bc BK152 1; have hfz6_0 := blk_frozen BK152.out 0; have hfz6_1 := blk_frozen BK152.out 1))
 refine bodyPost_ret (results_cell_row rfl _ _ gb152 34 #[.int .i64 a0_0, .int .i64 a0_1] (0, 0) _ rfl (by (with_reducible repeat (first | refine blk_drewN ?_ _ | refine blk_drew ?_ | refine blk_alloc ?_ _)); refine blk_put (cs := #[.int .i64 a0_0, .int .i64 0]) ?_ 1 _ rfl; (with_reducible repeat (first | refine blk_drewN ?_ _ | refine blk_drew ?_ | refine blk_alloc ?_ _)); refine blk_put (cs := #[.int .i64 0, .int .i64 0]) ?_ 0 _ rfl; (with_reducible repeat (first | refine blk_drewN ?_ _ | refine blk_drew ?_ | refine blk_alloc ?_ _)); exact BK152.out) Tryd.underlying34 rfl kk) rfl ?_
 exact ⟨pe, pw⟩

/-! ### L2_isCongr: function 22 -/
def L2_isCongr.f (a0_0 : Int) (a0_1 : Int) (a1 : Option Int) (a2_0 : Int) (a2_1 : Int) (a3 : Int) : Option (Bool) := if a3 > 0 then ((L2_coded.f a1 a3).bind fun t155 => (if t155 = true then (some (a0_0 == 0 && (a0_1 == 0))) else (some false))) else (if a1.isNone = true then ((L2_own.f a2_0 a2_1).bind fun bt157 => (some (a0_0 == bt157.1 && (a0_1 == bt157.2)))) else (some false))
def L2_isCongr.T3 : Bool × List (List Nat × List Nat) := (true, [([], []), ([0], [0]), ([1], [1]), ([2], [2]), ([2], [2]), ([4, 2, 2], [2, 4]), ([3, 5, 2], [2, 3, 5]), ([2, 6], [2, 6]), ([7, 5, 0, 1, 2, 3, 4, 5, 6, 7], [7])])
def L2_isCongr.B3 : List Nat := [0, 1, 3, 7, 7, 23, 63, 127, 255]
theorem L2_isCongr.tab3 : rtab .any (opsOf Tryd.f22 3) = L2_isCongr.T3 := by kernel_rfl
theorem L2_isCongr.bits3 : waitsOk L2_isCongr.T3.2 L2_isCongr.B3 = true := by kernel_rfl
set_option maxHeartbeats 8000000 in
set_option maxRecDepth 100000 in
theorem L2_isCongr.calls [EA] (a0_0 : Int) (a0_1 : Int) (a1 : Option Int) (a2_0 : Int) (a2_1 : Int) (a3 : Int) (r : Bool) (w : World) (h : L2_isCongr.f a0_0 a0_1 a1 a2_0 a2_1 a3 = some r) (h9_ : ErrAll w) :
  Calls Tryd.prog 22 #[.agg #[.int .i64 a0_0, .int .i64 a0_1], errW a1, .agg #[.int .i64 a2_0, .int .i64 a2_1], .int .i64 a3] w fun e w' => e = .returned (.bool r) ∧ Below w.heap.size w w' := by
 have hE9 := am h9_
 clear h9_
 have hu34 := Tryd.underlying34
 have hu32 := Tryd.underlying32
 have hu28 := Tryd.underlying28
 have HB := am (Below.refl w.heap.size w)
 have H : (if a3 > 0 then ((L2_coded.f a1 a3).bind fun t155 => (if t155 = true then (some (a0_0 == 0 && (a0_1 == 0))) else (some false))) else (if a1.isNone = true then ((L2_own.f a2_0 a2_1).bind fun bt157 => (some (a0_0 == bt157.1 && (a0_1 == bt157.2)))) else (some false))) = some r := h
 clear h
 by_cases c5 : a3 > 0
 ·rw [if_pos c5] at H
  have c5b0 : decide (0 < a3) = true := decide_eq_true c5
  clear c5
  replace H := Option.bind_eq_some_iff.mp H
  obtain ⟨t155, A60, H⟩ := H
  replace H : (if t155 = true then (some (a0_0 == 0 && (a0_1 == 0))) else (some false)) = some r := H
  have A6 := am A60
  clear A60
  by_cases c7 : t155 = true
  ·subst c7
   have H1 : (some (a0_0 == 0 && (a0_1 == 0))) = some r := by rw [if_pos rfl] at H; exact H
   clear H
   have H := H1
   clear H1
   obtain rfl := Option.some.inj H
   go_enter Tryd.func22, Tryd.ntmps22
   go_wp2_with (first | ((with_reducible refine gate_dst (N := 4) rfl ?_); refine box_event ?hg (N := 4) ?hd (cs := #[.int .i64 a0_0, .int .i64 a0_1]) (t := 34) ?hr ?_; (case hd => rfl); (case hg => rfl); (case hr => first | (go_simp; done) | (go_simp; rfl)); intro gb153 hg w8 hbox hb; have n0_ := am (below_step pw hb); have n1_ := am (hbox); have n2_ := am ((by rw [hg]; exact (below_size pw) : w.heap.size ≤ gb153)); have n3_ := am ((by rw [hg]; exact (below_size pw) : w.heap.size ≤ gb153)); clear HB; have HB := n0_; have BK153 := n1_; have GW153 := n2_; have GE153 := n3_; clear n0_ n1_ n2_ n3_; clear hb hbox hg) | ((with_reducible refine gate_dst (N := 6) rfl ?_); refine box_event ?hg (N := 6) ?hd (cs := #[.int .i64 a2_0, .int .i64 a2_1]) (t := 32) ?hr ?_; (case hd => rfl); (case hg => rfl); (case hr => first | (go_simp; done) | (go_simp; rfl)); intro gb154 hg w9 hbox hb; have n0_ := bb BK153 hb; have n1_ := am (below_step pw hb); have n2_ := am (hbox); have n3_ := am ((by rw [hg]; exact (below_size pw) : w.heap.size ≤ gb154)); have n4_ := am ((by rw [hg]; exact (below_size pw) : w.heap.size ≤ gb154)); have n5_ := am ((by rw [hg]; exact Nat.ne_of_lt (blk_lt pk) : gb153 ≠ gb154)); have n6_ := am ((by rw [hg]; exact Nat.ne_of_gt (blk_lt pk) : gb154 ≠ gb153)); clear BK153; clear HB; have BK153 := n0_; have HB := n1_; have BK154 := n2_; have GW154 := n3_; have GE154 := n4_; have NB153_154 := n5_; have NB154_153 := n6_; clear n0_ n1_ n2_ n3_ n4_ n5_ n6_; clear hb hbox hg; have CA6 := fun (W : World) (hE9_ : ErrAll W) => L2_coded.calls a1 a3 true W A6.out hE9_; try simp only [errW_none, errW_some] at CA6) | (go_at_call 14; (with_reducible refine (CA6 _ (ErrAll.below hE9.out pw)).mono ?_); rintro e w10 ⟨rfl, hb⟩; have n0_ := bb BK153 hb; have n1_ := bb BK154 hb; have n2_ := am (below_step pw hb); clear BK153; clear BK154; clear HB; have BK153 := n0_; have BK154 := n1_; have HB := n2_; clear n0_ n1_ n2_; (try clear hb); (try clear hb2); (try clear hk); (try clear hi); have hnb11 := NB153_154.out; have hnc11 := NB154_153.out; have hcz12_0 : w10.cell? ⟨gb153, 0, none⟩ = some (.int .i64 a0_0) := bc BK153 0; have hcz12_1 : w10.cell? ⟨gb153, 1, none⟩ = some (.int .i64 a0_1) := bc BK153 1; have hfz12_0 := blk_frozen BK153.out 0; have hfz12_1 := blk_frozen BK153.out 1))
   go_ret
   exact ⟨pe, pw⟩
  replace c7 := Bool.eq_false_iff.mpr c7
  subst c7
  have H1 : (some false) = some r := by rw [if_neg (show ¬ (false = true) by decide)] at H; exact H
  clear H
  have H := H1
  clear H1
  obtain rfl := Option.some.inj H
  go_enter Tryd.func22, Tryd.ntmps22
  go_wp2_with (first | ((with_reducible refine gate_dst (N := 4) rfl ?_); refine box_event ?hg (N := 4) ?hd (cs := #[.int .i64 a0_0, .int .i64 a0_1]) (t := 34) ?hr ?_; (case hd => rfl); (case hg => rfl); (case hr => first | (go_simp; done) | (go_simp; rfl)); intro gb153 hg w13 hbox hb; have n0_ := am (below_step pw hb); have n1_ := am (hbox); have n2_ := am ((by rw [hg]; exact (below_size pw) : w.heap.size ≤ gb153)); have n3_ := am ((by rw [hg]; exact (below_size pw) : w.heap.size ≤ gb153)); clear HB; have HB := n0_; have BK153 := n1_; have GW153 := n2_; have GE153 := n3_; clear n0_ n1_ n2_ n3_; clear hb hbox hg) | ((with_reducible refine gate_dst (N := 6) rfl ?_); refine box_event ?hg (N := 6) ?hd (cs := #[.int .i64 a2_0, .int .i64 a2_1]) (t := 32) ?hr ?_; (case hd => rfl); (case hg => rfl); (case hr => first | (go_simp; done) | (go_simp; rfl)); intro gb154 hg w14 hbox hb; have n0_ := bb BK153 hb; have n1_ := am (below_step pw hb); have n2_ := am (hbox); have n3_ := am ((by rw [hg]; exact (below_size pw) : w.heap.size ≤ gb154)); have n4_ := am ((by rw [hg]; exact (below_size pw) : w.heap.size ≤ gb154)); have n5_ := am ((by rw [hg]; exact Nat.ne_of_lt (blk_lt pk) : gb153 ≠ gb154)); have n6_ := am ((by rw [hg]; exact Nat.ne_of_gt (blk_lt pk) : gb154 ≠ gb153)); clear BK153; clear HB; have BK153 := n0_; have HB := n1_; have BK154 := n2_; have GW154 := n3_; have GE154 := n4_; have NB153_154 := n5_; have NB154_153 := n6_; clear n0_ n1_ n2_ n3_ n4_ n5_ n6_; clear hb hbox hg; have CA6 := fun (W : World) (hE9_ : ErrAll W) => L2_coded.calls a1 a3 false W A6.out hE9_; try simp only [errW_none, errW_some] at CA6) | (go_at_call 14; (with_reducible refine (CA6 _ (ErrAll.below hE9.out pw)).mono ?_); rintro e w15 ⟨rfl, hb⟩; have n0_ := bb BK153 hb; have n1_ := bb BK154 hb; have n2_ := am (below_step pw hb); clear BK153; clear BK154; clear HB; have BK153 := n0_; have BK154 := n1_; have HB := n2_; clear n0_ n1_ n2_; (try clear hb); (try clear hb2); (try clear hk); (try clear hi)))
  go_ret
  exact ⟨pe, pw⟩
 rw [if_neg c5] at H
 have c5b0 : decide (0 < a3) = false := decide_eq_false c5
 clear c5
 rcases a1 with _ | q156
 ·have H1 : ((L2_own.f a2_0 a2_1).bind fun bt157 => (some (a0_0 == bt157.1 && (a0_1 == bt157.2)))) = some r := by rw [if_pos (show (none : Option Int).isNone = true by rfl)] at H; exact H
  clear H
  have H := H1
  clear H1
  simp only [errW_none, errW_some]
  replace H := Option.bind_eq_some_iff.mp H
  obtain ⟨⟨t157, t158⟩, A160, H⟩ := H
  replace H : (some (a0_0 == t157 && (a0_1 == t158))) = some r := H
  have A16 := am A160
  clear A160
  obtain rfl := Option.some.inj H
  go_enter Tryd.func22, Tryd.ntmps22
  try go_wp2_with (first | ((with_reducible refine gate_dst (N := 4) rfl ?_); refine box_event ?hg (N := 4) ?hd (cs := #[.int .i64 a0_0, .int .i64 a0_1]) (t := 34) ?hr ?_; (case hd => rfl); (case hg => rfl); (case hr => first | (go_simp; done) | (go_simp; rfl)); intro gb153 hg w17 hbox hb; have n0_ := am (below_step pw hb); have n1_ := am (hbox); have n2_ := am ((by rw [hg]; exact (below_size pw) : w.heap.size ≤ gb153)); have n3_ := am ((by rw [hg]; exact (below_size pw) : w.heap.size ≤ gb153)); clear HB; have HB := n0_; have BK153 := n1_; have GW153 := n2_; have GE153 := n3_; clear n0_ n1_ n2_ n3_; clear hb hbox hg) | ((with_reducible refine gate_dst (N := 6) rfl ?_); refine box_event ?hg (N := 6) ?hd (cs := #[.int .i64 a2_0, .int .i64 a2_1]) (t := 32) ?hr ?_; (case hd => rfl); (case hg => rfl); (case hr => first | (go_simp; done) | (go_simp; rfl)); intro gb154 hg w18 hbox hb; have n0_ := bb BK153 hb; have n1_ := am (below_step pw hb); have n2_ := am (hbox); have n3_ := am ((by rw [hg]; exact (below_size pw) : w.heap.size ≤ gb154)); have n4_ := am ((by rw [hg]; exact (below_size pw) : w.heap.size ≤ gb154)); have n5_ := am ((by rw [hg]; exact Nat.ne_of_lt (blk_lt pk) : gb153 ≠ gb154)); have n6_ := am ((by rw [hg]; exact Nat.ne_of_gt (blk_lt pk) : gb154 ≠ gb153)); clear BK153; clear HB; have BK153 := n0_; have HB := n1_; have BK154 := n2_; have GW154 := n3_; have GE154 := n4_; have NB153_154 := n5_; have NB154_153 := n6_; clear n0_ n1_ n2_ n3_ n4_ n5_ n6_; clear hb hbox hg))
  have n0_ := am (blk_drew BK153.out)
  have n1_ := am (blk_drew BK154.out)
  have n2_ := am (below_drew1 HB.out)
  clear BK153 BK154 HB
  revert n0_ n1_ n2_
  intro BK153 BK154 HB
  refine start_ (n := 9) (S := fun w' => w'.cell? ⟨gb153, 0, none⟩ = some (.int .i64 a0_0) ∧ w'.cell? ⟨gb153, 1, none⟩ = some (.int .i64 a0_1) ∧ w'.cell? ⟨gb154, 0, none⟩ = some (.int .i64 a2_0) ∧ w'.cell? ⟨gb154, 1, none⟩ = some (.int .i64 a2_1)) (ds := []) #[false, false, false, false, false, false, false, false, false] kk rfl rfl ⟨bc BK153 0, bc BK153 1, bc BK154 0, bc BK154 1⟩ (fun hHeld => ?_); refine with_tabW L2_isCongr.tab3 L2_isCongr.bits3 (fun HT_ HW_ => ?_)
  generalize w18.drew = w19 at BK153 BK154 HB hHeld ⊢
  refine pure_ (i := 0) (N := some 19) (v := ?_) (a' := ?_) #[true, false, false, false, false, false, false, false, false] rfl rfl (any_of HT_.out kk) (fun _ _ _ h => h) (Or.inl ⟨by rfl, ?_⟩) ?_ ?_
  rotate_left
  ·intro w'
   go_simp
   with_reducible rfl
  rotate_left
  ·simp only [Act.put, List.setIfInBounds_toArray, List.set_cons_zero, List.set_cons_succ, i64_w, i32_w]
   rfl
  refine pure_ (i := 1) (N := some 20) (v := ?_) (a' := ?_) #[true, true, false, false, false, false, false, false, false] rfl rfl (any_of HT_.out kk) (fun _ _ _ h => h) (Or.inl ⟨by rfl, ?_⟩) ?_ ?_
  rotate_left
  ·intro w'
   go_simp
   with_reducible rfl
  rotate_left
  ·simp only [Act.put, List.setIfInBounds_toArray, List.set_cons_zero, List.set_cons_succ, i64_w, i32_w]
   rfl
  refine pure_ (i := 2) (N := some 21) (v := ?_) (a' := ?_) #[true, true, true, false, false, false, false, false, false] rfl rfl (any_of HT_.out kk) (fun _ _ _ h => h) (Or.inl ⟨by rfl, ?_⟩) ?_ ?_
  rotate_left
  ·intro w'
   go_simp
   with_reducible rfl
  rotate_left
  ·simp only [Act.put, List.setIfInBounds_toArray, List.set_cons_zero, List.set_cons_succ, i64_w, i32_w]
   rfl
  refine take_ (i := 3) (N := some 22) (v := ?_) (a' := ?_) #[true, true, true, true, false, false, false, false, false] rfl rfl (take_ofW HT_.out HW_.out kk) (fun _ _ _ h => h) (Or.inl ⟨by rfl, ?_⟩) hHeld ?_ ?_
  rotate_left
  ·rintro w' ⟨s0, s1, s2, s3⟩
   go_simp
   with_reducible rfl
  rotate_left
  ·simp only [Act.put, List.setIfInBounds_toArray, List.set_cons_zero, List.set_cons_succ, i64_w, i32_w]
   rfl
  refine take_ (i := 4) (N := some 23) (v := ?_) (a' := ?_) #[true, true, true, true, true, false, false, false, false] rfl rfl (take_ofW HT_.out HW_.out kk) (fun _ _ _ h => h) (Or.inl ⟨by rfl, ?_⟩) hHeld ?_ ?_
  rotate_left
  ·rintro w' ⟨s0, s1, s2, s3⟩
   go_simp
   with_reducible rfl
  rotate_left
  ·simp only [Act.put, List.setIfInBounds_toArray, List.set_cons_zero, List.set_cons_succ, i64_w, i32_w]
   rfl
  refine one_ (i := 5) (N := some 24) #[true, true, true, true, true, true, false, false, false] rfl rfl (one_of HT_.out kk) (by decide) (fun K hK => ?_)
  refine goes_ Tryd.func21 kk rfl #[.agg #[.int .i64 a2_0, .int .i64 a2_1]] (by rfl) rfl rfl (by (try simp only [List.map_toArray, List.map_cons, List.map_nil]); first | done | rfl | (simp only [List.length_drop, List.length_take]; rfl)) ?_
  with_reducible refine (L2_own.calls a2_0 a2_1 t157 t158 _ A16.out).mono ?_
  rintro e w20 ⟨rfl, hb⟩
  refine ⟨_, rfl, ?_⟩
  have n0_ := bb BK153 hb
  have n1_ := bb BK154 hb
  have n2_ := am (below_step pw hb)
  clear BK153 BK154 HB
  revert n0_ n1_ n2_
  intro BK153 BK154 HB
  (try clear hb)
  (try clear hb2)
  (try clear hk)
  (try clear hi)
  refine hK.out _ _ ⟨bc BK153 0, bc BK153 1, bc BK154 0, bc BK154 1⟩ (fun hHeld => ?_)
  clear hK K
  refine norm_ (a' := ?_) ?_ ?_
  rotate_left
  ·show Act.put _ (some 24) _ = _
   simp only [Act.put, List.setIfInBounds_toArray, List.set_cons_zero, List.set_cons_succ, i64_w, i32_w]
   rfl
  refine pure_ (i := 6) (N := some 25) (v := ?_) (a' := ?_) #[true, true, true, true, true, true, true, false, false] rfl rfl (any_of HT_.out kk) (fun _ _ _ h => h) (Or.inl ⟨by rfl, ?_⟩) ?_ ?_
  rotate_left
  ·intro w'
   go_simp
   with_reducible rfl
  rotate_left
  ·simp only [Act.put, List.setIfInBounds_toArray, List.set_cons_zero, List.set_cons_succ, i64_w, i32_w]
   rfl
  refine pure_ (i := 7) (N := some 26) (v := ?_) (a' := ?_) #[true, true, true, true, true, true, true, true, false] rfl rfl (any_of HT_.out kk) (fun _ _ _ h => h) (Or.inl ⟨by rfl, ?_⟩) ?_ ?_
  rotate_left
  ·intro w'
   go_simp
   with_reducible rfl
  rotate_left
  ·simp only [Act.put, List.setIfInBounds_toArray, List.set_cons_zero, List.set_cons_succ, i64_w, i32_w]
   rfl
  refine pure_ (i := 8) (N := some 8) (v := ?_) (a' := ?_) #[true, true, true, true, true, true, true, true, true] rfl rfl (any_of HT_.out kk) (fun _ _ _ h => h) (Or.inl ⟨by rfl, ?_⟩) ?_ ?_
  rotate_left
  ·intro w'
   go_simp
   with_reducible rfl
  rotate_left
  ·simp only [Act.put, List.setIfInBounds_toArray, List.set_cons_zero, List.set_cons_succ, i64_w, i32_w]
   rfl
  refine done_ (done_of HT_.out kk) ?_
  try go_wp2
  go_ret
  exact ⟨pe, pw⟩
 have H1 : (some false) = some r := by rw [if_neg (show ¬ (some q156).isNone = true by simp)] at H; exact H
 clear H
 have H := H1
 clear H1
 simp only [errW_none, errW_some]
 obtain rfl := Option.some.inj H
 go_enter Tryd.func22, Tryd.ntmps22
 try go_wp2_with (first | ((with_reducible refine gate_dst (N := 4) rfl ?_); refine box_event ?hg (N := 4) ?hd (cs := #[.int .i64 a0_0, .int .i64 a0_1]) (t := 34) ?hr ?_; (case hd => rfl); (case hg => rfl); (case hr => first | (go_simp; done) | (go_simp; rfl)); intro gb153 hg w21 hbox hb; have n0_ := am (below_step pw hb); have n1_ := am (hbox); have n2_ := am ((by rw [hg]; exact (below_size pw) : w.heap.size ≤ gb153)); have n3_ := am ((by rw [hg]; exact (below_size pw) : w.heap.size ≤ gb153)); clear HB; have HB := n0_; have BK153 := n1_; have GW153 := n2_; have GE153 := n3_; clear n0_ n1_ n2_ n3_; clear hb hbox hg) | ((with_reducible refine gate_dst (N := 6) rfl ?_); refine box_event ?hg (N := 6) ?hd (cs := #[.int .i64 a2_0, .int .i64 a2_1]) (t := 32) ?hr ?_; (case hd => rfl); (case hg => rfl); (case hr => first | (go_simp; done) | (go_simp; rfl)); intro gb154 hg w22 hbox hb; have n0_ := bb BK153 hb; have n1_ := am (below_step pw hb); have n2_ := am (hbox); have n3_ := am ((by rw [hg]; exact (below_size pw) : w.heap.size ≤ gb154)); have n4_ := am ((by rw [hg]; exact (below_size pw) : w.heap.size ≤ gb154)); have n5_ := am ((by rw [hg]; exact Nat.ne_of_lt (blk_lt pk) : gb153 ≠ gb154)); have n6_ := am ((by rw [hg]; exact Nat.ne_of_gt (blk_lt pk) : gb154 ≠ gb153)); clear BK153; clear HB; have BK153 := n0_; have HB := n1_; have BK154 := n2_; have GW154 := n3_; have GE154 := n4_; have NB153_154 := n5_; have NB154_153 := n6_; clear n0_ n1_ n2_ n3_ n4_ n5_ n6_; clear hb hbox hg))
 have n0_ := am (blk_drew BK153.out)
 have n1_ := am (blk_drew BK154.out)
 have n2_ := am (below_drew1 HB.out)
 clear BK153 BK154 HB
 revert n0_ n1_ n2_
 intro BK153 BK154 HB
 refine start_ (n := 9) (S := fun w' => True) (ds := []) #[false, false, false, false, false, false, false, false, false] kk rfl rfl trivial (fun hHeld => ?_); refine with_tabW L2_isCongr.tab3 L2_isCongr.bits3 (fun HT_ HW_ => ?_)
 generalize w22.drew = w23 at BK153 BK154 HB hHeld ⊢
 refine pure_ (i := 0) (N := some 19) (v := ?_) (a' := ?_) #[true, false, false, false, false, false, false, false, false] rfl rfl (any_of HT_.out kk) (fun _ _ _ h => h) (Or.inl ⟨by rfl, ?_⟩) ?_ ?_
 rotate_left
 ·intro w'
  go_simp
  with_reducible rfl
 rotate_left
 ·simp only [Act.put, List.setIfInBounds_toArray, List.set_cons_zero, List.set_cons_succ, i64_w, i32_w]
  rfl
 refine pure_ (i := 1) (N := some 20) (v := ?_) (a' := ?_) #[true, true, false, false, false, false, false, false, false] rfl rfl (any_of HT_.out kk) (fun _ _ _ h => h) (Or.inl ⟨by rfl, ?_⟩) ?_ ?_
 rotate_left
 ·intro w'
  go_simp
  with_reducible rfl
 rotate_left
 ·simp only [Act.put, List.setIfInBounds_toArray, List.set_cons_zero, List.set_cons_succ, i64_w, i32_w]
  rfl
 refine pure_ (i := 2) (N := some 21) (v := ?_) (a' := ?_) #[true, true, true, false, false, false, false, false, false] rfl rfl (any_of HT_.out kk) (fun _ _ _ h => h) (Or.inl ⟨by rfl, ?_⟩) ?_ ?_
 rotate_left
 ·intro w'
  go_simp
  with_reducible rfl
 rotate_left
 ·simp only [Act.put, List.setIfInBounds_toArray, List.set_cons_zero, List.set_cons_succ, i64_w, i32_w]
  rfl
 refine pure_ (i := 3) (N := some 22) (v := undef) (a' := ?_) #[true, true, true, true, false, false, false, false, false] rfl rfl (any_of HT_.out kk) (fun _ _ _ h => h) (Or.inr ⟨by rfl, rfl⟩) ?_ ?_
 rotate_left
 ·simp only [Act.put, List.setIfInBounds_toArray, List.set_cons_zero, List.set_cons_succ, i64_w, i32_w]
  rfl
 refine pure_ (i := 4) (N := some 23) (v := undef) (a' := ?_) #[true, true, true, true, true, false, false, false, false] rfl rfl (any_of HT_.out kk) (fun _ _ _ h => h) (Or.inr ⟨by rfl, rfl⟩) ?_ ?_
 rotate_left
 ·simp only [Act.put, List.setIfInBounds_toArray, List.set_cons_zero, List.set_cons_succ, i64_w, i32_w]
  rfl
 refine pure_ (i := 5) (N := some 24) (v := undef) (a' := ?_) #[true, true, true, true, true, true, false, false, false] rfl rfl (any_of HT_.out kk) (fun _ _ _ h => h) (Or.inr ⟨by rfl, rfl⟩) ?_ ?_
 rotate_left
 ·simp only [Act.put, List.setIfInBounds_toArray, List.set_cons_zero, List.set_cons_succ, i64_w, i32_w]
  rfl
 refine pure_ (i := 6) (N := some 25) (v := undef) (a' := ?_) #[true, true, true, true, true, true, true, false, false] rfl rfl (any_of HT_.out kk) (fun _ _ _ h => h) (Or.inr ⟨by rfl, rfl⟩) ?_ ?_
 rotate_left
 ·simp only [Act.put, List.setIfInBounds_toArray, List.set_cons_zero, List.set_cons_succ, i64_w, i32_w]
  rfl
 refine pure_ (i := 7) (N := some 26) (v := ?_) (a' := ?_) #[true, true, true, true, true, true, true, true, false] rfl rfl (any_of HT_.out kk) (fun _ _ _ h => h) (Or.inl ⟨by rfl, ?_⟩) ?_ ?_
 rotate_left
 ·intro w'
  go_simp
  with_reducible rfl
 rotate_left
 ·simp only [Act.put, List.setIfInBounds_toArray, List.set_cons_zero, List.set_cons_succ, i64_w, i32_w]
  rfl
 refine pure_ (i := 8) (N := some 8) (v := ?_) (a' := ?_) #[true, true, true, true, true, true, true, true, true] rfl rfl (any_of HT_.out kk) (fun _ _ _ h => h) (Or.inl ⟨by rfl, ?_⟩) ?_ ?_
 rotate_left
 ·intro w'
  go_simp
  with_reducible rfl
 rotate_left
 ·simp only [Act.put, List.setIfInBounds_toArray, List.set_cons_zero, List.set_cons_succ, i64_w, i32_w]
  rfl
 refine done_ (done_of HT_.out kk) ?_
 try go_wp2
 go_ret
 exact ⟨pe, pw⟩

/-! ### R2_common: function 60 -/
mutual
def R2_common.j0 : Nat → Int → Int → Option (Int)
 | 0, _, _ => none
 | k + 1, x0, x1 => if x1 < 0 then (R2_common.j1 k x0 (wrap64 (-x1))) else (R2_common.j1 k x0 x1)
def R2_common.j1 : Nat → Int → Int → Option (Int)
 | 0, _, _ => none
 | k + 1, x0, x1 => R2_common.l0 k x0 x1
def R2_common.l0 : Nat → Int → Int → Option (Int)
 | 0, _, _ => none
 | k + 1, x0, x1 => if x1 > 0 then (if x1 = 0 then (none) else (R2_common.l0 k x1 (Int.tmod x0 x1))) else (some x0)
end
def R2_common.f (k : Nat) (a0 : Int) (a1 : Int) : Option (Int) := if a0 < 0 then (R2_common.j0 k (wrap64 (-a0)) a1) else (R2_common.j0 k a0 a1)
theorem R2_common.mono_l : ∀ k, (∀ y0 y1, LeO (R2_common.j0 k y0 y1) (R2_common.j0 (k + 1) y0 y1)) ∧ (∀ y0 y1, LeO (R2_common.j1 k y0 y1) (R2_common.j1 (k + 1) y0 y1)) ∧ (∀ y0 y1, LeO (R2_common.l0 k y0 y1) (R2_common.l0 (k + 1) y0 y1))
 | 0 => ⟨fun _ _ r h => by simp [R2_common.j0] at h, fun _ _ r h => by simp [R2_common.j1] at h, fun _ _ r h => by simp [R2_common.l0] at h⟩
 | k + 1 => by
  obtain ⟨ih0, ih1, ih2⟩ := R2_common.mono_l k
  refine ⟨?_, ?_, ?_⟩
  ·intro y0 y1
   unfold R2_common.j0
   repeat' first
   | (with_reducible exact ih0 _ _)
   | (with_reducible exact ih1 _ _)
   | (with_reducible exact ih2 _ _)
   | (with_reducible exact LeO.refl _)
   | (with_reducible exact LeO.none _)
   | (with_reducible refine LeO.ite ?_ ?_)
   | (with_reducible refine LeO.bind ?_ (fun _ => ?_))
   | exact ih0 _ _
   | exact ih1 _ _
   | exact ih2 _ _
   | exact LeO.none _
   | refine LeO.ite ?_ ?_
   | refine LeO.bind ?_ (fun _ => ?_)
  ·intro y0 y1
   unfold R2_common.j1
   repeat' first
   | (with_reducible exact ih0 _ _)
   | (with_reducible exact ih1 _ _)
   | (with_reducible exact ih2 _ _)
   | (with_reducible exact LeO.refl _)
   | (with_reducible exact LeO.none _)
   | (with_reducible refine LeO.ite ?_ ?_)
   | (with_reducible refine LeO.bind ?_ (fun _ => ?_))
   | exact ih0 _ _
   | exact ih1 _ _
   | exact ih2 _ _
   | exact LeO.none _
   | refine LeO.ite ?_ ?_
   | refine LeO.bind ?_ (fun _ => ?_)
  intro y0 y1
  unfold R2_common.l0
  repeat' first
  | (with_reducible exact ih0 _ _)
  | (with_reducible exact ih1 _ _)
  | (with_reducible exact ih2 _ _)
  | (with_reducible exact LeO.refl _)
  | (with_reducible exact LeO.none _)
  | (with_reducible refine LeO.ite ?_ ?_)
  | (with_reducible refine LeO.bind ?_ (fun _ => ?_))
  | exact ih0 _ _
  | exact ih1 _ _
  | exact ih2 _ _
  | exact LeO.none _
  | refine LeO.ite ?_ ?_
  | refine LeO.bind ?_ (fun _ => ?_)
theorem R2_common.mono : ∀ a0 a1 k, LeO (R2_common.f k a0 a1) (R2_common.f (k + 1) a0 a1) := by
 intro a0 a1 k
 obtain ⟨ih0, ih1, ih2⟩ := R2_common.mono_l k
 unfold R2_common.f
 repeat' first
   | (with_reducible exact ih0 _ _)
   | (with_reducible exact ih1 _ _)
   | (with_reducible exact ih2 _ _)
   | (with_reducible exact LeO.refl _)
   | (with_reducible exact LeO.none _)
   | (with_reducible refine LeO.ite ?_ ?_)
   | (with_reducible refine LeO.bind ?_ (fun _ => ?_))
   | exact ih0 _ _
   | exact ih1 _ _
   | exact ih2 _ _
   | exact LeO.none _
   | refine LeO.ite ?_ ?_
   | refine LeO.bind ?_ (fun _ => ?_)
set_option maxHeartbeats 8000000 in
set_option maxRecDepth 100000 in
theorem R2_common.calls [EA] (k : Nat) (a0 : Int) (a1 : Int) (r : Int) (w : World) (h : R2_common.f k a0 a1 = some r) :
  Calls Tryd.prog 60 #[.int .i64 a0, .int .i64 a1] w fun e w' => e = .returned (.int .i64 r) ∧ Drawn0 w w' := by
 have H : (if a0 < 0 then (R2_common.j0 k (wrap64 (-a0)) a1) else (R2_common.j0 k a0 a1)) = some r := h
 clear h
 have HC3 := am H
 clear H
 go_enter Tryd.func60, Tryd.ntmps60
 go_upto_if 6 with (fail)
 repeat (go_quiet (fail); go_upto_if 6 with (fail))
 go_cut [0] (fun v0 wc => ∃ (kq : Nat) (x0_2 : Int), v0 = .int .i64 x0_2 ∧ Aside0 (R2_common.j0 kq x0_2 a1 = some r) ∧ Aside0 (kq ≤ k) ∧ Drawn0 w wc)
 case first =>
  have H := HC3.out
  clear HC3
  by_cases c4 : a0 < 0
  ·rw [if_pos c4] at H
   have c4b0 : decide (a0 < 0) = true := decide_eq_true c4
   clear c4
   (first | rw [c4b0] | (simp only [i64_w, i32_w]; rw [c4b0]) | skip)
   have H' := am H
   clear H
   go_wp2
   repeat (go_quiet (fail); try go_wp2)
   go_meet
   case rel => exact ⟨_, (wrap64 (-a0)), pr, H', ⟨by first | omega | exact Nat.le_refl _⟩, by repeat (first | exact Drawn0.refl _ | apply Drawn0.step)⟩
  rw [if_neg c4] at H
  have c4b0 : decide (a0 < 0) = false := decide_eq_false c4
  clear c4
  (first | rw [c4b0] | (simp only [i64_w, i32_w]; rw [c4b0]) | skip)
  have H' := am H
  clear H
  go_wp2
  repeat (go_quiet (fail); try go_wp2)
  go_meet
  case rel => exact ⟨_, (a0), pr, H', ⟨by first | omega | exact Nat.le_refl _⟩, by repeat (first | exact Drawn0.refl _ | apply Drawn0.step)⟩
 clear HC3
 try clear p2
 try clear c4
 try clear c4b0
 obtain ⟨kq, x0_2, rfl, HA, HJ2, ⟨mc2, rfl⟩⟩ := hcut
 cases kq with
 | zero => exact absurd HA.out (by simp [R2_common.j0])
 | succ kj2 =>
  have H := HA.out
  clear HA
  simp only [R2_common.j0] at H
  have HC5 := am H
  clear H
  go_upto_if 10 with (fail)
  repeat (go_quiet (fail); go_upto_if 10 with (fail))
  go_cut [1] (fun v1 wc => ∃ (kq : Nat) (x1_4 : Int), v1 = .int .i64 x1_4 ∧ Aside0 (R2_common.j1 kq x0_2 x1_4 = some r) ∧ Aside0 (kq ≤ kj2) ∧ Drawn0 w wc)
  case first =>
   have H := HC5.out
   clear HC5
   by_cases c6 : a1 < 0
   ·rw [if_pos c6] at H
    have c6b0 : decide (a1 < 0) = true := decide_eq_true c6
    clear c6
    (first | rw [c6b0] | (simp only [i64_w, i32_w]; rw [c6b0]) | skip)
    have H' := am H
    clear H
    go_wp2
    repeat (go_quiet (fail); try go_wp2)
    go_meet
    case rel => exact ⟨_, (wrap64 (-a1)), pr, H', ⟨by have := HJ2.out; first | omega | exact Nat.le_refl _⟩, by repeat (first | exact Drawn0.refl _ | apply Drawn0.step)⟩
   rw [if_neg c6] at H
   have c6b0 : decide (a1 < 0) = false := decide_eq_false c6
   clear c6
   (first | rw [c6b0] | (simp only [i64_w, i32_w]; rw [c6b0]) | skip)
   have H' := am H
   clear H
   go_wp2
   repeat (go_quiet (fail); try go_wp2)
   go_meet
   case rel => exact ⟨_, (a1), pr, H', ⟨by have := HJ2.out; first | omega | exact Nat.le_refl _⟩, by repeat (first | exact Drawn0.refl _ | apply Drawn0.step)⟩
  clear HC5
  try clear c2
  try clear p2
  try clear c4
  try clear c4b0
  try clear c6
  try clear c6b0
  try clear p6
  try clear p2
  obtain ⟨kq, x1_4, rfl, HA, HJ4, ⟨mc4, rfl⟩⟩ := hcut
  cases kq with
  | zero => exact absurd HA.out (by simp [R2_common.j1])
  | succ kj4 =>
   have H := HA.out
   clear HA
   simp only [R2_common.j1] at H
   have H' := am H
   clear H
   go_wp2
   repeat (go_quiet (fail); try go_wp2)
   go_loopg [0, 1] kj4 (fun kq v0 v1 w' => ∃ (x0_3 : Int) (x1_3 : Int), v0 = .int .i64 x0_3 ∧ v1 = .int .i64 x1_3 ∧ Aside0 (R2_common.l0 kq x0_3 x1_3 = some r) ∧ Aside0 (kq ≤ kj4) ∧ Drawn0 w w')
   case atStart => exact ⟨(x0_2), (x1_4), pr, pr, H', ⟨Nat.le_refl _⟩, by repeat (first | exact Drawn0.refl _ | apply Drawn0.step)⟩
   case round =>
    clear H'
    try clear c2
    try clear p2
    try clear c4
    try clear c4b0
    try clear c6
    try clear c6b0
    try clear p6
    try clear p2
    try clear p6
    obtain ⟨x0_3, x1_3, rfl, rfl, HA, HK3, ⟨m3, rfl⟩⟩ := hrel
    cases gk with
    | zero => exact absurd HA.out (by simp [R2_common.l0])
    | succ k3 =>
     have H := HA.out
     clear HA
     simp only [R2_common.l0] at H
     by_cases c7 : x1_3 > 0
     ·rw [if_pos c7] at H
      have c7b0 : decide (0 < x1_3) = true := decide_eq_true c7
      clear c7
      by_cases c8 : x1_3 = 0
      ·rw [if_pos c8] at H
       exact absurd H (by simp)
      rw [if_neg c8] at H
      have c8b0 : (x1_3 == 0) = false := beq_eq_false_iff_ne.mpr c8
      have c8b1 : (x1_3 != 0) = true := bne_iff_ne.mpr c8
      have H' := am H
      clear H
      go_wp2
      repeat (go_quiet (fail); try go_wp2)
      go_roundg k3
      case measure => have := HJ2.out; have := HJ4.out; have := HK3.out; omega
      case rel => exact ⟨(x1_3), (Int.tmod x0_3 x1_3), pr, pr, H', ⟨by have := HJ2.out; have := HJ4.out; have := HK3.out; omega⟩, by repeat (first | exact Drawn0.refl _ | apply Drawn0.step)⟩
     rw [if_neg c7] at H
     have c7b0 : decide (0 < x1_3) = false := decide_eq_false c7
     clear c7
     obtain rfl := Option.some.inj H
     go_wp2
     repeat (go_quiet (fail); try go_wp2)
     go_ret
     exact ⟨by first | rfl | (simp; done) | (simp [*]; done), by repeat (first | exact Drawn0.refl _ | apply Drawn0.step)⟩

end Go.Proofs.YtimgfgambeffeaaDoor.C
