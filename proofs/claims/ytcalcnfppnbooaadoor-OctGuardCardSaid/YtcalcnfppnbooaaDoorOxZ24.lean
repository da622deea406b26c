import Derived.Test.YtcalcnfppnbooaaDoorOxSp
import Derived.Test.YtcalcnfppnbooaaDoorOxEb
import Derived.Test.YtcalcnfppnbooaaDoorOxZ0
import Derived.Test.YtcalcnfppnbooaaDoorOxZ2
import Derived.Test.YtcalcnfppnbooaaDoorOxZ4
import Derived.Test.YtcalcnfppnbooaaDoorOxZ23
-- Written by wip/xprint.py (the session's program over the kit's print).
namespace Go.Proofs.YtcalcnfppnbooaaDoor.Z
open Go.RowKit Go.Proofs.YtcalcnfppnbooaaDoorW.PrintWords Go.Proofs.YtcalcnfppnbooaaDoorW.PrintLast Go.Proofs.YtcalcnfppnbooaaDoorW.PrintMore Go.Proofs.Rcg
attribute [local go_sem] max2_int min2_int max_two min_two max_three min_three max_four min_four   -- for this text's walks alone
set_option linter.unusedVariables false
set_option linter.unusedSimpArgs false

attribute [local go_sem high] eqA67
/-! ### R2_OctError: function 42 -/
mutual
def R2_OctError.l0 : Nat → Int → Int → Int → List (S67) → Option (Int)
 | 0, _, _, _, _ => none
 | k + 1, x4, x5, x661000, x661001 => if x5 < x4 then (R2_OctError.l1 k x4 x5 0 x661000 x661001) else (some 0)
def R2_OctError.l1 : Nat → Int → Int → Int → Int → List (S67) → Option (Int)
 | 0, _, _, _, _, _ => none
 | k + 1, x4, x5, x6, x661000, x661001 => if x6 < x4 then (if 0 ≤ (wrap64 ((wrap64 (x5 * x4)) + x6)) then (if (wrap64 ((wrap64 (x5 * x4)) + x6)) < (x661001.length : Int) then ((R2_other.f x6).bind fun t663 => ((R2_other.f x5).bind fun t664 => (if 0 ≤ (wrap64 ((wrap64 (t663 * x4)) + t664)) then (if (wrap64 ((wrap64 (t663 * x4)) + t664)) < (x661001.length : Int) then (if (!(((rd_T67 x661001 (wrap64 ((wrap64 (x5 * x4)) + x6))).f0) == ((rd_T67 x661001 (wrap64 ((wrap64 (t663 * x4)) + t664))).f0)) || (!(((rd_T67 x661001 (wrap64 ((wrap64 (x5 * x4)) + x6))).f1) == ((rd_T67 x661001 (wrap64 ((wrap64 (t663 * x4)) + t664))).f1)))) = true then (some 7) else (R2_OctError.l1 k x4 x5 (wrap64 (x6 + 1)) x661000 x661001)) else (none)) else (none)))) else (none)) else (none)) else (R2_OctError.l0 k x4 (wrap64 (x5 + 1)) x661000 x661001)
end
def R2_OctError.f (k : Nat) (a0_0 : Int) (l0_1 : List (S67)) : Option (Int) := (R2_cellsError.f k a0_0 l0_1 (wrap64 ((wrap64 (4 * a0_0)) * a0_0))).bind fun t661 => (if t661 > 0 then (some t661) else (R2_OctError.l0 k (wrap64 (2 * a0_0)) 0 a0_0 l0_1))
theorem R2_OctError.mono_l : ∀ k, (∀ y0 y1 y2 y3, LeO (R2_OctError.l0 k y0 y1 y2 y3) (R2_OctError.l0 (k + 1) y0 y1 y2 y3)) ∧ (∀ y0 y1 y2 y3 y4, LeO (R2_OctError.l1 k y0 y1 y2 y3 y4) (R2_OctError.l1 (k + 1) y0 y1 y2 y3 y4))
 | 0 => ⟨fun _ _ _ _ r h => by simp [R2_OctError.l0] at h, fun _ _ _ _ _ r h => by simp [R2_OctError.l1] at h⟩
 | k + 1 => by
  obtain ⟨ih0, ih1⟩ := R2_OctError.mono_l k
  refine ⟨?_, ?_⟩
  ·intro y0 y1 y2 y3
   unfold R2_OctError.l0
   repeat' first
   | (with_reducible exact ih0 _ _ _ _)
   | (with_reducible exact ih1 _ _ _ _ _)
   | (with_reducible exact R2_cellsError.mono _ _ _ _)
   | (with_reducible exact LeO.refl _)
   | (with_reducible exact LeO.none _)
   | (with_reducible refine LeO.ite ?_ ?_)
   | (with_reducible refine LeO.bind ?_ (fun _ => ?_))
   | exact ih0 _ _ _ _
   | exact ih1 _ _ _ _ _
   | exact R2_cellsError.mono _ _ _ _
   | exact LeO.none _
   | refine LeO.ite ?_ ?_
   | refine LeO.bind ?_ (fun _ => ?_)
  intro y0 y1 y2 y3 y4
  unfold R2_OctError.l1
  repeat' first
  | (with_reducible exact ih0 _ _ _ _)
  | (with_reducible exact ih1 _ _ _ _ _)
  | (with_reducible exact R2_cellsError.mono _ _ _ _)
  | (with_reducible exact LeO.refl _)
  | (with_reducible exact LeO.none _)
  | (with_reducible refine LeO.ite ?_ ?_)
  | (with_reducible refine LeO.bind ?_ (fun _ => ?_))
  | exact ih0 _ _ _ _
  | exact ih1 _ _ _ _ _
  | exact R2_cellsError.mono _ _ _ _
  | exact LeO.none _
  | refine LeO.ite ?_ ?_
  | refine LeO.bind ?_ (fun _ => ?_)
theorem R2_OctError.mono : ∀ a0 a1 k, LeO (R2_OctError.f k a0 a1) (R2_OctError.f (k + 1) a0 a1) := by
 intro a0 a1 k
 obtain ⟨ih0, ih1⟩ := R2_OctError.mono_l k
 unfold R2_OctError.f
 repeat' first
   | (with_reducible exact ih0 _ _ _ _)
   | (with_reducible exact ih1 _ _ _ _ _)
   | (with_reducible exact R2_cellsError.mono _ _ _ _)
   | (with_reducible exact LeO.refl _)
   | (with_reducible exact LeO.none _)
   | (with_reducible refine LeO.ite ?_ ?_)
   | (with_reducible refine LeO.bind ?_ (fun _ => ?_))
   | exact ih0 _ _ _ _
   | exact ih1 _ _ _ _ _
   | exact R2_cellsError.mono _ _ _ _
   | exact LeO.none _
   | refine LeO.ite ?_ ?_
   | refine LeO.bind ?_ (fun _ => ?_)
set_option maxHeartbeats 8000000 in
set_option maxRecDepth 100000 in
theorem R2_OctError.calls [EA] (k : Nat) (a0_0 : Int) (A0_1 : Option Addr) (c0_1 : Nat) (l0_1 : List (S67)) (r : Int) (w : World) (hr0_1 : Kd.C k67 w A0_1 l0_1.length l0_1) (hc0_1 : l0_1.length ≤ c0_1) (h : R2_OctError.f k a0_0 l0_1 = some r) :
  Calls Tryd.prog 42 #[.agg #[.int .i64 a0_0, .slice A0_1 l0_1.length c0_1]] w fun e w' => e = .returned (.int .i64 r) ∧ Below w.heap.size w w' := by
 have hu70 := Tryd.underlying70
 have hu67 := Tryd.underlying67
 have HR0_1 := am hr0_1
 have HC0_1 := am hc0_1
 clear hr0_1 hc0_1
 have HB := am (Below.refl w.heap.size w)
 have H : ((R2_cellsError.f k a0_0 l0_1 (wrap64 ((wrap64 (4 * a0_0)) * a0_0))).bind fun t661 => (if t661 > 0 then (some t661) else (R2_OctError.l0 k (wrap64 (2 * a0_0)) 0 a0_0 l0_1))) = some r := h
 clear h
 replace H := Option.bind_eq_some_iff.mp H
 obtain ⟨t661, A20, H⟩ := H
 replace H : (if t661 > 0 then (some t661) else (R2_OctError.l0 k (wrap64 (2 * a0_0)) 0 a0_0 l0_1)) = some r := H
 have A2 := am A20
 clear A20
 by_cases c3 : t661 > 0
 ·rw [if_pos c3] at H
  have c3b0 : decide (0 < t661) = true := decide_eq_true c3
  clear c3
  obtain rfl := Option.some.inj H
  go_enter Tryd.func42, Tryd.ntmps42
  go_wp2_with (first | ((with_reducible refine gate_dst (N := 1) rfl ?_); refine box_event ?hg (N := 1) ?hd (cs := #[.int .i64 a0_0, .slice A0_1 l0_1.length c0_1]) (t := 70) ?hr ?_; (case hd => rfl); (case hg => rfl); (case hr => first | (go_simp; done) | (go_simp; rfl)); intro gb660 hg w4 hbox hb; have n0_ := am (below_step pw hb); have n1_ := am (hbox); have n2_ := am (sz (w := w) hg pw); have n3_ := am (sz (w := w) hg pw); clear HB; revert n0_ n1_ n2_ n3_; intro HB BK660 GW660 GE660; clear hb hbox hg; have hcz5_0 : w4.cell? ⟨gb660, 0, none⟩ = some (.int .i64 a0_0) := bc BK660 0; have hcz5_1 : w4.cell? ⟨gb660, 1, none⟩ = some (.slice A0_1 l0_1.length c0_1) := bc BK660 1; have hfz5_0 := blk_frozen BK660.out 0; have hfz5_1 := blk_frozen BK660.out 1) | (go_at_call 81; (with_reducible refine (R2_cellsError.calls k a0_0 _ _ l0_1 (wrap64 ((wrap64 (4 * a0_0)) * a0_0)) t661 _ ?side1 ?side2 A2.out).mono ?_); (case side1 => repeat (first | exact (Kd.C_below HR0_1.out HB.out) | (with_reducible refine Kd.C_alloc ?_ _) | (with_reducible refine Kd.C_drewN ?_ _) | (with_reducible refine Kd.C_drew ?_))); (case side2 => exact HC0_1.out); rintro e w' ⟨rfl, ⟨nd, rfl⟩⟩; (try first | exact ⟨rfl, _, World.drewN_drewN _ _ _⟩ | exact ⟨rfl, _, Eq.trans (World.drewN_drewN _ _ _) (congrArg (World.drewN _) (Nat.add_assoc _ _ _))⟩)))
  repeat (go_quiet (first | ((with_reducible refine gate_dst (N := 1) rfl ?_); refine box_event ?hg (N := 1) ?hd (cs := #[.int .i64 a0_0, .slice A0_1 l0_1.length c0_1]) (t := 70) ?hr ?_; (case hd => rfl); (case hg => rfl); (case hr => first | (go_simp; done) | (go_simp; rfl)); intro gb660 hg w4 hbox hb; have n0_ := am (below_step pw hb); have n1_ := am (hbox); have n2_ := am (sz (w := w) hg pw); have n3_ := am (sz (w := w) hg pw); clear HB; revert n0_ n1_ n2_ n3_; intro HB BK660 GW660 GE660; clear hb hbox hg; have hcz5_0 : w4.cell? ⟨gb660, 0, none⟩ = some (.int .i64 a0_0) := bc BK660 0; have hcz5_1 : w4.cell? ⟨gb660, 1, none⟩ = some (.slice A0_1 l0_1.length c0_1) := bc BK660 1; have hfz5_0 := blk_frozen BK660.out 0; have hfz5_1 := blk_frozen BK660.out 1) | (go_at_call 81; (with_reducible refine (R2_cellsError.calls k a0_0 _ _ l0_1 (wrap64 ((wrap64 (4 * a0_0)) * a0_0)) t661 _ ?side1 ?side2 A2.out).mono ?_); (case side1 => repeat (first | exact (Kd.C_below HR0_1.out HB.out) | (with_reducible refine Kd.C_alloc ?_ _) | (with_reducible refine Kd.C_drewN ?_ _) | (with_reducible refine Kd.C_drew ?_))); (case side2 => exact HC0_1.out); rintro e w' ⟨rfl, ⟨nd, rfl⟩⟩; (try first | exact ⟨rfl, _, World.drewN_drewN _ _ _⟩ | exact ⟨rfl, _, Eq.trans (World.drewN_drewN _ _ _) (congrArg (World.drewN _) (Nat.add_assoc _ _ _))⟩))); try go_wp2_with (first | ((with_reducible refine gate_dst (N := 1) rfl ?_); refine box_event ?hg (N := 1) ?hd (cs := #[.int .i64 a0_0, .slice A0_1 l0_1.length c0_1]) (t := 70) ?hr ?_; (case hd => rfl); (case hg => rfl); (case hr => first | (go_simp; done) | (go_simp; rfl)); intro gb660 hg w4 hbox hb; have n0_ := am (below_step pw hb); have n1_ := am (hbox); have n2_ := am (sz (w := w) hg pw); have n3_ := am (sz (w := w) hg pw); clear HB; revert n0_ n1_ n2_ n3_; intro HB BK660 GW660 GE660; clear hb hbox hg; have hcz5_0 : w4.cell? ⟨gb660, 0, none⟩ = some (.int .i64 a0_0) := bc BK660 0; have hcz5_1 : w4.cell? ⟨gb660, 1, none⟩ = some (.slice A0_1 l0_1.length c0_1) := bc BK660 1; have hfz5_0 := blk_frozen BK660.out 0; have hfz5_1 := blk_frozen BK660.out 1) | (go_at_call 81; (with_reducible refine (R2_cellsError.calls k a0_0 _ _ l0_1 (wrap64 ((wrap64 (4 * a0_0)) * a0_0)) t661 _ ?side1 ?side2 A2.out).mono ?_); (case side1 => repeat (first | exact (Kd.C_below HR0_1.out HB.out) | (with_reducible refine Kd.C_alloc ?_ _) | (with_reducible refine Kd.C_drewN ?_ _) | (with_reducible refine Kd.C_drew ?_))); (case side2 => exact HC0_1.out); rintro e w' ⟨rfl, ⟨nd, rfl⟩⟩; (try first | exact ⟨rfl, _, World.drewN_drewN _ _ _⟩ | exact ⟨rfl, _, Eq.trans (World.drewN_drewN _ _ _) (congrArg (World.drewN _) (Nat.add_assoc _ _ _))⟩))))
  go_ret
  exact ⟨pe, pw⟩
 rw [if_neg c3] at H
 have c3b0 : decide (0 < t661) = false := decide_eq_false c3
 clear c3
 have H' := am H
 clear H
 go_enter Tryd.func42, Tryd.ntmps42
 go_wp2_with (first | ((with_reducible refine gate_dst (N := 1) rfl ?_); refine box_event ?hg (N := 1) ?hd (cs := #[.int .i64 a0_0, .slice A0_1 l0_1.length c0_1]) (t := 70) ?hr ?_; (case hd => rfl); (case hg => rfl); (case hr => first | (go_simp; done) | (go_simp; rfl)); intro gb660 hg w6 hbox hb; have n0_ := am (below_step pw hb); have n1_ := am (hbox); have n2_ := am (sz (w := w) hg pw); have n3_ := am (sz (w := w) hg pw); clear HB; revert n0_ n1_ n2_ n3_; intro HB BK660 GW660 GE660; clear hb hbox hg; have hcz7_0 : w6.cell? ⟨gb660, 0, none⟩ = some (.int .i64 a0_0) := bc BK660 0; have hcz7_1 : w6.cell? ⟨gb660, 1, none⟩ = some (.slice A0_1 l0_1.length c0_1) := bc BK660 1; have hfz7_0 := blk_frozen BK660.out 0; have hfz7_1 := blk_frozen BK660.out 1) | (go_at_call 81; (with_reducible refine (R2_cellsError.calls k a0_0 _ _ l0_1 (wrap64 ((wrap64 (4 * a0_0)) * a0_0)) t661 _ ?side1 ?side2 A2.out).mono ?_); (case side1 => repeat (first | exact (Kd.C_below HR0_1.out HB.out) | (with_reducible refine Kd.C_alloc ?_ _) | (with_reducible refine Kd.C_drewN ?_ _) | (with_reducible refine Kd.C_drew ?_))); (case side2 => exact HC0_1.out); rintro e w' ⟨rfl, ⟨nd, rfl⟩⟩; (try first | exact ⟨rfl, _, World.drewN_drewN _ _ _⟩ | exact ⟨rfl, _, Eq.trans (World.drewN_drewN _ _ _) (congrArg (World.drewN _) (Nat.add_assoc _ _ _))⟩)))
 repeat (go_quiet (first | ((with_reducible refine gate_dst (N := 1) rfl ?_); refine box_event ?hg (N := 1) ?hd (cs := #[.int .i64 a0_0, .slice A0_1 l0_1.length c0_1]) (t := 70) ?hr ?_; (case hd => rfl); (case hg => rfl); (case hr => first | (go_simp; done) | (go_simp; rfl)); intro gb660 hg w6 hbox hb; have n0_ := am (below_step pw hb); have n1_ := am (hbox); have n2_ := am (sz (w := w) hg pw); have n3_ := am (sz (w := w) hg pw); clear HB; revert n0_ n1_ n2_ n3_; intro HB BK660 GW660 GE660; clear hb hbox hg; have hcz7_0 : w6.cell? ⟨gb660, 0, none⟩ = some (.int .i64 a0_0) := bc BK660 0; have hcz7_1 : w6.cell? ⟨gb660, 1, none⟩ = some (.slice A0_1 l0_1.length c0_1) := bc BK660 1; have hfz7_0 := blk_frozen BK660.out 0; have hfz7_1 := blk_frozen BK660.out 1) | (go_at_call 81; (with_reducible refine (R2_cellsError.calls k a0_0 _ _ l0_1 (wrap64 ((wrap64 (4 * a0_0)) * a0_0)) t661 _ ?side1 ?side2 A2.out).mono ?_); (case side1 => repeat (first | exact (Kd.C_below HR0_1.out HB.out) | (with_reducible refine Kd.C_alloc ?_ _) | (with_reducible refine Kd.C_drewN ?_ _) | (with_reducible refine Kd.C_drew ?_))); (case side2 => exact HC0_1.out); rintro e w' ⟨rfl, ⟨nd, rfl⟩⟩; (try first | exact ⟨rfl, _, World.drewN_drewN _ _ _⟩ | exact ⟨rfl, _, Eq.trans (World.drewN_drewN _ _ _) (congrArg (World.drewN _) (Nat.add_assoc _ _ _))⟩))); try go_wp2_with (first | ((with_reducible refine gate_dst (N := 1) rfl ?_); refine box_event ?hg (N := 1) ?hd (cs := #[.int .i64 a0_0, .slice A0_1 l0_1.length c0_1]) (t := 70) ?hr ?_; (case hd => rfl); (case hg => rfl); (case hr => first | (go_simp; done) | (go_simp; rfl)); intro gb660 hg w6 hbox hb; have n0_ := am (below_step pw hb); have n1_ := am (hbox); have n2_ := am (sz (w := w) hg pw); have n3_ := am (sz (w := w) hg pw); clear HB; revert n0_ n1_ n2_ n3_; intro HB BK660 GW660 GE660; clear hb hbox hg; have hcz7_0 : w6.cell? ⟨gb660, 0, none⟩ = some (.int .i64 a0_0) := bc BK660 0; have hcz7_1 : w6.cell? ⟨gb660, 1, none⟩ = some (.slice A0_1 l0_1.length c0_1) := bc BK660 1; have hfz7_0 := blk_frozen BK660.out 0; have hfz7_1 := blk_frozen BK660.out 1) | (go_at_call 81; (with_reducible refine (R2_cellsError.calls k a0_0 _ _ l0_1 (wrap64 ((wrap64 (4 * a0_0)) * a0_0)) t661 _ ?side1 ?side2 A2.out).mono ?_); (case side1 => repeat (first | exact (Kd.C_below HR0_1.out HB.out) | (with_reducible refine Kd.C_alloc ?_ _) | (with_reducible refine Kd.C_drewN ?_ _) | (with_reducible refine Kd.C_drew ?_))); (case side2 => exact HC0_1.out); rintro e w' ⟨rfl, ⟨nd, rfl⟩⟩; (try first | exact ⟨rfl, _, World.drewN_drewN _ _ _⟩ | exact ⟨rfl, _, Eq.trans (World.drewN_drewN _ _ _) (congrArg (World.drewN _) (Nat.add_assoc _ _ _))⟩))))
 go_loopg [5] k (fun kq v5 w' => ∃ (x5_1 : Int), v5 = .int .i64 x5_1 ∧ Aside0 (R2_OctError.l0 kq (wrap64 (2 * a0_0)) x5_1 a0_0 l0_1 = some r) ∧ Aside0 (kq ≤ k) ∧ Aside0 (w'.heap[gb660]? = some (.cells #[.int .i64 a0_0, (.slice A0_1 l0_1.length c0_1)] 70 (0, 0))) ∧ Aside0 (Below w.heap.size w w'))
 case atStart => exact ⟨(0), pr, H', ⟨Nat.le_refl _⟩, ⟨pk⟩, ⟨pw⟩⟩
 case round =>
  clear H'
  (try clear p2)
  (try clear c3)
  (try clear c3b0)
  (try clear c4)
  (try clear p6)
  (try clear hcz5_0)
  (try clear hcz5_1)
  (try clear hcz7_0)
  (try clear hcz7_1)
  (try clear hfz5_0)
  (try clear hfz5_1)
  (try clear hfz7_0)
  (try clear hfz7_1)
  obtain ⟨x5_1, rfl, HA, HK1, BK660, HB⟩ := hrel
  cases gk with
  | zero => exact absurd HA.out (by simp [R2_OctError.l0])
  | succ k1 =>
   have H := HA.out; clear HA; simp only [R2_OctError.l0] at H; by_cases c8 : x5_1 < (wrap64 (2 * a0_0))
   ·rw [if_pos c8] at H
    have c8b0 : decide (x5_1 < (wrap64 (2 * a0_0))) = true := decide_eq_true c8; clear c8; have H' := am H; clear H; go_wp2
    repeat (go_quiet (fail); try go_wp2)
    go_loopg [6] k1 (fun kq v6 w' => ∃ (x6_2 : Int), v6 = .int .i64 x6_2 ∧ Aside0 (R2_OctError.l1 kq (wrap64 (2 * a0_0)) x5_1 x6_2 a0_0 l0_1 = some r) ∧ Aside0 (kq ≤ k1) ∧ Aside0 (w'.heap[gb660]? = some (.cells #[.int .i64 a0_0, (.slice A0_1 l0_1.length c0_1)] 70 (0, 0))) ∧ Aside0 (Below w.heap.size w w'))
    case atStart => exact ⟨(0), pr, H', ⟨Nat.le_refl _⟩, ⟨pk⟩, ⟨pw⟩⟩
    case round =>
     clear H'; (try clear p2); (try clear c3); (try clear c3b0); (try clear c4); (try clear p6); (try clear c8); (try clear c8b0); (try clear hcz5_0); (try clear hcz5_1); (try clear hcz7_0); (try clear hcz7_1); (try clear hfz5_0); (try clear hfz5_1); (try clear hfz7_0); (try clear hfz7_1); (try clear p2); (try clear p6); obtain ⟨x6_2, rfl, HA, HK2, BK660, HB⟩ := hrel; cases gk with
     | zero => exact absurd HA.out (by simp [R2_OctError.l1])
     | succ k2 =>
      have H := HA.out; clear HA; simp only [R2_OctError.l1] at H; by_cases c9 : x6_2 < (wrap64 (2 * a0_0))
      ·rw [if_pos c9] at H
       have c9b0 : decide (x6_2 < (wrap64 (2 * a0_0))) = true := decide_eq_true c9; clear c9; obtain ⟨ji10, hji10⟩ : ∃ j_ : Int, (wrap64 ((wrap64 (x5_1 * (wrap64 (2 * a0_0)))) + x6_2)) = j_ := ⟨_, rfl⟩
       replace H : (if 0 ≤ (ji10) then (if (ji10) < (l0_1.length : Int) then ((R2_other.f x6_2).bind fun t663 => ((R2_other.f x5_1).bind fun t664 => (if 0 ≤ (wrap64 ((wrap64 (t663 * (wrap64 (2 * a0_0)))) + t664)) then (if (wrap64 ((wrap64 (t663 * (wrap64 (2 * a0_0)))) + t664)) < (l0_1.length : Int) then (if (!(((rd_T67 l0_1 (ji10)).f0) == ((rd_T67 l0_1 (wrap64 ((wrap64 (t663 * (wrap64 (2 * a0_0)))) + t664))).f0)) || (!(((rd_T67 l0_1 (ji10)).f1) == ((rd_T67 l0_1 (wrap64 ((wrap64 (t663 * (wrap64 (2 * a0_0)))) + t664))).f1)))) = true then (some 7) else (R2_OctError.l1 k2 (wrap64 (2 * a0_0)) x5_1 (wrap64 (x6_2 + 1)) a0_0 l0_1)) else (none)) else (none)))) else (none)) else (none)) = some r := by first | (rw [hji10] at H; exact H) | (simp only [hji10] at H ⊢; exact H)
       have hji10w : (IntKind.i64.wrap ((wrap64 (x5_1 * (wrap64 (2 * a0_0)))) + x6_2)) = ji10 := (i64_w _).trans hji10; by_cases c11 : 0 ≤ (ji10)
       ·rw [if_pos c11] at H
        have c11b0 : decide (0 ≤ (ji10)) = true := decide_eq_true c11; clear c11; by_cases c12 : (ji10) < (l0_1.length : Int)
        ·rw [if_pos c12] at H
         have c12b0 : decide ((ji10) < (l0_1.length : Int)) = true := decide_eq_true c12; clear c12; replace H := Option.bind_eq_some_iff.mp H; obtain ⟨t663, A130, H⟩ := H; replace H : ((R2_other.f x5_1).bind fun t664 => (if 0 ≤ (wrap64 ((wrap64 (t663 * (wrap64 (2 * a0_0)))) + t664)) then (if (wrap64 ((wrap64 (t663 * (wrap64 (2 * a0_0)))) + t664)) < (l0_1.length : Int) then (if (!(((rd_T67 l0_1 (ji10)).f0) == ((rd_T67 l0_1 (wrap64 ((wrap64 (t663 * (wrap64 (2 * a0_0)))) + t664))).f0)) || (!(((rd_T67 l0_1 (ji10)).f1) == ((rd_T67 l0_1 (wrap64 ((wrap64 (t663 * (wrap64 (2 * a0_0)))) + t664))).f1)))) = true then (some 7) else (R2_OctError.l1 k2 (wrap64 (2 * a0_0)) x5_1 (wrap64 (x6_2 + 1)) a0_0 l0_1)) else (none)) else (none))) = some r := H; have A13 := am A130; clear A130; replace H := Option.bind_eq_some_iff.mp H; obtain ⟨t664, A140, H⟩ := H; replace H : (if 0 ≤ (wrap64 ((wrap64 (t663 * (wrap64 (2 * a0_0)))) + t664)) then (if (wrap64 ((wrap64 (t663 * (wrap64 (2 * a0_0)))) + t664)) < (l0_1.length : Int) then (if (!(((rd_T67 l0_1 (ji10)).f0) == ((rd_T67 l0_1 (wrap64 ((wrap64 (t663 * (wrap64 (2 * a0_0)))) + t664))).f0)) || (!(((rd_T67 l0_1 (ji10)).f1) == ((rd_T67 l0_1 (wrap64 ((wrap64 (t663 * (wrap64 (2 * a0_0)))) + t664))).f1)))) = true then (some 7) else (R2_OctError.l1 k2 (wrap64 (2 * a0_0)) x5_1 (wrap64 (x6_2 + 1)) a0_0 l0_1)) else (none)) else (none)) = some r := H; have A14 := am A140; clear A140; obtain ⟨ji15, hji15⟩ : ∃ j_ : Int, (wrap64 ((wrap64 (t663 * (wrap64 (2 * a0_0)))) + t664)) = j_ := ⟨_, rfl⟩
         replace H : (if 0 ≤ (ji15) then (if (ji15) < (l0_1.length : Int) then (if (!(((rd_T67 l0_1 (ji10)).f0) == ((rd_T67 l0_1 (ji15)).f0)) || (!(((rd_T67 l0_1 (ji10)).f1) == ((rd_T67 l0_1 (ji15)).f1)))) = true then (some 7) else (R2_OctError.l1 k2 (wrap64 (2 * a0_0)) x5_1 (wrap64 (x6_2 + 1)) a0_0 l0_1)) else (none)) else (none)) = some r := by first | (rw [hji15] at H; exact H) | (simp only [hji15] at H ⊢; exact H)
         (try rw [hji15] at A13); (try rw [hji15] at A14); have hji15w : (IntKind.i64.wrap ((wrap64 (t663 * (wrap64 (2 * a0_0)))) + t664)) = ji15 := (i64_w _).trans hji15; by_cases c16 : 0 ≤ (ji15)
         ·rw [if_pos c16] at H
          have c16b0 : decide (0 ≤ (ji15)) = true := decide_eq_true c16; clear c16; by_cases c17 : (ji15) < (l0_1.length : Int)
          ·rw [if_pos c17] at H
           have c17b0 : decide ((ji15) < (l0_1.length : Int)) = true := decide_eq_true c17; clear c17; by_cases c18 : (!(((rd_T67 l0_1 (ji10)).f0) == ((rd_T67 l0_1 (ji15)).f0)) || (!(((rd_T67 l0_1 (ji10)).f1) == ((rd_T67 l0_1 (ji15)).f1)))) = true
           ·rw [if_pos c18] at H
            have c18b0 : (!(((rd_T67 l0_1 (ji10)).f0) == ((rd_T67 l0_1 (ji15)).f0)) || (!(((rd_T67 l0_1 (ji10)).f1) == ((rd_T67 l0_1 (ji15)).f1)))) = true := c18; clear c18; obtain rfl := Option.some.inj H; have hcz19_0 : wr.cell? ⟨gb660, 0, none⟩ = some (.int .i64 a0_0) := bc BK660 0; have hcz19_1 : wr.cell? ⟨gb660, 1, none⟩ = some (.slice A0_1 l0_1.length c0_1) := bc BK660 1; have hfz19_0 := blk_frozen BK660.out 0; have hfz19_1 := blk_frozen BK660.out 1; have p662 : 0 ≤ ((ji10) : Int) := od; have q662 : (ji10) < (l0_1.length : Int) := od; obtain ⟨ad662, e662, hx662_0, hx662_1⟩ := at_T67 HR0_1.out (ji10) p662 q662; cases e662; replace hx662_0 := (HB.out.cell (World.block_lt_of_cell? w _ hx662_0)).trans hx662_0; replace hx662_1 := (HB.out.cell (World.block_lt_of_cell? w _ hx662_1)).trans hx662_1; replace p662 := eq_true p662; replace q662 := eq_true q662; have p665 : 0 ≤ ((ji15) : Int) := od; have q665 : (ji15) < (l0_1.length : Int) := od; obtain ⟨ad665, e665, hx665_0, hx665_1⟩ := at_T67 HR0_1.out (ji15) p665 q665; obtain rfl : ad662 = ad665 := (by injection e665); replace hx665_0 := (HB.out.cell (World.block_lt_of_cell? w _ hx665_0)).trans hx665_0; replace hx665_1 := (HB.out.cell (World.block_lt_of_cell? w _ hx665_1)).trans hx665_1; replace p665 := eq_true p665; replace q665 := eq_true q665; go_wp2_with (first | (go_at_call 104; (with_reducible refine (R2_other.calls x6_2 t663 _ A13.out).mono ?_); rintro e w' ⟨rfl, ⟨nd, rfl⟩⟩; (try first | exact ⟨rfl, _, World.drewN_drewN _ _ _⟩ | exact ⟨rfl, _, Eq.trans (World.drewN_drewN _ _ _) (congrArg (World.drewN _) (Nat.add_assoc _ _ _))⟩)) | (go_at_call 104; (with_reducible refine (R2_other.calls x5_1 t664 _ A14.out).mono ?_); rintro e w' ⟨rfl, ⟨nd, rfl⟩⟩; (try first | exact ⟨rfl, _, World.drewN_drewN _ _ _⟩ | exact ⟨rfl, _, Eq.trans (World.drewN_drewN _ _ _) (congrArg (World.drewN _) (Nat.add_assoc _ _ _))⟩)))
            repeat (go_quiet (first | (go_at_call 104; (with_reducible refine (R2_other.calls x6_2 t663 _ A13.out).mono ?_); rintro e w' ⟨rfl, ⟨nd, rfl⟩⟩; (try first | exact ⟨rfl, _, World.drewN_drewN _ _ _⟩ | exact ⟨rfl, _, Eq.trans (World.drewN_drewN _ _ _) (congrArg (World.drewN _) (Nat.add_assoc _ _ _))⟩)) | (go_at_call 104; (with_reducible refine (R2_other.calls x5_1 t664 _ A14.out).mono ?_); rintro e w' ⟨rfl, ⟨nd, rfl⟩⟩; (try first | exact ⟨rfl, _, World.drewN_drewN _ _ _⟩ | exact ⟨rfl, _, Eq.trans (World.drewN_drewN _ _ _) (congrArg (World.drewN _) (Nat.add_assoc _ _ _))⟩))); try go_wp2_with (first | (go_at_call 104; (with_reducible refine (R2_other.calls x6_2 t663 _ A13.out).mono ?_); rintro e w' ⟨rfl, ⟨nd, rfl⟩⟩; (try first | exact ⟨rfl, _, World.drewN_drewN _ _ _⟩ | exact ⟨rfl, _, Eq.trans (World.drewN_drewN _ _ _) (congrArg (World.drewN _) (Nat.add_assoc _ _ _))⟩)) | (go_at_call 104; (with_reducible refine (R2_other.calls x5_1 t664 _ A14.out).mono ?_); rintro e w' ⟨rfl, ⟨nd, rfl⟩⟩; (try first | exact ⟨rfl, _, World.drewN_drewN _ _ _⟩ | exact ⟨rfl, _, Eq.trans (World.drewN_drewN _ _ _) (congrArg (World.drewN _) (Nat.add_assoc _ _ _))⟩))))
            go_ret; exact ⟨by first | rfl | (simp [errW_none, errW_some] <;> rfl) | (simp only [← hji10, ← hji15]; first | rfl | (simp [errW_none, errW_some] <;> rfl)) | (simp [*, errW_none, errW_some] <;> rfl), pw⟩
           rw [if_neg c18] at H
           have c18b0 : (!(((rd_T67 l0_1 (ji10)).f0) == ((rd_T67 l0_1 (ji15)).f0)) || (!(((rd_T67 l0_1 (ji10)).f1) == ((rd_T67 l0_1 (ji15)).f1)))) = false := by simpa using c18
           clear c18; have H' := am H; clear H; have hcz20_0 : wr.cell? ⟨gb660, 0, none⟩ = some (.int .i64 a0_0) := bc BK660 0; have hcz20_1 : wr.cell? ⟨gb660, 1, none⟩ = some (.slice A0_1 l0_1.length c0_1) := bc BK660 1; have hfz20_0 := blk_frozen BK660.out 0; have hfz20_1 := blk_frozen BK660.out 1; have p662 : 0 ≤ ((ji10) : Int) := od; have q662 : (ji10) < (l0_1.length : Int) := od; obtain ⟨ad662, e662, hx662_0, hx662_1⟩ := at_T67 HR0_1.out (ji10) p662 q662; cases e662; replace hx662_0 := (HB.out.cell (World.block_lt_of_cell? w _ hx662_0)).trans hx662_0; replace hx662_1 := (HB.out.cell (World.block_lt_of_cell? w _ hx662_1)).trans hx662_1; replace p662 := eq_true p662; replace q662 := eq_true q662; have p665 : 0 ≤ ((ji15) : Int) := od; have q665 : (ji15) < (l0_1.length : Int) := od; obtain ⟨ad665, e665, hx665_0, hx665_1⟩ := at_T67 HR0_1.out (ji15) p665 q665; obtain rfl : ad662 = ad665 := (by injection e665); replace hx665_0 := (HB.out.cell (World.block_lt_of_cell? w _ hx665_0)).trans hx665_0; replace hx665_1 := (HB.out.cell (World.block_lt_of_cell? w _ hx665_1)).trans hx665_1; replace p665 := eq_true p665; replace q665 := eq_true q665; go_wp2_with (first | (go_at_call 104; (with_reducible refine (R2_other.calls x6_2 t663 _ A13.out).mono ?_); rintro e w' ⟨rfl, ⟨nd, rfl⟩⟩; (try first | exact ⟨rfl, _, World.drewN_drewN _ _ _⟩ | exact ⟨rfl, _, Eq.trans (World.drewN_drewN _ _ _) (congrArg (World.drewN _) (Nat.add_assoc _ _ _))⟩)) | (go_at_call 104; (with_reducible refine (R2_other.calls x5_1 t664 _ A14.out).mono ?_); rintro e w' ⟨rfl, ⟨nd, rfl⟩⟩; (try first | exact ⟨rfl, _, World.drewN_drewN _ _ _⟩ | exact ⟨rfl, _, Eq.trans (World.drewN_drewN _ _ _) (congrArg (World.drewN _) (Nat.add_assoc _ _ _))⟩)))
           repeat (go_quiet (first | (go_at_call 104; (with_reducible refine (R2_other.calls x6_2 t663 _ A13.out).mono ?_); rintro e w' ⟨rfl, ⟨nd, rfl⟩⟩; (try first | exact ⟨rfl, _, World.drewN_drewN _ _ _⟩ | exact ⟨rfl, _, Eq.trans (World.drewN_drewN _ _ _) (congrArg (World.drewN _) (Nat.add_assoc _ _ _))⟩)) | (go_at_call 104; (with_reducible refine (R2_other.calls x5_1 t664 _ A14.out).mono ?_); rintro e w' ⟨rfl, ⟨nd, rfl⟩⟩; (try first | exact ⟨rfl, _, World.drewN_drewN _ _ _⟩ | exact ⟨rfl, _, Eq.trans (World.drewN_drewN _ _ _) (congrArg (World.drewN _) (Nat.add_assoc _ _ _))⟩))); try go_wp2_with (first | (go_at_call 104; (with_reducible refine (R2_other.calls x6_2 t663 _ A13.out).mono ?_); rintro e w' ⟨rfl, ⟨nd, rfl⟩⟩; (try first | exact ⟨rfl, _, World.drewN_drewN _ _ _⟩ | exact ⟨rfl, _, Eq.trans (World.drewN_drewN _ _ _) (congrArg (World.drewN _) (Nat.add_assoc _ _ _))⟩)) | (go_at_call 104; (with_reducible refine (R2_other.calls x5_1 t664 _ A14.out).mono ?_); rintro e w' ⟨rfl, ⟨nd, rfl⟩⟩; (try first | exact ⟨rfl, _, World.drewN_drewN _ _ _⟩ | exact ⟨rfl, _, Eq.trans (World.drewN_drewN _ _ _) (congrArg (World.drewN _) (Nat.add_assoc _ _ _))⟩))))
           go_roundg k2
           case measure => have := HK1.out; have := HK2.out; omega
           case rel => exact ⟨(wrap64 (x6_2 + 1)), pr, H', ⟨by have := HK1.out; have := HK2.out; omega⟩, ⟨pk⟩, ⟨pw⟩⟩
          rw [if_neg c17] at H; exact absurd H (by simp)
         rw [if_neg c16] at H; exact absurd H (by simp)
        rw [if_neg c12] at H; exact absurd H (by simp)
       rw [if_neg c11] at H; exact absurd H (by simp)
      rw [if_neg c9] at H; have c9b0 : decide (x6_2 < (wrap64 (2 * a0_0))) = false := decide_eq_false c9; clear c9; have H' := am H; clear H; go_wp2
      repeat (go_quiet (fail); try go_wp2)
      go_roundg k2
      case measure => have := HK1.out; have := HK2.out; omega
      case rel => exact ⟨(wrap64 (x5_1 + 1)), pr, H', ⟨by have := HK1.out; have := HK2.out; omega⟩, ⟨pk⟩, ⟨pw⟩⟩
   rw [if_neg c8] at H; have c8b0 : decide (x5_1 < (wrap64 (2 * a0_0))) = false := decide_eq_false c8; clear c8; obtain rfl := Option.some.inj H; go_wp2
   repeat (go_quiet (fail); try go_wp2)
   go_ret; exact ⟨pe, pw⟩

/-! ### L2_octOf: function 44 -/
def L2_octOf.l0 : Nat → Int → Int → List (S67) → Int → List (S146) → Option (Int × (List (S146)))
 | 0, _, _, _, _, _ => none
 | k + 1, x4, x667000, x667001, x669000, x669001 => if x4 < (x667001.length : Int) then (if 0 ≤ x4 then (if x669001.length < 8796093022208 then (L2_octOf.l0 k (wrap64 (x4 + 1)) x667000 x667001 x669000 (x669001 ++ [(⟨(rd_T67 x667001 x4).f0, (rd_T67 x667001 x4).f1⟩ : S146)])) else (none)) else (none)) else (some (x669000, x669001))
def L2_octOf.f (k : Nat) (a0_0 : Int) (l0_1 : List (S67)) : Option (Int × (List (S146))) := L2_octOf.l0 k 0 a0_0 l0_1 a0_0 ([] : List (S146))
theorem L2_octOf.mono_l : ∀ k, (∀ y0 y1 y2 y3 y4, LeO (L2_octOf.l0 k y0 y1 y2 y3 y4) (L2_octOf.l0 (k + 1) y0 y1 y2 y3 y4))
 | 0 => fun _ _ _ _ _ r h => by simp [L2_octOf.l0] at h
 | k + 1 => by
  have ih0 := L2_octOf.mono_l k
  intro y0 y1 y2 y3 y4
  unfold L2_octOf.l0
  repeat' first
  | (with_reducible exact ih0 _ _ _ _ _)
  | (with_reducible exact LeO.refl _)
  | (with_reducible exact LeO.none _)
  | (with_reducible refine LeO.ite ?_ ?_)
  | (with_reducible refine LeO.bind ?_ (fun _ => ?_))
  | exact ih0 _ _ _ _ _
  | exact LeO.none _
  | refine LeO.ite ?_ ?_
  | refine LeO.bind ?_ (fun _ => ?_)
theorem L2_octOf.mono : ∀ a0 a1 k, LeO (L2_octOf.f k a0 a1) (L2_octOf.f (k + 1) a0 a1) := by
 intro a0 a1 k
 have ih0 := L2_octOf.mono_l k
 unfold L2_octOf.f
 repeat' first
   | (with_reducible exact ih0 _ _ _ _ _)
   | (with_reducible exact LeO.refl _)
   | (with_reducible exact LeO.none _)
   | (with_reducible refine LeO.ite ?_ ?_)
   | (with_reducible refine LeO.bind ?_ (fun _ => ?_))
   | exact ih0 _ _ _ _ _
   | exact LeO.none _
   | refine LeO.ite ?_ ?_
   | refine LeO.bind ?_ (fun _ => ?_)
def L2_octOf.T5 : Bool × List (List Nat × List Nat) := (true, [([], []), ([0], [0]), ([], []), ([2], [2]), ([], []), ([3, 4], [3, 4]), ([5], [5]), ([6], [6]), ([], []), ([8], [8]), ([], []), ([9, 10], [9, 10]), ([11], [11]), ([12], [12]), ([7, 13], [7, 13]), ([14], [14]), ([1, 15], [1, 15]), ([0, 1, 2, 3, 4, 5, 6, 7, 8, 9, 10, 11, 12, 13, 14, 15, 16], []), ([17, 16, 16, 0, 1, 2, 3, 4, 5, 6, 7, 8, 9, 10, 11, 12, 13, 14, 15, 16], [16, 17])])
def L2_octOf.B5 : List Nat := [0, 1, 0, 4, 0, 28, 60, 124, 0, 256, 0, 1792, 3840, 7936, 16380, 32764, 65535, 131071, 262143]
theorem L2_octOf.tab5 : rtab .any (opsOf Tryd.f44 5) = L2_octOf.T5 := by kernel_rfl
theorem L2_octOf.bits5 : waitsOk L2_octOf.T5.2 L2_octOf.B5 = true := by kernel_rfl
set_option maxHeartbeats 8000000 in
set_option maxRecDepth 100000 in
theorem L2_octOf.calls [EA] (k : Nat) (a0_0 : Int) (A0_1 : Option Addr) (c0_1 : Nat) (l0_1 : List (S67)) (r1 : Int) (r2 : List (S146)) (w : World) (hr0_1 : Kd.C k67 w A0_1 l0_1.length l0_1) (hc0_1 : l0_1.length ≤ c0_1) (h : L2_octOf.f k a0_0 l0_1 = some (r1, r2)) :
  Calls Tryd.prog 44 #[.agg #[.int .i64 a0_0, .slice A0_1 l0_1.length c0_1]] w fun e w' => ∃ v1_ : Value, e = .returned (.agg #[.int .i64 r1, v1_]) ∧ Kd.R k146 146 w' w.heap.size (fun _ => True) v1_ r2 ∧ Below w.heap.size w w' := by
 have hu70 := Tryd.underlying70
 have hu74 := Tryd.underlying74
 have hu146 := Tryd.underlying146
 have HR0_1 := am hr0_1
 have HC0_1 := am hc0_1
 clear hr0_1 hc0_1
 have HB := am (Below.refl w.heap.size w)
 have H : (L2_octOf.l0 k 0 a0_0 l0_1 a0_0 ([] : List (S146))) = some (r1, r2) := h
 clear h
 have H' := am H
 clear H
 go_enter Tryd.func44, Tryd.ntmps44
 go_wp2_with (first | ((with_reducible refine gate_dst (N := 1) rfl ?_); refine box_event ?hg (N := 1) ?hd (cs := #[.int .i64 a0_0, .slice A0_1 l0_1.length c0_1]) (t := 70) ?hr ?_; (case hd => rfl); (case hg => rfl); (case hr => first | (go_simp; done) | (go_simp; rfl)); intro gb666 hg w2 hbox hb; have n0_ := am (below_step pw hb); have n1_ := am (hbox); have n2_ := am (sz (w := w) hg pw); have n3_ := am (sz (w := w) hg pw); clear HB; revert n0_ n1_ n2_ n3_; intro HB BK666 GW666 GE666; clear hb hbox hg) | ((with_reducible refine gate_dst (N := 2) rfl ?_); refine box_event ?hg (N := 2) ?hd (cs := #[.int .i64 0, .slice none 0 0]) (t := 74) ?hr ?_; (case hd => rfl); (case hg => rfl); (case hr => first | (go_simp; done) | (go_simp; rfl)); intro gb667 hg w3 hbox hb; have n0_ := bb BK666 hb; have n1_ := am (below_step pw hb); have n2_ := am (hbox); have n3_ := am (sz (w := w) hg pw); have n4_ := am (sz (w := w) hg pw); have n5_ := am (nl BK666 hg); have n6_ := am ((nl BK666 hg).symm); clear BK666 HB; revert n0_ n1_ n2_ n3_ n4_ n5_ n6_; intro BK666 HB BK667 GW667 GE667 NB666_667 NB667_666; clear hb hbox hg; have hnb4 := NB666_667.out; have hnc4 := NB667_666.out; have hcz5_0 : w3.cell? ⟨gb666, 0, none⟩ = some (.int .i64 a0_0) := bc BK666 0; have hcz5_1 : w3.cell? ⟨gb666, 1, none⟩ = some (.slice A0_1 l0_1.length c0_1) := bc BK666 1; have hfz5_0 := blk_frozen BK666.out 0; have hfz5_1 := blk_frozen BK666.out 1) | ((with_reducible refine gate_dst (N := 3) rfl ?_); refine box_event ?hg (N := 3) ?hd (cs := #[.int .i64 0, .slice none 0 0]) (t := 74) ?hr ?_; (case hd => rfl); (case hg => rfl); (case hr => first | (go_simp; done) | (go_simp; rfl)); intro gb668 hg w6 hbox hb; have n0_ := bb BK666 hb; have n1_ := bb BK667 hb; have n2_ := am (below_step pw hb); have n3_ := am (hbox); have n4_ := am (sz (w := w) hg pw); have n5_ := am (sz (w := w) hg pw); have n6_ := am (nl BK666 hg); have n7_ := am ((nl BK666 hg).symm); have n8_ := am (nl BK667 hg); have n9_ := am ((nl BK667 hg).symm); clear BK666 BK667 HB; revert n0_ n1_ n2_ n3_ n4_ n5_ n6_ n7_ n8_ n9_; intro BK666 BK667 HB BK668 GW668 GE668 NB666_668 NB668_666 NB667_668 NB668_667; clear hb hbox hg; have hnb7 := NB668_666.out; have hnc7 := NB666_668.out; have hnb8 := NB668_667.out; have hnc8 := NB667_668.out; have hcz9_0 : w6.cell? ⟨gb668, 0, none⟩ = some (.int .i64 0) := bc BK668 0; have hcz9_1 : w6.cell? ⟨gb668, 1, none⟩ = some (.slice none 0 0) := bc BK668 1; have hfz9_0 := blk_frozen BK668.out 0; have hfz9_1 := blk_frozen BK668.out 1))
 go_loopg [4] k (fun kq v4 w' => ∃ (x4_1 : Int) (x669001_1 : List (S146)) (u669001 : Value), v4 = .int .i64 x4_1 ∧ Aside0 (L2_octOf.l0 kq x4_1 a0_0 l0_1 a0_0 x669001_1 = some (r1, r2)) ∧ Aside0 (kq ≤ k) ∧ Aside0 (Kd.R k146 146 w' w.heap.size (fun _ => True) u669001 x669001_1) ∧ Aside0 (w'.heap[gb666]? = some (.cells #[.int .i64 a0_0, (.slice A0_1 l0_1.length c0_1)] 70 (0, 0))) ∧ Aside0 (w'.heap[gb667]? = some (.cells #[.int .i64 0, (.slice none 0 0)] 74 (0, 0))) ∧ Aside0 (w'.heap[gb668]? = some (.cells #[.int .i64 a0_0, u669001] 74 (0, 0))) ∧ Aside0 (Below w.heap.size w w'))
 case atStart => exact ⟨(0), (([] : List (S146))), (.slice none 0 0), pr, H', ⟨Nat.le_refl _⟩, ⟨by first | exact Kd.R_nil _ _ _ _ _ | exact Kd.N_nil _ _ _ _ _ | exact Kd.V_nil _ _ _ _ _ | exact Kd.Q_nil _ _ _ _ _ | exact Kd.S_nil _ _ _ _ _⟩, ⟨by (with_reducible repeat (first | refine blk_drewN ?_ _ | refine blk_drew ?_ | refine blk_alloc ?_ _)); refine blk_far ?_ NB666_668.out _; (with_reducible repeat (first | refine blk_drewN ?_ _ | refine blk_drew ?_ | refine blk_alloc ?_ _)); refine blk_far ?_ NB666_668.out _; (with_reducible repeat (first | refine blk_drewN ?_ _ | refine blk_drew ?_ | refine blk_alloc ?_ _)); exact BK666.out⟩, ⟨by (with_reducible repeat (first | refine blk_drewN ?_ _ | refine blk_drew ?_ | refine blk_alloc ?_ _)); refine blk_far ?_ NB667_668.out _; (with_reducible repeat (first | refine blk_drewN ?_ _ | refine blk_drew ?_ | refine blk_alloc ?_ _)); refine blk_far ?_ NB667_668.out _; (with_reducible repeat (first | refine blk_drewN ?_ _ | refine blk_drew ?_ | refine blk_alloc ?_ _)); exact BK667.out⟩, ⟨by (with_reducible repeat (first | refine blk_drewN ?_ _ | refine blk_drew ?_ | refine blk_alloc ?_ _)); refine blk_put (cs := #[.int .i64 a0_0, .slice none 0 0]) ?_ 1 _ rfl; (with_reducible repeat (first | refine blk_drewN ?_ _ | refine blk_drew ?_ | refine blk_alloc ?_ _)); refine blk_put (cs := #[.int .i64 0, .slice none 0 0]) ?_ 0 _ rfl; (with_reducible repeat (first | refine blk_drewN ?_ _ | refine blk_drew ?_ | refine blk_alloc ?_ _)); exact BK668.out⟩, ⟨pw⟩⟩
 case round =>
  clear H'
  (try clear p2)
  (try clear c4)
  (try clear c7)
  (try clear c8)
  (try clear hcz5_0)
  (try clear hcz5_1)
  (try clear hcz9_0)
  (try clear hcz9_1)
  (try clear hfz5_0)
  (try clear hfz5_1)
  (try clear hfz9_0)
  (try clear hfz9_1)
  obtain ⟨x4_1, x669001_1, u669001, rfl, HA, HK1, HO_669001, BK666, BK667, BK668, HB⟩ := hrel
  cases gk with
  | zero => exact absurd HA.out (by simp [L2_octOf.l0])
  | succ k1 =>
   have H := HA.out; clear HA; simp only [L2_octOf.l0] at H; by_cases c10 : x4_1 < (l0_1.length : Int)
   ·rw [if_pos c10] at H
    have c10b0 : decide (x4_1 < (l0_1.length : Int)) = true := decide_eq_true c10; clear c10; by_cases c11 : 0 ≤ x4_1
    ·rw [if_pos c11] at H
     have c11b0 : decide (0 ≤ x4_1) = true := decide_eq_true c11; clear c11; by_cases c12 : x669001_1.length < 8796093022208
     ·rw [if_pos c12] at H
      have LMc12 := am c12; clear c12; obtain ⟨y671, hy671⟩ : ∃ y_ : List (S146), y_ = (x669001_1 ++ [(⟨(rd_T67 l0_1 x4_1).f0, (rd_T67 l0_1 x4_1).f1⟩ : S146)]) := ⟨_, rfl⟩
      replace H : (L2_octOf.l0 k1 (wrap64 (x4_1 + 1)) a0_0 l0_1 a0_0 y671) = some (r1, r2) := by first | (rw [hy671]; with_reducible exact H) | (have H2_ := (Option.bind_some _ _).symm.trans H; rw [hy671]; with_reducible exact H2_) | (have H2_ := (Option.bind_some _ _).symm.trans H; with_reducible exact H2_) | with_reducible exact H | (rw [hy671]; exact H) | exact H
      have Ny671 := am hy671; clear hy671; have H' := am H; clear H; have hnb13 := NB666_667.out; have hnc13 := NB667_666.out; have hnb14 := NB666_668.out; have hnc14 := NB668_666.out; have hcz15_0 : wr.cell? ⟨gb666, 0, none⟩ = some (.int .i64 a0_0) := bc BK666 0; have hcz15_1 : wr.cell? ⟨gb666, 1, none⟩ = some (.slice A0_1 l0_1.length c0_1) := bc BK666 1; have hfz15_0 := blk_frozen BK666.out 0; have hfz15_1 := blk_frozen BK666.out 1
      try go_wp2
      have n0_ := am (Kd.R_drew HO_669001.out); have n1_ := am (blk_drew BK666.out); have n2_ := am (blk_drew BK667.out); have n3_ := am (blk_drew BK668.out); have n4_ := am (below_drew1 HB.out); clear HO_669001 BK666 BK667 BK668 HB; revert n0_ n1_ n2_ n3_ n4_; intro HO_669001 BK666 BK667 BK668 HB; have p669 : 0 ≤ (x4_1 : Int) := od; have q669 : x4_1 < (l0_1.length : Int) := od; obtain ⟨ad669, e669, hx669_0, hx669_1⟩ := at_T67 HR0_1.out x4_1 p669 q669; have hw669_1 := hx669_1; have hw669_0 := hx669_0; cases e669; replace hx669_0 := (HB.out.cell (World.block_lt_of_cell? w _ hx669_0)).trans hx669_0; replace hx669_1 := (HB.out.cell (World.block_lt_of_cell? w _ hx669_1)).trans hx669_1; replace p669 := eq_true p669; replace q669 := eq_true q669; have p670 : 0 ≤ (x4_1 : Int) := od; have q670 : x4_1 < (l0_1.length : Int) := od; obtain ⟨ad670, e670, hx670_0, hx670_1⟩ := at_T67 HR0_1.out x4_1 p670 q670; have hw670_1 := hx670_1; have hw670_0 := hx670_0; obtain rfl : ad669 = ad670 := (by injection e670); replace hx670_0 := (HB.out.cell (World.block_lt_of_cell? w _ hx670_0)).trans hx670_0; replace hx670_1 := (HB.out.cell (World.block_lt_of_cell? w _ hx670_1)).trans hx670_1; replace p670 := eq_true p670; replace q670 := eq_true q670; refine start_ (n := 19) (S := fun w' => w'.cell? ⟨gb668, 0, none⟩ = some (.int .i64 a0_0) ∧ w'.cell? ⟨gb668, 1, none⟩ = some (u669001) ∧ w'.cell? ⟨gb666, 0, none⟩ = some (.int .i64 a0_0) ∧ w'.cell? ⟨gb666, 1, none⟩ = some (.slice (some ad669) l0_1.length c0_1) ∧ w'.cell? (ad669.add ((x4_1).toNat * 2)) = some (.bool ((rd_T67 l0_1 x4_1).f0)) ∧ w'.cell? ⟨(ad669.add ((x4_1).toNat * 2)).block, (ad669.add ((x4_1).toNat * 2)).off + 1, none⟩ = some (.int .i64 ((rd_T67 l0_1 x4_1).f1)) ∧ w'.cell? (ad669.add ((x4_1).toNat * 2)) = some (.bool ((rd_T67 l0_1 x4_1).f0)) ∧ w'.cell? ⟨(ad669.add ((x4_1).toNat * 2)).block, (ad669.add ((x4_1).toNat * 2)).off + 1, none⟩ = some (.int .i64 ((rd_T67 l0_1 x4_1).f1))) (ds := [18]) (bm 0 19) kk rfl rfl ⟨bc BK668 0, bc BK668 1, bc BK666 0, bc BK666 1, ((HB.out.cell (World.block_lt_of_cell? w _ hw669_0)).trans hw669_0), ((HB.out.cell (World.block_lt_of_cell? w _ hw669_1)).trans hw669_1), ((HB.out.cell (World.block_lt_of_cell? w _ hw670_0)).trans hw670_0), ((HB.out.cell (World.block_lt_of_cell? w _ hw670_1)).trans hw670_1)⟩ (fun hHeld => ?_); refine with_tabW L2_octOf.tab5 L2_octOf.bits5 (fun HT_ HW_ => ?_); generalize wr.drew = w16 at HO_669001 BK666 BK667 BK668 HB hx669_0 hx669_1 hx670_0 hx670_1 hHeld ⊢; refine pure_ (i := 0) (N := some 15) (v := ?_) (a' := ?_) (bm 1 19) rfl rfl (any_of HT_.out kk) (fun _ _ _ h => h) (Or.inl ⟨by rfl, ?_⟩) ?_ ?_; rotate_left; ·intro w'; go_simp; with_reducible rfl
      rotate_left; ·simp only [sp]; rfl
      refine pure_ (i := 2) (N := some 17) (v := ?_) (a' := ?_) #[true, false, true, false, false, false, false, false, false, false, false, false, false, false, false, false, false, false, false] rfl rfl (any_of HT_.out kk) (fun _ _ _ h => h) (Or.inl ⟨by rfl, ?_⟩) ?_ ?_; rotate_left; ·intro w'; go_simp; with_reducible rfl
      rotate_left; ·simp only [sp]; rfl
      refine pure_ (i := 4) (N := some 19) (v := ?_) (a' := ?_) #[true, false, true, false, true, false, false, false, false, false, false, false, false, false, false, false, false, false, false] rfl rfl (any_of HT_.out kk) (fun _ _ _ h => h) (Or.inl ⟨by rfl, ?_⟩) ?_ ?_; rotate_left; ·intro w'; go_simp; with_reducible rfl
      rotate_left; ·simp only [sp]; rfl
      refine pure_ (i := 8) (N := some 23) (v := ?_) (a' := ?_) #[true, false, true, false, true, false, false, false, true, false, false, false, false, false, false, false, false, false, false] rfl rfl (any_of HT_.out kk) (fun _ _ _ h => h) (Or.inl ⟨by rfl, ?_⟩) ?_ ?_; rotate_left; ·intro w'; go_simp; with_reducible rfl
      rotate_left; ·simp only [sp]; rfl
      refine pure_ (i := 10) (N := some 25) (v := ?_) (a' := ?_) #[true, false, true, false, true, false, false, false, true, false, true, false, false, false, false, false, false, false, false] rfl rfl (any_of HT_.out kk) (fun _ _ _ h => h) (Or.inl ⟨by rfl, ?_⟩) ?_ ?_; rotate_left; ·intro w'; go_simp; with_reducible rfl
      rotate_left; ·simp only [sp]; rfl
      refine take_ (i := 1) (N := some 16) (v := ?_) (a' := ?_) #[true, true, true, false, true, false, false, false, true, false, true, false, false, false, false, false, false, false, false] rfl rfl (take_ofW HT_.out HW_.out kk) (fun _ _ _ h => h) (Or.inl ⟨by rfl, ?_⟩) hHeld ?_ ?_; rotate_left; ·rintro w' ⟨s0, s1, s2, s3, s4, s5, s6, s7⟩; go_simp; with_reducible rfl
      rotate_left; ·simp only [sp]; rfl
      refine take_ (i := 3) (N := some 18) (v := ?_) (a' := ?_) #[true, true, true, true, true, false, false, false, true, false, true, false, false, false, false, false, false, false, false] rfl rfl (take_ofW HT_.out HW_.out kk) (fun _ _ _ h => h) (Or.inl ⟨by rfl, ?_⟩) hHeld ?_ ?_; rotate_left; ·rintro w' ⟨s0, s1, s2, s3, s4, s5, s6, s7⟩; go_simp; with_reducible rfl
      rotate_left; ·simp only [sp]; rfl
      refine pure_ (i := 5) (N := some 20) (v := ?_) (a' := ?_) #[true, true, true, true, true, true, false, false, true, false, true, false, false, false, false, false, false, false, false] rfl rfl (any_of HT_.out kk) (fun _ _ _ h => h) (Or.inl ⟨by rfl, ?_⟩) ?_ ?_; rotate_left; ·intro w'; go_simp; with_reducible rfl
      rotate_left; ·simp only [sp]; rfl
      refine pure_ (i := 6) (N := some 21) (v := ?_) (a' := ?_) #[true, true, true, true, true, true, true, false, true, false, true, false, false, false, false, false, false, false, false] rfl rfl (any_of HT_.out kk) (fun _ _ _ h => h) (Or.inl ⟨by rfl, ?_⟩) ?_ ?_; rotate_left; ·intro w'; go_simp; with_reducible rfl
      rotate_left; ·simp only [sp]; rfl
      refine take_ (i := 7) (N := some 22) (v := ?_) (a' := ?_) #[true, true, true, true, true, true, true, true, true, false, true, false, false, false, false, false, false, false, false] rfl rfl (take_ofW HT_.out HW_.out kk) (fun _ _ _ h => h) (Or.inl ⟨by rfl, ?_⟩) hHeld ?_ ?_; rotate_left; ·rintro w' ⟨s0, s1, s2, s3, s4, s5, s6, s7⟩; go_simp; with_reducible rfl
      rotate_left; ·simp only [sp]; rfl
      refine take_ (i := 9) (N := some 24) (v := ?_) (a' := ?_) (bm 11 19) rfl rfl (take_ofW HT_.out HW_.out kk) (fun _ _ _ h => h) (Or.inl ⟨by rfl, ?_⟩) hHeld ?_ ?_; rotate_left; ·rintro w' ⟨s0, s1, s2, s3, s4, s5, s6, s7⟩; go_simp; with_reducible rfl
      rotate_left; ·simp only [sp]; rfl
      refine pure_ (i := 11) (N := some 26) (v := ?_) (a' := ?_) (bm 12 19) rfl rfl (any_of HT_.out kk) (fun _ _ _ h => h) (Or.inl ⟨by rfl, ?_⟩) ?_ ?_; rotate_left; ·intro w'; go_simp; with_reducible rfl
      rotate_left; ·simp only [sp]; rfl
      refine pure_ (i := 12) (N := some 27) (v := ?_) (a' := ?_) (bm 13 19) rfl rfl (any_of HT_.out kk) (fun _ _ _ h => h) (Or.inl ⟨by rfl, ?_⟩) ?_ ?_; rotate_left; ·intro w'; go_simp; with_reducible rfl
      rotate_left; ·simp only [sp]; rfl
      refine take_ (i := 13) (N := some 28) (v := ?_) (a' := ?_) (bm 14 19) rfl rfl (take_ofW HT_.out HW_.out kk) (fun _ _ _ h => h) (Or.inl ⟨by rfl, ?_⟩) hHeld ?_ ?_; rotate_left; ·rintro w' ⟨s0, s1, s2, s3, s4, s5, s6, s7⟩; go_simp; with_reducible rfl
      rotate_left; ·simp only [sp]; rfl
      refine pure_ (i := 14) (N := some 29) (v := ?_) (a' := ?_) (bm 15 19) rfl rfl (any_of HT_.out kk) (fun _ _ _ h => h) (Or.inl ⟨by rfl, ?_⟩) ?_ ?_; rotate_left; ·intro w'; go_simp; with_reducible rfl
      rotate_left; ·simp only [sp]; rfl
      refine one_ (i := 15) (N := some 30) (bm 16 19) rfl rfl (one_of HT_.out kk) (by decide) (fun K hK => ?_); refine value_ (w1 := ?_) (v := ?_) (by rfl) rfl ?_ ?_; rotate_left 2
      ·go_simp
       constructor
       ·rfl
       rfl
      refine hK.out _ _ ⟨(blk_cell (blk_alloc BK668.out _) 0).trans rfl, (blk_cell (blk_alloc BK668.out _) 1).trans rfl, (blk_cell (blk_alloc BK666.out _) 0).trans rfl, (blk_cell (blk_alloc BK666.out _) 1).trans rfl, (World.cell?_alloc_lt _ _ _ (World.block_lt_of_cell? _ _ (((HB.out.cell (World.block_lt_of_cell? w _ hw669_0)).trans hw669_0)))).trans (((HB.out.cell (World.block_lt_of_cell? w _ hw669_0)).trans hw669_0)), (World.cell?_alloc_lt _ _ _ (World.block_lt_of_cell? _ _ (((HB.out.cell (World.block_lt_of_cell? w _ hw669_1)).trans hw669_1)))).trans (((HB.out.cell (World.block_lt_of_cell? w _ hw669_1)).trans hw669_1)), (World.cell?_alloc_lt _ _ _ (World.block_lt_of_cell? _ _ (((HB.out.cell (World.block_lt_of_cell? w _ hw670_0)).trans hw670_0)))).trans (((HB.out.cell (World.block_lt_of_cell? w _ hw670_0)).trans hw670_0)), (World.cell?_alloc_lt _ _ _ (World.block_lt_of_cell? _ _ (((HB.out.cell (World.block_lt_of_cell? w _ hw670_1)).trans hw670_1)))).trans (((HB.out.cell (World.block_lt_of_cell? w _ hw670_1)).trans hw670_1))⟩ (fun hHeld => ?_); clear hK K; refine norm_ (a' := ?_) ?_ ?_; rotate_left
      ·show Act.put _ (some 30) _ = _
       simp only [sp]; rfl
      refine one_ (i := 16) (N := some 31) (bm 17 19) rfl rfl (one_of HT_.out kk) (by decide) (fun K hK => ?_); refine Kd.R_append_step k146 (w0 := w) w.heap.size (by rfl) (.tmp 16) (.tmp 30) 72 146 (.agg #[(.bool false), (.int .i64 0)]) 16 rfl Tryd.underlying72 info146 rfl (by decide) (by omega) u669001 x669001_1 (⟨(rd_T67 l0_1 x4_1).f0, (rd_T67 l0_1 x4_1).f1⟩ : S146) [.bool ((rd_T67 l0_1 x4_1).f0), .int .i64 ((rd_T67 l0_1 x4_1).f1)] (fun _ => True) (fun _ => False) rfl rfl ?aP (fun _ hk => hk.elim) ?aF ?aO ?aB ?aS ?aL ?_
      (case aP => exact k146_mkM _ _ _ (⟨(rd_T67 l0_1 x4_1).f0, (rd_T67 l0_1 x4_1).f1⟩ : S146))
      (case aB => exact pw)
      (case aF => exact (fun _ _ => trivial))
      (case aO => exact (rk HO_669001))
      (case aS => exact (below_size pw))
      (case aL => have := LMc12.out; omega); intro v672 w17 ho hb hg hat; rw [← Ny671.out] at ho; have n0_ := am (blk_grown (g := gb666) (o := .cells #[.int .i64 a0_0, .slice (some ad669) l0_1.length c0_1] 70 (0, 0)) pk hg (Kd.R_ne HO_669001.out BK666.out (by decide))); have n1_ := am (blk_grown (g := gb667) (o := .cells #[.int .i64 0, .slice none 0 0] 74 (0, 0)) pk hg (Kd.R_ne HO_669001.out BK667.out (by decide))); have n2_ := am (blk_grown (g := gb668) (o := .cells #[.int .i64 a0_0, u669001] 74 (0, 0)) pk hg (Kd.R_ne HO_669001.out BK668.out (by decide))); have n3_ := am (hb); have n4_ := am (ho); clear BK666 BK667 BK668 HB HO_669001; revert n0_ n1_ n2_ n3_ n4_; intro BK666 BK667 BK668 HB HO673; clear ho hb hg hat; obtain ⟨Ao18, co18, eo18⟩ := Kd.R_slice HO673.out; (first | subst eo18 | (injection eo18 with f1_ f2_ f3_; have f4_ := f1_.symm; have f5_ := f3_.symm; clear f1_ f2_ f3_; subst f4_; subst f5_)); refine hK.out _ _ ⟨bc BK668 0, bc BK668 1, bc BK666 0, bc BK666 1, ((HB.out.cell (World.block_lt_of_cell? w _ hw669_0)).trans hw669_0), ((HB.out.cell (World.block_lt_of_cell? w _ hw669_1)).trans hw669_1), ((HB.out.cell (World.block_lt_of_cell? w _ hw670_0)).trans hw670_0), ((HB.out.cell (World.block_lt_of_cell? w _ hw670_1)).trans hw670_1)⟩ (fun hHeld => ?_); clear hK K; refine norm_ (a' := ?_) ?_ ?_; rotate_left
      ·show Act.put _ (some 31) _ = _
       simp only [sp]; rfl
      refine pure_ (i := 17) (N := some 32) (v := ?_) (a' := ?_) (bm 18 19) rfl rfl (any_of HT_.out kk) (fun _ _ _ h => h) (Or.inl ⟨by rfl, ?_⟩) ?_ ?_; rotate_left; ·intro w'; go_simp; with_reducible rfl
      rotate_left; ·simp only [sp]; rfl
      refine last_ (i := 18) (N := none) (bm 19 19) rfl rfl (one_of HT_.out kk) (by decide) (fun K hK => ?_); have hs19 : w17.cell? ⟨gb668, 1, none⟩ = some (u669001) := bc BK668 1; have hfs19 := blk_frozen BK668.out 1; have hns19_0 := NB666_668.out; have hns19_1 := NB667_668.out; have hms19_0 := NB668_666.out; have hms19_1 := NB668_667.out; refine skip_ (w1 := ?_) (by rfl) rfl ?_ ?_; rotate_left
      ·go_simp
       rfl
      refine hK.out _ _ ?_; clear hK K; refine done_ (done_of HT_.out kk) ?_; (try simp only [errW_none, errW_some])
      try go_wp2
      go_roundg k1
      case measure => have := HK1.out; omega
      case rel => exact ⟨(wrap64 (x4_1 + 1)), (y671), (.slice Ao18 y671.length co18), pr, H', ⟨by have := HK1.out; omega⟩, ⟨by (with_reducible repeat (first | apply Kd.R_alloc | apply Kd.R_drewN | apply Kd.R_drew)); exact Kd.R_mono (Kd.R_far (p := ⟨gb668, 1, none⟩) (Kd.R_types HO673.out BK668.out (by decide)) (fun _ hk => hk.2) (.slice Ao18 y671.length co18)) (fun _ hk => trivial)⟩, ⟨by (with_reducible repeat (first | refine blk_drewN ?_ _ | refine blk_drew ?_ | refine blk_alloc ?_ _)); refine blk_far ?_ NB666_668.out _; (with_reducible repeat (first | refine blk_drewN ?_ _ | refine blk_drew ?_ | refine blk_alloc ?_ _)); exact BK666.out⟩, ⟨by (with_reducible repeat (first | refine blk_drewN ?_ _ | refine blk_drew ?_ | refine blk_alloc ?_ _)); refine blk_far ?_ NB667_668.out _; (with_reducible repeat (first | refine blk_drewN ?_ _ | refine blk_drew ?_ | refine blk_alloc ?_ _)); exact BK667.out⟩, ⟨by (with_reducible repeat (first | refine blk_drewN ?_ _ | refine blk_drew ?_ | refine blk_alloc ?_ _)); refine blk_put (cs := #[.int .i64 a0_0, u669001]) ?_ 1 _ rfl; (with_reducible repeat (first | refine blk_drewN ?_ _ | refine blk_drew ?_ | refine blk_alloc ?_ _)); exact BK668.out⟩, ⟨pw⟩⟩
     rw [if_neg c12] at H; exact absurd H (by simp)
    rw [if_neg c11] at H; exact absurd H (by simp)
   rw [if_neg c10] at H; have c10b0 : decide (x4_1 < (l0_1.length : Int)) = false := decide_eq_false c10; clear c10; simp only [Option.some.injEq, Prod.mk.injEq] at H; obtain ⟨rfl, rfl⟩ := H; have hnb20 := NB666_667.out; have hnc20 := NB667_666.out; have hnb21 := NB666_668.out; have hnc21 := NB668_666.out; have hcz22_0 : wr.cell? ⟨gb666, 0, none⟩ = some (.int .i64 a0_0) := bc BK666 0; have hcz22_1 : wr.cell? ⟨gb666, 1, none⟩ = some (.slice A0_1 l0_1.length c0_1) := bc BK666 1; have hfz22_0 := blk_frozen BK666.out 0; have hfz22_1 := blk_frozen BK666.out 1; have hnb23 := NB668_667.out; have hnc23 := NB667_668.out; have hcz24_0 : wr.cell? ⟨gb668, 0, none⟩ = some (.int .i64 a0_0) := bc BK668 0; have hcz24_1 : wr.cell? ⟨gb668, 1, none⟩ = some (u669001) := bc BK668 1; have hfz24_0 := blk_frozen BK668.out 0; have hfz24_1 := blk_frozen BK668.out 1; have hcz25_0 : wr.cell? ⟨gb667, 0, none⟩ = some (.int .i64 0) := bc BK667 0; have hcz25_1 : wr.cell? ⟨gb667, 1, none⟩ = some (.slice none 0 0) := bc BK667 1; have hfz25_0 := blk_frozen BK667.out 0; have hfz25_1 := blk_frozen BK667.out 1; obtain ⟨Ao26, co26, eo26⟩ := Kd.R_slice HO_669001.out; subst eo26; go_wp2; refine bodyPost_ret (results_cell_row rfl _ _ gb667 74 #[.int .i64 a0_0, .slice Ao26 x669001_1.length co26] (0, 0) _ rfl (by (with_reducible repeat (first | refine blk_drewN ?_ _ | refine blk_drew ?_ | refine blk_alloc ?_ _)); refine blk_put (cs := #[.int .i64 a0_0, .slice none 0 0]) ?_ 1 _ rfl; (with_reducible repeat (first | refine blk_drewN ?_ _ | refine blk_drew ?_ | refine blk_alloc ?_ _)); refine blk_put (cs := #[.int .i64 0, .slice none 0 0]) ?_ 0 _ rfl; (with_reducible repeat (first | refine blk_drewN ?_ _ | refine blk_drew ?_ | refine blk_alloc ?_ _)); exact BK667.out) Tryd.underlying74 rfl kk) rfl ?_; exact ⟨_, pe, by (with_reducible repeat (first | apply Kd.R_alloc | apply Kd.R_drewN | apply Kd.R_drew)); exact Kd.R_mono (Kd.R_far (p := ⟨gb667, 1, none⟩) (Kd.R_far (p := ⟨gb667, 0, none⟩) (Kd.R_types HO_669001.out BK667.out (by decide)) (fun _ hk => hk.2) (.int .i64 a0_0)) (fun _ hk => hk.2) (.slice Ao26 x669001_1.length co26)) (fun _ hk => trivial), pw⟩

/-! ### R2_ValueOf: function 111 -/
def R2_ValueOf.f (l0 : List Int) (a1 : Int) : Option (Int) := if (Int.tmod a1 2) = 0 then (if 0 ≤ (wrap64 (Int.tdiv a1 2)) then (if (wrap64 (Int.tdiv a1 2)) < (l0.length : Int) then (some (rd l0 (wrap64 (Int.tdiv a1 2)))) else (none)) else (none)) else (if 0 ≤ (wrap64 (Int.tdiv a1 2)) then (if (wrap64 (Int.tdiv a1 2)) < (l0.length : Int) then (some (wrap64 (-(rd l0 (wrap64 (Int.tdiv a1 2)))))) else (none)) else (none))
end Go.Proofs.YtcalcnfppnbooaaDoor.Z
