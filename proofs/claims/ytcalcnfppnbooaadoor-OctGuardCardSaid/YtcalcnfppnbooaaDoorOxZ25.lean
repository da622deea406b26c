import Derived.Test.YtcalcnfppnbooaaDoorOxSp
import Derived.Test.YtcalcnfppnbooaaDoorOxEb
import Derived.Test.YtcalcnfppnbooaaDoorOxZ0
import Derived.Test.YtcalcnfppnbooaaDoorOxZ6
import Derived.Test.YtcalcnfppnbooaaDoorOxZ23
import Derived.Test.YtcalcnfppnbooaaDoorOxZ24
-- Written by wip/xprint.py (the session's program over the kit's print).
namespace Go.Proofs.YtcalcnfppnbooaaDoor.Z
open Go.RowKit Go.Proofs.YtcalcnfppnbooaaDoorW.PrintWords Go.Proofs.YtcalcnfppnbooaaDoorW.PrintLast Go.Proofs.YtcalcnfppnbooaaDoorW.PrintMore Go.Proofs.Rcg
attribute [local go_sem] max2_int min2_int max_two min_two max_three min_three max_four min_four   -- for this text's walks alone
set_option linter.unusedVariables false
set_option linter.unusedSimpArgs false

/-! ### R2_HasOct: function 47 -/
mutual
def R2_HasOct.l0 : Nat → List Int → Int → Int → Int → List (S67) → Option (Bool)
 | 0, _, _, _, _, _ => none
 | k + 1, x1, x5, x6, x677000, x677001 => if x6 < x5 then (R2_HasOct.l1 k x1 x5 x6 0 x677000 x677001) else (some true)
def R2_HasOct.l1 : Nat → List Int → Int → Int → Int → Int → List (S67) → Option (Bool)
 | 0, _, _, _, _, _, _ => none
 | k + 1, x1, x5, x6, x7, x677000, x677001 => if x7 < x5 then (if 0 ≤ (wrap64 ((wrap64 (x6 * x5)) + x7)) then (if (wrap64 ((wrap64 (x6 * x5)) + x7)) < (x677001.length : Int) then (if (rd_T67 x677001 (wrap64 ((wrap64 (x6 * x5)) + x7))).f0 = true then ((R2_ValueOf.f x1 x7).bind fun t679 => ((R2_ValueOf.f x1 x6).bind fun t680 => (if (wrap64 (t679 - t680)) > ((rd_T67 x677001 (wrap64 ((wrap64 (x6 * x5)) + x7))).f1) then (some false) else (R2_HasOct.l1 k x1 x5 x6 (wrap64 (x7 + 1)) x677000 x677001)))) else (R2_HasOct.l1 k x1 x5 x6 (wrap64 (x7 + 1)) x677000 x677001)) else (none)) else (none)) else (R2_HasOct.l0 k x1 x5 (wrap64 (x6 + 1)) x677000 x677001)
end
def R2_HasOct.f (k : Nat) (a0_0 : Int) (l0_1 : List (S67)) (l1 : List Int) : Option (Bool) := R2_HasOct.l0 k l1 (wrap64 (2 * a0_0)) 0 a0_0 l0_1
theorem R2_HasOct.mono_l : ∀ k, (∀ y0 y1 y2 y3 y4, LeO (R2_HasOct.l0 k y0 y1 y2 y3 y4) (R2_HasOct.l0 (k + 1) y0 y1 y2 y3 y4)) ∧ (∀ y0 y1 y2 y3 y4 y5, LeO (R2_HasOct.l1 k y0 y1 y2 y3 y4 y5) (R2_HasOct.l1 (k + 1) y0 y1 y2 y3 y4 y5))
 | 0 => ⟨fun _ _ _ _ _ r h => by simp [R2_HasOct.l0] at h, fun _ _ _ _ _ _ r h => by simp [R2_HasOct.l1] at h⟩
 | k + 1 => by
  obtain ⟨ih0, ih1⟩ := R2_HasOct.mono_l k
  refine ⟨?_, ?_⟩
  ·intro y0 y1 y2 y3 y4
   unfold R2_HasOct.l0
   repeat' first
   | (with_reducible exact ih0 _ _ _ _ _)
   | (with_reducible exact ih1 _ _ _ _ _ _)
   | (with_reducible exact LeO.refl _)
   | (with_reducible exact LeO.none _)
   | (with_reducible refine LeO.ite ?_ ?_)
   | (with_reducible refine LeO.bind ?_ (fun _ => ?_))
   | exact ih0 _ _ _ _ _
   | exact ih1 _ _ _ _ _ _
   | exact LeO.none _
   | refine LeO.ite ?_ ?_
   | refine LeO.bind ?_ (fun _ => ?_)
  intro y0 y1 y2 y3 y4 y5
  unfold R2_HasOct.l1
  repeat' first
  | (with_reducible exact ih0 _ _ _ _ _)
  | (with_reducible exact ih1 _ _ _ _ _ _)
  | (with_reducible exact LeO.refl _)
  | (with_reducible exact LeO.none _)
  | (with_reducible refine LeO.ite ?_ ?_)
  | (with_reducible refine LeO.bind ?_ (fun _ => ?_))
  | exact ih0 _ _ _ _ _
  | exact ih1 _ _ _ _ _ _
  | exact LeO.none _
  | refine LeO.ite ?_ ?_
  | refine LeO.bind ?_ (fun _ => ?_)
theorem R2_HasOct.mono : ∀ a0 a1 a2 k, LeO (R2_HasOct.f k a0 a1 a2) (R2_HasOct.f (k + 1) a0 a1 a2) := by
 intro a0 a1 a2 k
 obtain ⟨ih0, ih1⟩ := R2_HasOct.mono_l k
 unfold R2_HasOct.f
 repeat' first
   | (with_reducible exact ih0 _ _ _ _ _)
   | (with_reducible exact ih1 _ _ _ _ _ _)
   | (with_reducible exact LeO.refl _)
   | (with_reducible exact LeO.none _)
   | (with_reducible refine LeO.ite ?_ ?_)
   | (with_reducible refine LeO.bind ?_ (fun _ => ?_))
   | exact ih0 _ _ _ _ _
   | exact ih1 _ _ _ _ _ _
   | exact LeO.none _
   | refine LeO.ite ?_ ?_
   | refine LeO.bind ?_ (fun _ => ?_)
/-! ### L2_noOct: function 48 -/
def L2_noOct.f (a0_0 : Int) (l0_1 : List (S146)) : Option (Bool) := if a0_0 = 0 then (some ((l0_1.length : Int) == 0)) else (some false)
set_option maxHeartbeats 8000000 in
set_option maxRecDepth 100000 in
theorem L2_noOct.calls [EA] (a0_0 : Int) (A0_1 : Option Addr) (c0_1 : Nat) (l0_1 : List (S146)) (r : Bool) (w : World) (hr0_1 : Kd.C k146 w A0_1 l0_1.length l0_1) (hc0_1 : l0_1.length ≤ c0_1) (h : L2_noOct.f a0_0 l0_1 = some r) :
  Calls Tryd.prog 48 #[.agg #[.int .i64 a0_0, .slice A0_1 l0_1.length c0_1]] w fun e w' => e = .returned (.bool r) ∧ Below w.heap.size w w' := by
 have hu74 := Tryd.underlying74
 have HR0_1 := am hr0_1
 have HC0_1 := am hc0_1
 clear hr0_1 hc0_1
 have HB := am (Below.refl w.heap.size w)
 have H : (if a0_0 = 0 then (some ((l0_1.length : Int) == 0)) else (some false)) = some r := h
 clear h
 by_cases c2 : a0_0 = 0
 ·rw [if_pos c2] at H
  have c2b0 : (a0_0 == 0) = true := beq_iff_eq.mpr c2
  have c2b1 : (a0_0 != 0) = false := bne_eq_false_iff_eq.mpr c2
  clear c2
  obtain rfl := Option.some.inj H
  go_enter Tryd.func48, Tryd.ntmps48
  go_wp2_with (first | ((with_reducible refine gate_dst (N := 1) rfl ?_); (try (refine gate_guard (by rfl) ?_; dsimp only)); refine box_event ?hg (N := 1) ?hd (cs := #[.int .i64 a0_0, .slice A0_1 l0_1.length c0_1]) (t := 74) ?hr ?_; (case hd => rfl); (case hg => rfl); (case hr => first | (go_simp; done) | (go_simp; rfl)); intro gb681 hg w3 hbox hb; have n0_ := am (below_step pw hb); have n1_ := am (hbox); have n2_ := am (sz (w := w) hg pw); have n3_ := am (sz (w := w) hg pw); clear HB; revert n0_ n1_ n2_ n3_; intro HB BK681 GW681 GE681; clear hb hbox hg; have hcz4_0 : w3.cell? ⟨gb681, 0, none⟩ = some (.int .i64 a0_0) := bc BK681 0; have hcz4_1 : w3.cell? ⟨gb681, 1, none⟩ = some (.slice A0_1 l0_1.length c0_1) := bc BK681 1; have hfz4_0 := blk_frozen BK681.out 0; have hfz4_1 := blk_frozen BK681.out 1))
  go_ret
  exact ⟨pe, pw⟩
 rw [if_neg c2] at H
 have c2b0 : (a0_0 == 0) = false := beq_eq_false_iff_ne.mpr c2
 have c2b1 : (a0_0 != 0) = true := bne_iff_ne.mpr c2
 obtain rfl := Option.some.inj H
 go_enter Tryd.func48, Tryd.ntmps48
 go_wp2_with (first | ((with_reducible refine gate_dst (N := 1) rfl ?_); (try (refine gate_guard (by rfl) ?_; dsimp only)); refine box_event ?hg (N := 1) ?hd (cs := #[.int .i64 a0_0, .slice A0_1 l0_1.length c0_1]) (t := 74) ?hr ?_; (case hd => rfl); (case hg => rfl); (case hr => first | (go_simp; done) | (go_simp; rfl)); intro gb681 hg w5 hbox hb; have n0_ := am (below_step pw hb); have n1_ := am (hbox); have n2_ := am (sz (w := w) hg pw); have n3_ := am (sz (w := w) hg pw); clear HB; revert n0_ n1_ n2_ n3_; intro HB BK681 GW681 GE681; clear hb hbox hg; have hcz6_0 : w5.cell? ⟨gb681, 0, none⟩ = some (.int .i64 a0_0) := bc BK681 0; have hcz6_1 : w5.cell? ⟨gb681, 1, none⟩ = some (.slice A0_1 l0_1.length c0_1) := bc BK681 1; have hfz6_0 := blk_frozen BK681.out 0; have hfz6_1 := blk_frozen BK681.out 1))
 go_ret
 exact ⟨pe, pw⟩

/-! ### R2_down: function 112 -/
def R2_down.f (a0 : Int) : Option (Int) := if a0 < 0 then (if (Int.tmod a0 2) = 0 then (some (wrap64 (Int.tdiv a0 2))) else (some (wrap64 ((wrap64 (Int.tdiv a0 2)) - 1)))) else (some (wrap64 (Int.tdiv a0 2)))
set_option maxHeartbeats 8000000 in
set_option maxRecDepth 100000 in
theorem R2_down.calls [EA] (a0 : Int) (r : Int) (w : World) (h : R2_down.f a0 = some r) :
  Calls Tryd.prog 112 #[.int .i64 a0] w fun e w' => e = .returned (.int .i64 r) ∧ Drawn0 w w' := by
 have H : (if a0 < 0 then (if (Int.tmod a0 2) = 0 then (some (wrap64 (Int.tdiv a0 2))) else (some (wrap64 ((wrap64 (Int.tdiv a0 2)) - 1)))) else (some (wrap64 (Int.tdiv a0 2)))) = some r := h
 clear h
 by_cases c2 : a0 < 0
 ·rw [if_pos c2] at H
  have c2b0 : decide (a0 < 0) = true := decide_eq_true c2
  clear c2
  by_cases c3 : (Int.tmod a0 2) = 0
  ·rw [if_pos c3] at H
   have c3b0 : ((Int.tmod a0 2) == 0) = true := beq_iff_eq.mpr c3; have c3b1 : ((Int.tmod a0 2) != 0) = false := bne_eq_false_iff_eq.mpr c3; clear c3; obtain rfl := Option.some.inj H; go_enter Tryd.func112, Tryd.ntmps112; go_wp2; go_ret; exact ⟨by first | rfl | (simp; done) | (simp [*]; done), by repeat (first | exact Drawn0.refl _ | apply Drawn0.step)⟩
  rw [if_neg c3] at H
  have c3b0 : ((Int.tmod a0 2) == 0) = false := beq_eq_false_iff_ne.mpr c3
  have c3b1 : ((Int.tmod a0 2) != 0) = true := bne_iff_ne.mpr c3
  obtain rfl := Option.some.inj H
  go_enter Tryd.func112, Tryd.ntmps112
  go_wp2
  go_ret
  exact ⟨by first | rfl | (simp; done) | (simp [*]; done), by repeat (first | exact Drawn0.refl _ | apply Drawn0.step)⟩
 rw [if_neg c2] at H
 have c2b0 : decide (a0 < 0) = false := decide_eq_false c2
 clear c2
 obtain rfl := Option.some.inj H
 go_enter Tryd.func112, Tryd.ntmps112
 go_wp2
 go_ret
 exact ⟨by first | rfl | (simp; done) | (simp [*]; done), by repeat (first | exact Drawn0.refl _ | apply Drawn0.step)⟩

/-! ### R2_ClosedOct: function 49 -/
mutual
def R2_ClosedOct.l0 : Nat → Int → Int → Int → List (S67) → Option (Int × (List (S67)) × Bool)
 | 0, _, _, _, _ => none
 | k + 1, x4, x6, x685000, x685001 => if x6 < x4 then ((R2_lower.f x685001 (wrap64 ((wrap64 (x6 * x4)) + x6)) 0).bind fun bt688 => (R2_ClosedOct.l0 k x4 (wrap64 (x6 + 1)) x685000 bt688.2)) else (R2_ClosedOct.l1 k x4 true x685000 x685001)
def R2_ClosedOct.l1 : Nat → Int → Bool → Int → List (S67) → Option (Int × (List (S67)) × Bool)
 | 0, _, _, _, _ => none
 | k + 1, x4, x7, x685000, x685001 => if x7 = true then (R2_ClosedOct.l2 k x4 false 0 x685000 x685001) else ((R2_clip.f k x685001).bind fun t690 => (some (x685000, t690, true)))
def R2_ClosedOct.l2 : Nat → Int → Bool → Int → Int → List (S67) → Option (Int × (List (S67)) × Bool)
 | 0, _, _, _, _, _ => none
 | k + 1, x4, x7, x8, x685000, x685001 => if x8 < x4 then (if 0 ≤ (wrap64 ((wrap64 (x8 * x4)) + x8)) then (if (wrap64 ((wrap64 (x8 * x4)) + x8)) < (x685001.length : Int) then (if ((rd_T67 x685001 (wrap64 ((wrap64 (x8 * x4)) + x8))).f1) < 0 then (some (0, ([] : List (S67)), false)) else ((R2_other.f x8).bind fun t692 => (if 0 ≤ (wrap64 ((wrap64 (x8 * x4)) + t692)) then (if (wrap64 ((wrap64 (x8 * x4)) + t692)) < (x685001.length : Int) then (if (rd_T67 x685001 (wrap64 ((wrap64 (x8 * x4)) + t692))).f0 = true then ((R2_other.f x8).bind fun t695 => ((R2_down.f ((rd_T67 x685001 (wrap64 ((wrap64 (x8 * x4)) + t692))).f1)).bind fun t696 => ((R2_lower.f x685001 (wrap64 ((wrap64 (x8 * x4)) + t695)) (wrap64 (2 * t696))).bind fun bt697 => (R2_ClosedOct.j3 k x4 x7 x8 bt697.1 x685000 bt697.2)))) else (R2_ClosedOct.j3 k x4 x7 x8 false x685000 x685001)) else (none)) else (none)))) else (none)) else (none)) else (R2_ClosedOct.l1 k x4 x7 x685000 x685001)
def R2_ClosedOct.j3 : Nat → Int → Bool → Int → Bool → Int → List (S67) → Option (Int × (List (S67)) × Bool)
 | 0, _, _, _, _, _, _ => none
 | k + 1, x4, x7, x8, x85, x685000, x685001 => if x85 = true then (R2_ClosedOct.j4 k x4 true x8 x685000 x685001) else (R2_ClosedOct.j4 k x4 x7 x8 x685000 x685001)
def R2_ClosedOct.j4 : Nat → Int → Bool → Int → Int → List (S67) → Option (Int × (List (S67)) × Bool)
 | 0, _, _, _, _, _ => none
 | k + 1, x4, x7, x8, x685000, x685001 => R2_ClosedOct.l3 k x4 x7 x8 0 x685000 x685001
def R2_ClosedOct.l3 : Nat → Int → Bool → Int → Int → Int → List (S67) → Option (Int × (List (S67)) × Bool)
 | 0, _, _, _, _, _, _ => none
 | k + 1, x4, x7, x8, x10, x685000, x685001 => if x10 < x4 then ((R2_other.f x8).bind fun t699 => (if 0 ≤ (wrap64 ((wrap64 (x8 * x4)) + t699)) then (if (wrap64 ((wrap64 (x8 * x4)) + t699)) < (x685001.length : Int) then ((R2_other.f x10).bind fun t702 => (if 0 ≤ (wrap64 ((wrap64 (t702 * x4)) + x10)) then (if (wrap64 ((wrap64 (t702 * x4)) + x10)) < (x685001.length : Int) then (if (rd_T67 x685001 (wrap64 ((wrap64 (x8 * x4)) + t699))).f0 = true then (if (rd_T67 x685001 (wrap64 ((wrap64 (t702 * x4)) + x10))).f0 = true then ((R2_down.f (wrap64 (((rd_T67 x685001 (wrap64 ((wrap64 (x8 * x4)) + t699))).f1) + ((rd_T67 x685001 (wrap64 ((wrap64 (t702 * x4)) + x10))).f1)))).bind fun t705 => ((R2_lower.f x685001 (wrap64 ((wrap64 (x8 * x4)) + x10)) t705).bind fun bt706 => (R2_ClosedOct.j6 k x4 x7 x8 x10 bt706.1 x685000 bt706.2))) else (R2_ClosedOct.j6 k x4 x7 x8 x10 false x685000 x685001)) else (R2_ClosedOct.j6 k x4 x7 x8 x10 false x685000 x685001)) else (none)) else (none))) else (none)) else (none))) else (R2_ClosedOct.l2 k x4 x7 (wrap64 (x8 + 1)) x685000 x685001)
def R2_ClosedOct.j6 : Nat → Int → Bool → Int → Int → Bool → Int → List (S67) → Option (Int × (List (S67)) × Bool)
 | 0, _, _, _, _, _, _, _ => none
 | k + 1, x4, x7, x8, x10, x132, x685000, x685001 => if x132 = true then (R2_ClosedOct.j7 k x4 true x8 x10 x685000 x685001) else (R2_ClosedOct.j7 k x4 x7 x8 x10 x685000 x685001)
def R2_ClosedOct.j7 : Nat → Int → Bool → Int → Int → Int → List (S67) → Option (Int × (List (S67)) × Bool)
 | 0, _, _, _, _, _, _ => none
 | k + 1, x4, x7, x8, x10, x685000, x685001 => R2_ClosedOct.l4 k x4 x7 x8 x10 0 x685000 x685001
def R2_ClosedOct.l4 : Nat → Int → Bool → Int → Int → Int → Int → List (S67) → Option (Int × (List (S67)) × Bool)
 | 0, _, _, _, _, _, _, _ => none
 | k + 1, x4, x7, x8, x10, x13, x685000, x685001 => if x13 < x4 then (if 0 ≤ (wrap64 ((wrap64 (x8 * x4)) + x13)) then (if (wrap64 ((wrap64 (x8 * x4)) + x13)) < (x685001.length : Int) then (if 0 ≤ (wrap64 ((wrap64 (x13 * x4)) + x10)) then (if (wrap64 ((wrap64 (x13 * x4)) + x10)) < (x685001.length : Int) then (if (rd_T67 x685001 (wrap64 ((wrap64 (x8 * x4)) + x13))).f0 = true then (if (rd_T67 x685001 (wrap64 ((wrap64 (x13 * x4)) + x10))).f0 = true then ((R2_lower.f x685001 (wrap64 ((wrap64 (x8 * x4)) + x10)) (wrap64 (((rd_T67 x685001 (wrap64 ((wrap64 (x8 * x4)) + x13))).f1) + ((rd_T67 x685001 (wrap64 ((wrap64 (x13 * x4)) + x10))).f1)))).bind fun bt712 => (if bt712.1 = true then (R2_ClosedOct.l4 k x4 true x8 x10 (wrap64 (x13 + 1)) x685000 bt712.2) else (R2_ClosedOct.l4 k x4 x7 x8 x10 (wrap64 (x13 + 1)) x685000 bt712.2))) else (R2_ClosedOct.l4 k x4 x7 x8 x10 (wrap64 (x13 + 1)) x685000 x685001)) else (R2_ClosedOct.l4 k x4 x7 x8 x10 (wrap64 (x13 + 1)) x685000 x685001)) else (none)) else (none)) else (none)) else (none)) else (R2_ClosedOct.l3 k x4 x7 x8 (wrap64 (x10 + 1)) x685000 x685001)
end
def R2_ClosedOct.f (k : Nat) (a0_0 : Int) (l0_1 : List (S67)) : Option (Int × (List (S67)) × Bool) := if ([] : List (S67)).length + l0_1.length < 8796093022208 then (R2_ClosedOct.l0 k (wrap64 (2 * a0_0)) 0 a0_0 (([] : List (S67)) ++ l0_1)) else (none)
theorem R2_ClosedOct.mono_l : ∀ k, (∀ y0 y1 y2 y3, LeO (R2_ClosedOct.l0 k y0 y1 y2 y3) (R2_ClosedOct.l0 (k + 1) y0 y1 y2 y3)) ∧ (∀ y0 y1 y2 y3, LeO (R2_ClosedOct.l1 k y0 y1 y2 y3) (R2_ClosedOct.l1 (k + 1) y0 y1 y2 y3)) ∧ (∀ y0 y1 y2 y3 y4, LeO (R2_ClosedOct.l2 k y0 y1 y2 y3 y4) (R2_ClosedOct.l2 (k + 1) y0 y1 y2 y3 y4)) ∧ (∀ y0 y1 y2 y3 y4 y5, LeO (R2_ClosedOct.j3 k y0 y1 y2 y3 y4 y5) (R2_ClosedOct.j3 (k + 1) y0 y1 y2 y3 y4 y5)) ∧ (∀ y0 y1 y2 y3 y4, LeO (R2_ClosedOct.j4 k y0 y1 y2 y3 y4) (R2_ClosedOct.j4 (k + 1) y0 y1 y2 y3 y4)) ∧ (∀ y0 y1 y2 y3 y4 y5, LeO (R2_ClosedOct.l3 k y0 y1 y2 y3 y4 y5) (R2_ClosedOct.l3 (k + 1) y0 y1 y2 y3 y4 y5)) ∧ (∀ y0 y1 y2 y3 y4 y5 y6, LeO (R2_ClosedOct.j6 k y0 y1 y2 y3 y4 y5 y6) (R2_ClosedOct.j6 (k + 1) y0 y1 y2 y3 y4 y5 y6)) ∧ (∀ y0 y1 y2 y3 y4 y5, LeO (R2_ClosedOct.j7 k y0 y1 y2 y3 y4 y5) (R2_ClosedOct.j7 (k + 1) y0 y1 y2 y3 y4 y5)) ∧ (∀ y0 y1 y2 y3 y4 y5 y6, LeO (R2_ClosedOct.l4 k y0 y1 y2 y3 y4 y5 y6) (R2_ClosedOct.l4 (k + 1) y0 y1 y2 y3 y4 y5 y6))
 | 0 => ⟨fun _ _ _ _ r h => by simp [R2_ClosedOct.l0] at h, fun _ _ _ _ r h => by simp [R2_ClosedOct.l1] at h, fun _ _ _ _ _ r h => by simp [R2_ClosedOct.l2] at h, fun _ _ _ _ _ _ r h => by simp [R2_ClosedOct.j3] at h, fun _ _ _ _ _ r h => by simp [R2_ClosedOct.j4] at h, fun _ _ _ _ _ _ r h => by simp [R2_ClosedOct.l3] at h, fun _ _ _ _ _ _ _ r h => by simp [R2_ClosedOct.j6] at h, fun _ _ _ _ _ _ r h => by simp [R2_ClosedOct.j7] at h, fun _ _ _ _ _ _ _ r h => by simp [R2_ClosedOct.l4] at h⟩
 | k + 1 => by
  obtain ⟨ih0, ih1, ih2, ih3, ih4, ih5, ih6, ih7, ih8⟩ := R2_ClosedOct.mono_l k
  refine ⟨?_, ?_, ?_, ?_, ?_, ?_, ?_, ?_, ?_⟩
  ·intro y0 y1 y2 y3
   unfold R2_ClosedOct.l0
   repeat' first
   | (with_reducible exact ih0 _ _ _ _)
   | (with_reducible exact ih1 _ _ _ _)
   | (with_reducible exact ih2 _ _ _ _ _)
   | (with_reducible exact ih3 _ _ _ _ _ _)
   | (with_reducible exact ih4 _ _ _ _ _)
   | (with_reducible exact ih5 _ _ _ _ _ _)
   | (with_reducible exact ih6 _ _ _ _ _ _ _)
   | (with_reducible exact ih7 _ _ _ _ _ _)
   | (with_reducible exact ih8 _ _ _ _ _ _ _)
   | (with_reducible exact R2_clip.mono _ _)
   | (with_reducible exact LeO.refl _)
   | (with_reducible exact LeO.none _)
   | (with_reducible refine LeO.ite ?_ ?_)
   | (with_reducible refine LeO.bind ?_ (fun _ => ?_))
   | exact ih0 _ _ _ _
   | exact ih1 _ _ _ _
   | exact ih2 _ _ _ _ _
   | exact ih3 _ _ _ _ _ _
   | exact ih4 _ _ _ _ _
   | exact ih5 _ _ _ _ _ _
   | exact ih6 _ _ _ _ _ _ _
   | exact ih7 _ _ _ _ _ _
   | exact ih8 _ _ _ _ _ _ _
   | exact R2_clip.mono _ _
   | exact LeO.none _
   | refine LeO.ite ?_ ?_
   | refine LeO.bind ?_ (fun _ => ?_)
  ·intro y0 y1 y2 y3
   unfold R2_ClosedOct.l1
   repeat' first
   | (with_reducible exact ih0 _ _ _ _)
   | (with_reducible exact ih1 _ _ _ _)
   | (with_reducible exact ih2 _ _ _ _ _)
   | (with_reducible exact ih3 _ _ _ _ _ _)
   | (with_reducible exact ih4 _ _ _ _ _)
   | (with_reducible exact ih5 _ _ _ _ _ _)
   | (with_reducible exact ih6 _ _ _ _ _ _ _)
   | (with_reducible exact ih7 _ _ _ _ _ _)
   | (with_reducible exact ih8 _ _ _ _ _ _ _)
   | (with_reducible exact R2_clip.mono _ _)
   | (with_reducible exact LeO.refl _)
   | (with_reducible exact LeO.none _)
   | (with_reducible refine LeO.ite ?_ ?_)
   | (with_reducible refine LeO.bind ?_ (fun _ => ?_))
   | exact ih0 _ _ _ _
   | exact ih1 _ _ _ _
   | exact ih2 _ _ _ _ _
   | exact ih3 _ _ _ _ _ _
   | exact ih4 _ _ _ _ _
   | exact ih5 _ _ _ _ _ _
   | exact ih6 _ _ _ _ _ _ _
   | exact ih7 _ _ _ _ _ _
   | exact ih8 _ _ _ _ _ _ _
   | exact R2_clip.mono _ _
   | exact LeO.none _
   | refine LeO.ite ?_ ?_
   | refine LeO.bind ?_ (fun _ => ?_)
  ·intro y0 y1 y2 y3 y4
   unfold R2_ClosedOct.l2
   repeat' first
   | (with_reducible exact ih0 _ _ _ _)
   | (with_reducible exact ih1 _ _ _ _)
   | (with_reducible exact ih2 _ _ _ _ _)
   | (with_reducible exact ih3 _ _ _ _ _ _)
   | (with_reducible exact ih4 _ _ _ _ _)
   | (with_reducible exact ih5 _ _ _ _ _ _)
   | (with_reducible exact ih6 _ _ _ _ _ _ _)
   | (with_reducible exact ih7 _ _ _ _ _ _)
   | (with_reducible exact ih8 _ _ _ _ _ _ _)
   | (with_reducible exact R2_clip.mono _ _)
   | (with_reducible exact LeO.refl _)
   | (with_reducible exact LeO.none _)
   | (with_reducible refine LeO.ite ?_ ?_)
   | (with_reducible refine LeO.bind ?_ (fun _ => ?_))
   | exact ih0 _ _ _ _
   | exact ih1 _ _ _ _
   | exact ih2 _ _ _ _ _
   | exact ih3 _ _ _ _ _ _
   | exact ih4 _ _ _ _ _
   | exact ih5 _ _ _ _ _ _
   | exact ih6 _ _ _ _ _ _ _
   | exact ih7 _ _ _ _ _ _
   | exact ih8 _ _ _ _ _ _ _
   | exact R2_clip.mono _ _
   | exact LeO.none _
   | refine LeO.ite ?_ ?_
   | refine LeO.bind ?_ (fun _ => ?_)
  ·intro y0 y1 y2 y3 y4 y5
   unfold R2_ClosedOct.j3
   repeat' first
   | (with_reducible exact ih0 _ _ _ _)
   | (with_reducible exact ih1 _ _ _ _)
   | (with_reducible exact ih2 _ _ _ _ _)
   | (with_reducible exact ih3 _ _ _ _ _ _)
   | (with_reducible exact ih4 _ _ _ _ _)
   | (with_reducible exact ih5 _ _ _ _ _ _)
   | (with_reducible exact ih6 _ _ _ _ _ _ _)
   | (with_reducible exact ih7 _ _ _ _ _ _)
   | (with_reducible exact ih8 _ _ _ _ _ _ _)
   | (with_reducible exact R2_clip.mono _ _)
   | (with_reducible exact LeO.refl _)
   | (with_reducible exact LeO.none _)
   | (with_reducible refine LeO.ite ?_ ?_)
   | (with_reducible refine LeO.bind ?_ (fun _ => ?_))
   | exact ih0 _ _ _ _
   | exact ih1 _ _ _ _
   | exact ih2 _ _ _ _ _
   | exact ih3 _ _ _ _ _ _
   | exact ih4 _ _ _ _ _
   | exact ih5 _ _ _ _ _ _
   | exact ih6 _ _ _ _ _ _ _
   | exact ih7 _ _ _ _ _ _
   | exact ih8 _ _ _ _ _ _ _
   | exact R2_clip.mono _ _
   | exact LeO.none _
   | refine LeO.ite ?_ ?_
   | refine LeO.bind ?_ (fun _ => ?_)
  ·intro y0 y1 y2 y3 y4
   unfold R2_ClosedOct.j4
   repeat' first
   | (with_reducible exact ih0 _ _ _ _)
   | (with_reducible exact ih1 _ _ _ _)
   | (with_reducible exact ih2 _ _ _ _ _)
   | (with_reducible exact ih3 _ _ _ _ _ _)
   | (with_reducible exact ih4 _ _ _ _ _)
   | (with_reducible exact ih5 _ _ _ _ _ _)
   | (with_reducible exact ih6 _ _ _ _ _ _ _)
   | (with_reducible exact ih7 _ _ _ _ _ _)
   | (with_reducible exact ih8 _ _ _ _ _ _ _)
   | (with_reducible exact R2_clip.mono _ _)
   | (with_reducible exact LeO.refl _)
   | (with_reducible exact LeO.none _)
   | (with_reducible refine LeO.ite ?_ ?_)
   | (with_reducible refine LeO.bind ?_ (fun _ => ?_))
   | exact ih0 _ _ _ _
   | exact ih1 _ _ _ _
   | exact ih2 _ _ _ _ _
   | exact ih3 _ _ _ _ _ _
   | exact ih4 _ _ _ _ _
   | exact ih5 _ _ _ _ _ _
   | exact ih6 _ _ _ _ _ _ _
   | exact ih7 _ _ _ _ _ _
   | exact ih8 _ _ _ _ _ _ _
   | exact R2_clip.mono _ _
   | exact LeO.none _
   | refine LeO.ite ?_ ?_
   | refine LeO.bind ?_ (fun _ => ?_)
  ·intro y0 y1 y2 y3 y4 y5
   unfold R2_ClosedOct.l3
   repeat' first
   | (with_reducible exact ih0 _ _ _ _)
   | (with_reducible exact ih1 _ _ _ _)
   | (with_reducible exact ih2 _ _ _ _ _)
   | (with_reducible exact ih3 _ _ _ _ _ _)
   | (with_reducible exact ih4 _ _ _ _ _)
   | (with_reducible exact ih5 _ _ _ _ _ _)
   | (with_reducible exact ih6 _ _ _ _ _ _ _)
   | (with_reducible exact ih7 _ _ _ _ _ _)
   | (with_reducible exact ih8 _ _ _ _ _ _ _)
   | (with_reducible exact R2_clip.mono _ _)
   | (with_reducible exact LeO.refl _)
   | (with_reducible exact LeO.none _)
   | (with_reducible refine LeO.ite ?_ ?_)
   | (with_reducible refine LeO.bind ?_ (fun _ => ?_))
   | exact ih0 _ _ _ _
   | exact ih1 _ _ _ _
   | exact ih2 _ _ _ _ _
   | exact ih3 _ _ _ _ _ _
   | exact ih4 _ _ _ _ _
   | exact ih5 _ _ _ _ _ _
   | exact ih6 _ _ _ _ _ _ _
   | exact ih7 _ _ _ _ _ _
   | exact ih8 _ _ _ _ _ _ _
   | exact R2_clip.mono _ _
   | exact LeO.none _
   | refine LeO.ite ?_ ?_
   | refine LeO.bind ?_ (fun _ => ?_)
  ·intro y0 y1 y2 y3 y4 y5 y6
   unfold R2_ClosedOct.j6
   repeat' first
   | (with_reducible exact ih0 _ _ _ _)
   | (with_reducible exact ih1 _ _ _ _)
   | (with_reducible exact ih2 _ _ _ _ _)
   | (with_reducible exact ih3 _ _ _ _ _ _)
   | (with_reducible exact ih4 _ _ _ _ _)
   | (with_reducible exact ih5 _ _ _ _ _ _)
   | (with_reducible exact ih6 _ _ _ _ _ _ _)
   | (with_reducible exact ih7 _ _ _ _ _ _)
   | (with_reducible exact ih8 _ _ _ _ _ _ _)
   | (with_reducible exact R2_clip.mono _ _)
   | (with_reducible exact LeO.refl _)
   | (with_reducible exact LeO.none _)
   | (with_reducible refine LeO.ite ?_ ?_)
   | (with_reducible refine LeO.bind ?_ (fun _ => ?_))
   | exact ih0 _ _ _ _
   | exact ih1 _ _ _ _
   | exact ih2 _ _ _ _ _
   | exact ih3 _ _ _ _ _ _
   | exact ih4 _ _ _ _ _
   | exact ih5 _ _ _ _ _ _
   | exact ih6 _ _ _ _ _ _ _
   | exact ih7 _ _ _ _ _ _
   | exact ih8 _ _ _ _ _ _ _
   | exact R2_clip.mono _ _
   | exact LeO.none _
   | refine LeO.ite ?_ ?_
   | refine LeO.bind ?_ (fun _ => ?_)
  ·intro y0 y1 y2 y3 y4 y5
   unfold R2_ClosedOct.j7
   repeat' first
   | (with_reducible exact ih0 _ _ _ _)
   | (with_reducible exact ih1 _ _ _ _)
   | (with_reducible exact ih2 _ _ _ _ _)
   | (with_reducible exact ih3 _ _ _ _ _ _)
   | (with_reducible exact ih4 _ _ _ _ _)
   | (with_reducible exact ih5 _ _ _ _ _ _)
   | (with_reducible exact ih6 _ _ _ _ _ _ _)
   | (with_reducible exact ih7 _ _ _ _ _ _)
   | (with_reducible exact ih8 _ _ _ _ _ _ _)
   | (with_reducible exact R2_clip.mono _ _)
   | (with_reducible exact LeO.refl _)
   | (with_reducible exact LeO.none _)
   | (with_reducible refine LeO.ite ?_ ?_)
   | (with_reducible refine LeO.bind ?_ (fun _ => ?_))
   | exact ih0 _ _ _ _
   | exact ih1 _ _ _ _
   | exact ih2 _ _ _ _ _
   | exact ih3 _ _ _ _ _ _
   | exact ih4 _ _ _ _ _
   | exact ih5 _ _ _ _ _ _
   | exact ih6 _ _ _ _ _ _ _
   | exact ih7 _ _ _ _ _ _
   | exact ih8 _ _ _ _ _ _ _
   | exact R2_clip.mono _ _
   | exact LeO.none _
   | refine LeO.ite ?_ ?_
   | refine LeO.bind ?_ (fun _ => ?_)
  intro y0 y1 y2 y3 y4 y5 y6
  unfold R2_ClosedOct.l4
  repeat' first
  | (with_reducible exact ih0 _ _ _ _)
  | (with_reducible exact ih1 _ _ _ _)
  | (with_reducible exact ih2 _ _ _ _ _)
  | (with_reducible exact ih3 _ _ _ _ _ _)
  | (with_reducible exact ih4 _ _ _ _ _)
  | (with_reducible exact ih5 _ _ _ _ _ _)
  | (with_reducible exact ih6 _ _ _ _ _ _ _)
  | (with_reducible exact ih7 _ _ _ _ _ _)
  | (with_reducible exact ih8 _ _ _ _ _ _ _)
  | (with_reducible exact R2_clip.mono _ _)
  | (with_reducible exact LeO.refl _)
  | (with_reducible exact LeO.none _)
  | (with_reducible refine LeO.ite ?_ ?_)
  | (with_reducible refine LeO.bind ?_ (fun _ => ?_))
  | exact ih0 _ _ _ _
  | exact ih1 _ _ _ _
  | exact ih2 _ _ _ _ _
  | exact ih3 _ _ _ _ _ _
  | exact ih4 _ _ _ _ _
  | exact ih5 _ _ _ _ _ _
  | exact ih6 _ _ _ _ _ _ _
  | exact ih7 _ _ _ _ _ _
  | exact ih8 _ _ _ _ _ _ _
  | exact R2_clip.mono _ _
  | exact LeO.none _
  | refine LeO.ite ?_ ?_
  | refine LeO.bind ?_ (fun _ => ?_)
theorem R2_ClosedOct.mono : ∀ a0 a1 k, LeO (R2_ClosedOct.f k a0 a1) (R2_ClosedOct.f (k + 1) a0 a1) := by
 intro a0 a1 k
 obtain ⟨ih0, ih1, ih2, ih3, ih4, ih5, ih6, ih7, ih8⟩ := R2_ClosedOct.mono_l k
 unfold R2_ClosedOct.f
 repeat' first
   | (with_reducible exact ih0 _ _ _ _)
   | (with_reducible exact ih1 _ _ _ _)
   | (with_reducible exact ih2 _ _ _ _ _)
   | (with_reducible exact ih3 _ _ _ _ _ _)
   | (with_reducible exact ih4 _ _ _ _ _)
   | (with_reducible exact ih5 _ _ _ _ _ _)
   | (with_reducible exact ih6 _ _ _ _ _ _ _)
   | (with_reducible exact ih7 _ _ _ _ _ _)
   | (with_reducible exact ih8 _ _ _ _ _ _ _)
   | (with_reducible exact R2_clip.mono _ _)
   | (with_reducible exact LeO.refl _)
   | (with_reducible exact LeO.none _)
   | (with_reducible refine LeO.ite ?_ ?_)
   | (with_reducible refine LeO.bind ?_ (fun _ => ?_))
   | exact ih0 _ _ _ _
   | exact ih1 _ _ _ _
   | exact ih2 _ _ _ _ _
   | exact ih3 _ _ _ _ _ _
   | exact ih4 _ _ _ _ _
   | exact ih5 _ _ _ _ _ _
   | exact ih6 _ _ _ _ _ _ _
   | exact ih7 _ _ _ _ _ _
   | exact ih8 _ _ _ _ _ _ _
   | exact R2_clip.mono _ _
   | exact LeO.none _
   | refine LeO.ite ?_ ?_
   | refine LeO.bind ?_ (fun _ => ?_)
def R2_ClosedOct.T16 : Bool × List (List Nat × List Nat) := (true, [([], []), ([0], [0]), ([], []), ([], []), ([2, 3], [2, 3]), ([], []), ([5], [5]), ([4, 6], [4, 6]), ([1, 7], [1, 7]), ([8], [8]), ([], []), ([10, 9, 6, 0, 1, 2, 3, 4, 5, 6, 7, 8, 9, 10], [9, 10])])
def R2_ClosedOct.B16 : List Nat := [0, 1, 0, 0, 12, 0, 32, 124, 255, 511, 0, 2047]
theorem R2_ClosedOct.tab16 : rtab .any (opsOf Tryd.f49 16) = R2_ClosedOct.T16 := by kernel_rfl
theorem R2_ClosedOct.bits16 : waitsOk R2_ClosedOct.T16.2 R2_ClosedOct.B16 = true := by kernel_rfl
def R2_ClosedOct.T17 : Bool × List (List Nat × List Nat) := (true, [([], []), ([0], [0]), ([1], [1]), ([2], [2]), ([3, 2], [2, 3]), ([2], [2]), ([2], [2]), ([5, 6, 2], [2, 5, 6]), ([2], [2]), ([8, 2, 2], [2, 8]), ([7, 9, 2], [2, 7, 9]), ([2], [2]), ([11, 2], [2, 11]), ([12, 9, 2], [2, 12]), ([13, 2], [2, 13]), ([4, 10, 14, 13, 2], [2, 4, 10, 14]), ([2, 15], [2, 15])])
def R2_ClosedOct.B17 : List Nat := [0, 1, 3, 7, 15, 7, 7, 103, 7, 263, 999, 7, 2055, 6919, 15111, 32767, 65535]
theorem R2_ClosedOct.tab17 : rtab .any (opsOf Tryd.f49 17) = R2_ClosedOct.T17 := by kernel_rfl
theorem R2_ClosedOct.bits17 : waitsOk R2_ClosedOct.T17.2 R2_ClosedOct.B17 = true := by kernel_rfl
def R2_ClosedOct.T22 : Bool × List (List Nat × List Nat) := (true, [([], []), ([0], [0]), ([], []), ([], []), ([2, 3], [2, 3]), ([], []), ([5], [5]), ([4, 6], [4, 6]), ([1, 7], [1, 7]), ([8], [8]), ([], []), ([10, 9, 6, 0, 1, 2, 3, 4, 5, 6, 7, 8, 9, 10], [9, 10])])
def R2_ClosedOct.B22 : List Nat := [0, 1, 0, 0, 12, 0, 32, 124, 255, 511, 0, 2047]
theorem R2_ClosedOct.tab22 : rtab .any (opsOf Tryd.f49 22) = R2_ClosedOct.T22 := by kernel_rfl
theorem R2_ClosedOct.bits22 : waitsOk R2_ClosedOct.T22.2 R2_ClosedOct.B22 = true := by kernel_rfl
def R2_ClosedOct.T23 : Bool × List (List Nat × List Nat) := (true, [([], []), ([0], [0]), ([], []), ([2], [2]), ([], []), ([3, 4], [3, 4]), ([], []), ([5, 6], [5, 6]), ([1, 7], [1, 7]), ([8], [8]), ([], []), ([10, 9, 3, 0, 1, 2, 3, 4, 5, 6, 7, 8, 9, 10], [9, 10])])
def R2_ClosedOct.B23 : List Nat := [0, 1, 0, 4, 0, 28, 0, 124, 255, 511, 0, 2047]
theorem R2_ClosedOct.tab23 : rtab .any (opsOf Tryd.f49 23) = R2_ClosedOct.T23 := by kernel_rfl
theorem R2_ClosedOct.bits23 : waitsOk R2_ClosedOct.T23.2 R2_ClosedOct.B23 = true := by kernel_rfl
def R2_ClosedOct.T24 : Bool × List (List Nat × List Nat) := (true, [([], []), ([0], [0]), ([1], [1]), ([2], [2]), ([3, 2], [2, 3]), ([2, 4], [2, 4]), ([5, 2], [5]), ([6], [6]), ([7, 6], [6, 7]), ([6], [6]), ([6], [6]), ([9, 10, 6], [6, 9, 10]), ([6], [6]), ([11, 12, 6], [6, 11, 12]), ([6], [6]), ([14, 6], [6, 14]), ([6], [6]), ([16, 6], [6, 16]), ([15, 17, 6], [6, 15, 17]), ([18, 6, 6], [6, 18]), ([8, 13, 19, 19, 6], [6, 8, 13, 19]), ([6, 20], [6, 20])])
def R2_ClosedOct.B24 : List Nat := [0, 1, 3, 7, 15, 31, 63, 127, 255, 127, 127, 1663, 127, 7807, 127, 16511, 127, 65663, 245887, 508031, 1048575, 2097151]
theorem R2_ClosedOct.tab24 : rtab .any (opsOf Tryd.f49 24) = R2_ClosedOct.T24 := by kernel_rfl
theorem R2_ClosedOct.bits24 : waitsOk R2_ClosedOct.T24.2 R2_ClosedOct.B24 = true := by kernel_rfl

end Go.Proofs.YtcalcnfppnbooaaDoor.Z
