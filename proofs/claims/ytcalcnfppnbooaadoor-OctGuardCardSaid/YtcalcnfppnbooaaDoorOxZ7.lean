import Derived.Test.YtcalcnfppnbooaaDoorOxSp
import Derived.Test.YtcalcnfppnbooaaDoorOxEb
import Derived.Test.YtcalcnfppnbooaaDoorOxZ0
import Derived.Test.YtcalcnfppnbooaaDoorOxZ6
-- Written by wip/xprint.py (the session's program over the kit's print).
namespace Go.Proofs.YtcalcnfppnbooaaDoor.Z
open Go.RowKit Go.Proofs.YtcalcnfppnbooaaDoorW.PrintWords Go.Proofs.YtcalcnfppnbooaaDoorW.PrintLast Go.Proofs.YtcalcnfppnbooaaDoorW.PrintMore Go.Proofs.Rcg
attribute [local go_sem] max2_int min2_int max_two min_two max_three min_three max_four min_four   -- for this text's walks alone
set_option linter.unusedVariables false
set_option linter.unusedSimpArgs false

/-! ### R2_ClosedZone: function 26 -/
mutual
def R2_ClosedZone.l0 : Nat → Int → Int → Int → List (S67) → Option (Int × (List (S67)) × Bool)
 | 0, _, _, _, _ => none
 | k + 1, x4, x6, x190000, x190001 => if x6 < x4 then ((R2_lower.f x190001 (wrap64 ((wrap64 (x6 * x4)) + x6)) 0).bind fun bt193 => (R2_ClosedZone.l0 k x4 (wrap64 (x6 + 1)) x190000 bt193.2)) else (R2_ClosedZone.l1 k x4 0 x190000 x190001)
def R2_ClosedZone.l1 : Nat → Int → Int → Int → List (S67) → Option (Int × (List (S67)) × Bool)
 | 0, _, _, _, _ => none
 | k + 1, x4, x7, x190000, x190001 => if x7 ≤ x4 then (R2_ClosedZone.l2 k x4 x7 0 x190000 x190001) else (R2_ClosedZone.l5 k x4 0 x190000 x190001)
def R2_ClosedZone.l2 : Nat → Int → Int → Int → Int → List (S67) → Option (Int × (List (S67)) × Bool)
 | 0, _, _, _, _, _ => none
 | k + 1, x4, x7, x8, x190000, x190001 => if x8 < x4 then (R2_ClosedZone.l3 k x4 x7 x8 0 x190000 x190001) else (R2_ClosedZone.l1 k x4 (wrap64 (x7 + 1)) x190000 x190001)
def R2_ClosedZone.l3 : Nat → Int → Int → Int → Int → Int → List (S67) → Option (Int × (List (S67)) × Bool)
 | 0, _, _, _, _, _, _ => none
 | k + 1, x4, x7, x8, x9, x190000, x190001 => if x9 < x4 then (R2_ClosedZone.l4 k x4 x7 x8 x9 0 x190000 x190001) else (R2_ClosedZone.l2 k x4 x7 (wrap64 (x8 + 1)) x190000 x190001)
def R2_ClosedZone.l4 : Nat → Int → Int → Int → Int → Int → Int → List (S67) → Option (Int × (List (S67)) × Bool)
 | 0, _, _, _, _, _, _, _ => none
 | k + 1, x4, x7, x8, x9, x10, x190000, x190001 => if x10 < x4 then (if 0 ≤ (wrap64 ((wrap64 (x8 * x4)) + x10)) then (if (wrap64 ((wrap64 (x8 * x4)) + x10)) < (x190001.length : Int) then (if 0 ≤ (wrap64 ((wrap64 (x10 * x4)) + x9)) then (if (wrap64 ((wrap64 (x10 * x4)) + x9)) < (x190001.length : Int) then (if (rd_T67 x190001 (wrap64 ((wrap64 (x8 * x4)) + x10))).f0 = true then (if (rd_T67 x190001 (wrap64 ((wrap64 (x10 * x4)) + x9))).f0 = true then ((R2_lower.f x190001 (wrap64 ((wrap64 (x8 * x4)) + x9)) (wrap64 (((rd_T67 x190001 (wrap64 ((wrap64 (x8 * x4)) + x10))).f1) + ((rd_T67 x190001 (wrap64 ((wrap64 (x10 * x4)) + x9))).f1)))).bind fun bt199 => (R2_ClosedZone.l4 k x4 x7 x8 x9 (wrap64 (x10 + 1)) x190000 bt199.2)) else (R2_ClosedZone.l4 k x4 x7 x8 x9 (wrap64 (x10 + 1)) x190000 x190001)) else (R2_ClosedZone.l4 k x4 x7 x8 x9 (wrap64 (x10 + 1)) x190000 x190001)) else (none)) else (none)) else (none)) else (none)) else (R2_ClosedZone.l3 k x4 x7 x8 (wrap64 (x9 + 1)) x190000 x190001)
def R2_ClosedZone.l5 : Nat → Int → Int → Int → List (S67) → Option (Int × (List (S67)) × Bool)
 | 0, _, _, _, _ => none
 | k + 1, x4, x13, x190000, x190001 => if x13 < x4 then (if 0 ≤ (wrap64 ((wrap64 (x13 * x4)) + x13)) then (if (wrap64 ((wrap64 (x13 * x4)) + x13)) < (x190001.length : Int) then (if ((rd_T67 x190001 (wrap64 ((wrap64 (x13 * x4)) + x13))).f1) < 0 then (some (0, ([] : List (S67)), false)) else (R2_ClosedZone.l5 k x4 (wrap64 (x13 + 1)) x190000 x190001)) else (none)) else (none)) else ((R2_clip.f k x190001).bind fun t202 => (some (x190000, t202, true)))
end
def R2_ClosedZone.f (k : Nat) (a0_0 : Int) (l0_1 : List (S67)) : Option (Int × (List (S67)) × Bool) := if ([] : List (S67)).length + l0_1.length < 8796093022208 then (R2_ClosedZone.l0 k (wrap64 (a0_0 + 1)) 0 a0_0 (([] : List (S67)) ++ l0_1)) else (none)
theorem R2_ClosedZone.mono_l : ∀ k, (∀ y0 y1 y2 y3, LeO (R2_ClosedZone.l0 k y0 y1 y2 y3) (R2_ClosedZone.l0 (k + 1) y0 y1 y2 y3)) ∧ (∀ y0 y1 y2 y3, LeO (R2_ClosedZone.l1 k y0 y1 y2 y3) (R2_ClosedZone.l1 (k + 1) y0 y1 y2 y3)) ∧ (∀ y0 y1 y2 y3 y4, LeO (R2_ClosedZone.l2 k y0 y1 y2 y3 y4) (R2_ClosedZone.l2 (k + 1) y0 y1 y2 y3 y4)) ∧ (∀ y0 y1 y2 y3 y4 y5, LeO (R2_ClosedZone.l3 k y0 y1 y2 y3 y4 y5) (R2_ClosedZone.l3 (k + 1) y0 y1 y2 y3 y4 y5)) ∧ (∀ y0 y1 y2 y3 y4 y5 y6, LeO (R2_ClosedZone.l4 k y0 y1 y2 y3 y4 y5 y6) (R2_ClosedZone.l4 (k + 1) y0 y1 y2 y3 y4 y5 y6)) ∧ (∀ y0 y1 y2 y3, LeO (R2_ClosedZone.l5 k y0 y1 y2 y3) (R2_ClosedZone.l5 (k + 1) y0 y1 y2 y3))
 | 0 => ⟨fun _ _ _ _ r h => by simp [R2_ClosedZone.l0] at h, fun _ _ _ _ r h => by simp [R2_ClosedZone.l1] at h, fun _ _ _ _ _ r h => by simp [R2_ClosedZone.l2] at h, fun _ _ _ _ _ _ r h => by simp [R2_ClosedZone.l3] at h, fun _ _ _ _ _ _ _ r h => by simp [R2_ClosedZone.l4] at h, fun _ _ _ _ r h => by simp [R2_ClosedZone.l5] at h⟩
 | k + 1 => by
  obtain ⟨ih0, ih1, ih2, ih3, ih4, ih5⟩ := R2_ClosedZone.mono_l k
  refine ⟨?_, ?_, ?_, ?_, ?_, ?_⟩
  ·intro y0 y1 y2 y3
   unfold R2_ClosedZone.l0
   repeat' first
   | (with_reducible exact ih0 _ _ _ _)
   | (with_reducible exact ih1 _ _ _ _)
   | (with_reducible exact ih2 _ _ _ _ _)
   | (with_reducible exact ih3 _ _ _ _ _ _)
   | (with_reducible exact ih4 _ _ _ _ _ _ _)
   | (with_reducible exact ih5 _ _ _ _)
   | (with_reducible exact R2_clip.mono _ _)
   | (with_reducible exact LeO.refl _)
   | (with_reducible exact LeO.none _)
   | (with_reducible refine LeO.ite ?_ ?_)
   | (with_reducible refine LeO.bind ?_ (fun _ => ?_))
   | exact ih0 _ _ _ _
   | exact ih1 _ _ _ _
   | exact ih2 _ _ _ _ _
   | exact ih3 _ _ _ _ _ _
   | exact ih4 _ _ _ _ _ _ _
   | exact ih5 _ _ _ _
   | exact R2_clip.mono _ _
   | exact LeO.none _
   | refine LeO.ite ?_ ?_
   | refine LeO.bind ?_ (fun _ => ?_)
  ·intro y0 y1 y2 y3
   unfold R2_ClosedZone.l1
   repeat' first
   | (with_reducible exact ih0 _ _ _ _)
   | (with_reducible exact ih1 _ _ _ _)
   | (with_reducible exact ih2 _ _ _ _ _)
   | (with_reducible exact ih3 _ _ _ _ _ _)
   | (with_reducible exact ih4 _ _ _ _ _ _ _)
   | (with_reducible exact ih5 _ _ _ _)
   | (with_reducible exact R2_clip.mono _ _)
   | (with_reducible exact LeO.refl _)
   | (with_reducible exact LeO.none _)
   | (with_reducible refine LeO.ite ?_ ?_)
   | (with_reducible refine LeO.bind ?_ (fun _ => ?_))
   | exact ih0 _ _ _ _
   | exact ih1 _ _ _ _
   | exact ih2 _ _ _ _ _
   | exact ih3 _ _ _ _ _ _
   | exact ih4 _ _ _ _ _ _ _
   | exact ih5 _ _ _ _
   | exact R2_clip.mono _ _
   | exact LeO.none _
   | refine LeO.ite ?_ ?_
   | refine LeO.bind ?_ (fun _ => ?_)
  ·intro y0 y1 y2 y3 y4
   unfold R2_ClosedZone.l2
   repeat' first
   | (with_reducible exact ih0 _ _ _ _)
   | (with_reducible exact ih1 _ _ _ _)
   | (with_reducible exact ih2 _ _ _ _ _)
   | (with_reducible exact ih3 _ _ _ _ _ _)
   | (with_reducible exact ih4 _ _ _ _ _ _ _)
   | (with_reducible exact ih5 _ _ _ _)
   | (with_reducible exact R2_clip.mono _ _)
   | (with_reducible exact LeO.refl _)
   | (with_reducible exact LeO.none _)
   | (with_reducible refine LeO.ite ?_ ?_)
   | (with_reducible refine LeO.bind ?_ (fun _ => ?_))
   | exact ih0 _ _ _ _
   | exact ih1 _ _ _ _
   | exact ih2 _ _ _ _ _
   | exact ih3 _ _ _ _ _ _
   | exact ih4 _ _ _ _ _ _ _
   | exact ih5 _ _ _ _
   | exact R2_clip.mono _ _
   | exact LeO.none _
   | refine LeO.ite ?_ ?_
   | refine LeO.bind ?_ (fun _ => ?_)
  ·intro y0 y1 y2 y3 y4 y5
   unfold R2_ClosedZone.l3
   repeat' first
   | (with_reducible exact ih0 _ _ _ _)
   | (with_reducible exact ih1 _ _ _ _)
   | (with_reducible exact ih2 _ _ _ _ _)
   | (with_reducible exact ih3 _ _ _ _ _ _)
   | (with_reducible exact ih4 _ _ _ _ _ _ _)
   | (with_reducible exact ih5 _ _ _ _)
   | (with_reducible exact R2_clip.mono _ _)
   | (with_reducible exact LeO.refl _)
   | (with_reducible exact LeO.none _)
   | (with_reducible refine LeO.ite ?_ ?_)
   | (with_reducible refine LeO.bind ?_ (fun _ => ?_))
   | exact ih0 _ _ _ _
   | exact ih1 _ _ _ _
   | exact ih2 _ _ _ _ _
   | exact ih3 _ _ _ _ _ _
   | exact ih4 _ _ _ _ _ _ _
   | exact ih5 _ _ _ _
   | exact R2_clip.mono _ _
   | exact LeO.none _
   | refine LeO.ite ?_ ?_
   | refine LeO.bind ?_ (fun _ => ?_)
  ·intro y0 y1 y2 y3 y4 y5 y6
   unfold R2_ClosedZone.l4
   repeat' first
   | (with_reducible exact ih0 _ _ _ _)
   | (with_reducible exact ih1 _ _ _ _)
   | (with_reducible exact ih2 _ _ _ _ _)
   | (with_reducible exact ih3 _ _ _ _ _ _)
   | (with_reducible exact ih4 _ _ _ _ _ _ _)
   | (with_reducible exact ih5 _ _ _ _)
   | (with_reducible exact R2_clip.mono _ _)
   | (with_reducible exact LeO.refl _)
   | (with_reducible exact LeO.none _)
   | (with_reducible refine LeO.ite ?_ ?_)
   | (with_reducible refine LeO.bind ?_ (fun _ => ?_))
   | exact ih0 _ _ _ _
   | exact ih1 _ _ _ _
   | exact ih2 _ _ _ _ _
   | exact ih3 _ _ _ _ _ _
   | exact ih4 _ _ _ _ _ _ _
   | exact ih5 _ _ _ _
   | exact R2_clip.mono _ _
   | exact LeO.none _
   | refine LeO.ite ?_ ?_
   | refine LeO.bind ?_ (fun _ => ?_)
  intro y0 y1 y2 y3
  unfold R2_ClosedZone.l5
  repeat' first
  | (with_reducible exact ih0 _ _ _ _)
  | (with_reducible exact ih1 _ _ _ _)
  | (with_reducible exact ih2 _ _ _ _ _)
  | (with_reducible exact ih3 _ _ _ _ _ _)
  | (with_reducible exact ih4 _ _ _ _ _ _ _)
  | (with_reducible exact ih5 _ _ _ _)
  | (with_reducible exact R2_clip.mono _ _)
  | (with_reducible exact LeO.refl _)
  | (with_reducible exact LeO.none _)
  | (with_reducible refine LeO.ite ?_ ?_)
  | (with_reducible refine LeO.bind ?_ (fun _ => ?_))
  | exact ih0 _ _ _ _
  | exact ih1 _ _ _ _
  | exact ih2 _ _ _ _ _
  | exact ih3 _ _ _ _ _ _
  | exact ih4 _ _ _ _ _ _ _
  | exact ih5 _ _ _ _
  | exact R2_clip.mono _ _
  | exact LeO.none _
  | refine LeO.ite ?_ ?_
  | refine LeO.bind ?_ (fun _ => ?_)
theorem R2_ClosedZone.mono : ∀ a0 a1 k, LeO (R2_ClosedZone.f k a0 a1) (R2_ClosedZone.f (k + 1) a0 a1) := by
 intro a0 a1 k
 obtain ⟨ih0, ih1, ih2, ih3, ih4, ih5⟩ := R2_ClosedZone.mono_l k
 unfold R2_ClosedZone.f
 repeat' first
   | (with_reducible exact ih0 _ _ _ _)
   | (with_reducible exact ih1 _ _ _ _)
   | (with_reducible exact ih2 _ _ _ _ _)
   | (with_reducible exact ih3 _ _ _ _ _ _)
   | (with_reducible exact ih4 _ _ _ _ _ _ _)
   | (with_reducible exact ih5 _ _ _ _)
   | (with_reducible exact R2_clip.mono _ _)
   | (with_reducible exact LeO.refl _)
   | (with_reducible exact LeO.none _)
   | (with_reducible refine LeO.ite ?_ ?_)
   | (with_reducible refine LeO.bind ?_ (fun _ => ?_))
   | exact ih0 _ _ _ _
   | exact ih1 _ _ _ _
   | exact ih2 _ _ _ _ _
   | exact ih3 _ _ _ _ _ _
   | exact ih4 _ _ _ _ _ _ _
   | exact ih5 _ _ _ _
   | exact R2_clip.mono _ _
   | exact LeO.none _
   | refine LeO.ite ?_ ?_
   | refine LeO.bind ?_ (fun _ => ?_)
end Go.Proofs.YtcalcnfppnbooaaDoor.Z
