-- Written by wip/xprint.py (the session's program over the kit's print).
import Derived.Test.YtimgfgambeffeaaDoorEb
import Derived.Test.YtimgfgambeffeaaDoorJ0
namespace Go.Proofs.YtimgfgambeffeaaDoor.J
open Go.RowKit Go.Proofs.YtimgfgambeffeaaDoorW.PrintWords Go.Proofs.YtimgfgambeffeaaDoorW.PrintLast Go.Proofs.YtimgfgambeffeaaDoorW.PrintMore Go.Proofs.Rcg
attribute [local go_sem] max2_int min2_int max_two min_two max_three min_three max_four min_four   -- for this text's walks alone
set_option linter.unusedVariables false
set_option linter.unusedSimpArgs false

/-! ### R2_WidenedOf: function 43 -/
mutual
def R2_WidenedOf.j0 : Nat → List Int → Bool → Bool → Bool → Int → Int → Bool → Bool → Int → Int → Bool → Bool → Int → Int → Option (Bool × Bool × Int × Int)
 | 0, _, _, _, _, _, _, _, _, _, _, _, _, _, _ => none
 | k + 1, x2, x24, x166000, x166001, x166002, x166003, x167000, x167001, x167002, x167003, x169000, x169001, x169002, x169003 => if x24 = true then (R2_WidenedOf.l0 k x2 0 x166000 x166001 x166002 x166003 x167000 x167001 x167002 x167003 true x169001 0 x169003) else (R2_WidenedOf.j3 k x2 x166000 x166001 x166002 x166003 x167000 x167001 x167002 x167003 x169000 x169001 x169002 x169003)
def R2_WidenedOf.j3 : Nat → List Int → Bool → Bool → Int → Int → Bool → Bool → Int → Int → Bool → Bool → Int → Int → Option (Bool × Bool × Int × Int)
 | 0, _, _, _, _, _, _, _, _, _, _, _, _, _ => none
 | k + 1, x2, x166000, x166001, x166002, x166003, x167000, x167001, x167002, x167003, x169000, x169001, x169002, x169003 => if x166001 = true then (R2_WidenedOf.j4 k x2 false x167000 x167001 x167002 x167003 x169000 x169001 x169002 x169003) else (if x167001 = true then (R2_WidenedOf.j4 k x2 true x167000 x167001 x167002 x167003 x169000 x169001 x169002 x169003) else (R2_WidenedOf.j4 k x2 (decide (x167003 > x166003)) x167000 x167001 x167002 x167003 x169000 x169001 x169002 x169003))
def R2_WidenedOf.j4 : Nat → List Int → Bool → Bool → Bool → Int → Int → Bool → Bool → Int → Int → Option (Bool × Bool × Int × Int)
 | 0, _, _, _, _, _, _, _, _, _, _ => none
 | k + 1, x2, x77, x167000, x167001, x167002, x167003, x169000, x169001, x169002, x169003 => if x77 = true then (R2_WidenedOf.l1 k x2 0 x167000 x167001 x167002 x167003 x169000 true x169002 0) else (some (x169000, x169001, x169002, x169003))
def R2_WidenedOf.l1 : Nat → List Int → Int → Bool → Bool → Int → Int → Bool → Bool → Int → Int → Option (Bool × Bool × Int × Int)
 | 0, _, _, _, _, _, _, _, _, _, _ => none
 | k + 1, x2, x9, x167000, x167001, x167002, x167003, x169000, x169001, x169002, x169003 => if x9 < (x2.length : Int) then (R2_WidenedOf.j6 k x2 x9 (!x167001) x167000 x167001 x167002 x167003 x169000 x169001 x169002 x169003) else (R2_WidenedOf.j6 k x2 x9 false x167000 x167001 x167002 x167003 x169000 x169001 x169002 x169003)
def R2_WidenedOf.j6 : Nat → List Int → Int → Bool → Bool → Bool → Int → Int → Bool → Bool → Int → Int → Option (Bool × Bool × Int × Int)
 | 0, _, _, _, _, _, _, _, _, _, _, _ => none
 | k + 1, x2, x9, x88, x167000, x167001, x167002, x167003, x169000, x169001, x169002, x169003 => if x88 = true then (if 0 ≤ x9 then (if x9 < (x2.length : Int) then (if (rd x2 x9) ≥ x167003 then (if x169001 = true then (R2_WidenedOf.l1 k x2 (wrap64 (x9 + 1)) x167000 x167001 x167002 x167003 x169000 false x169002 (rd x2 x9)) else (if (rd x2 x9) < x169003 then (R2_WidenedOf.l1 k x2 (wrap64 (x9 + 1)) x167000 x167001 x167002 x167003 x169000 false x169002 (rd x2 x9)) else (R2_WidenedOf.l1 k x2 (wrap64 (x9 + 1)) x167000 x167001 x167002 x167003 x169000 x169001 x169002 x169003))) else (R2_WidenedOf.l1 k x2 (wrap64 (x9 + 1)) x167000 x167001 x167002 x167003 x169000 x169001 x169002 x169003)) else (none)) else (none)) else (some (x169000, x169001, x169002, x169003))
def R2_WidenedOf.l0 : Nat → List Int → Int → Bool → Bool → Int → Int → Bool → Bool → Int → Int → Bool → Bool → Int → Int → Option (Bool × Bool × Int × Int)
 | 0, _, _, _, _, _, _, _, _, _, _, _, _, _, _ => none
 | k + 1, x2, x8, x166000, x166001, x166002, x166003, x167000, x167001, x167002, x167003, x169000, x169001, x169002, x169003 => if x8 < (x2.length : Int) then (R2_WidenedOf.j2 k x2 x8 (!x167000) x166000 x166001 x166002 x166003 x167000 x167001 x167002 x167003 x169000 x169001 x169002 x169003) else (R2_WidenedOf.j2 k x2 x8 false x166000 x166001 x166002 x166003 x167000 x167001 x167002 x167003 x169000 x169001 x169002 x169003)
def R2_WidenedOf.j2 : Nat → List Int → Int → Bool → Bool → Bool → Int → Int → Bool → Bool → Int → Int → Bool → Bool → Int → Int → Option (Bool × Bool × Int × Int)
 | 0, _, _, _, _, _, _, _, _, _, _, _, _, _, _, _ => none
 | k + 1, x2, x8, x35, x166000, x166001, x166002, x166003, x167000, x167001, x167002, x167003, x169000, x169001, x169002, x169003 => if x35 = true then (if 0 ≤ x8 then (if x8 < (x2.length : Int) then (if (rd x2 x8) ≤ x167002 then (if x169000 = true then (R2_WidenedOf.l0 k x2 (wrap64 (x8 + 1)) x166000 x166001 x166002 x166003 x167000 x167001 x167002 x167003 false x169001 (rd x2 x8) x169003) else (if (rd x2 x8) > x169002 then (R2_WidenedOf.l0 k x2 (wrap64 (x8 + 1)) x166000 x166001 x166002 x166003 x167000 x167001 x167002 x167003 false x169001 (rd x2 x8) x169003) else (R2_WidenedOf.l0 k x2 (wrap64 (x8 + 1)) x166000 x166001 x166002 x166003 x167000 x167001 x167002 x167003 x169000 x169001 x169002 x169003))) else (R2_WidenedOf.l0 k x2 (wrap64 (x8 + 1)) x166000 x166001 x166002 x166003 x167000 x167001 x167002 x167003 x169000 x169001 x169002 x169003)) else (none)) else (none)) else (R2_WidenedOf.j3 k x2 x166000 x166001 x166002 x166003 x167000 x167001 x167002 x167003 x169000 x169001 x169002 x169003)
end
def R2_WidenedOf.f (k : Nat) (a0_0 : Bool) (a0_1 : Bool) (a0_2 : Int) (a0_3 : Int) (a1_0 : Bool) (a1_1 : Bool) (a1_2 : Int) (a1_3 : Int) (l2 : List Int) : Option (Bool × Bool × Int × Int) := if a0_0 = true then (R2_WidenedOf.j0 k l2 false a0_0 a0_1 a0_2 a0_3 a1_0 a1_1 a1_2 a1_3 a0_0 a0_1 a0_2 a0_3) else (if a1_0 = true then (R2_WidenedOf.j0 k l2 true a0_0 a0_1 a0_2 a0_3 a1_0 a1_1 a1_2 a1_3 a0_0 a0_1 a0_2 a0_3) else (R2_WidenedOf.j0 k l2 (decide (a1_2 < a0_2)) a0_0 a0_1 a0_2 a0_3 a1_0 a1_1 a1_2 a1_3 a0_0 a0_1 a0_2 a0_3))
theorem R2_WidenedOf.mono_l : ∀ k, (∀ y0 y1 y2 y3 y4 y5 y6 y7 y8 y9 y10 y11 y12 y13, LeO (R2_WidenedOf.j0 k y0 y1 y2 y3 y4 y5 y6 y7 y8 y9 y10 y11 y12 y13) (R2_WidenedOf.j0 (k + 1) y0 y1 y2 y3 y4 y5 y6 y7 y8 y9 y10 y11 y12 y13)) ∧ (∀ y0 y1 y2 y3 y4 y5 y6 y7 y8 y9 y10 y11 y12, LeO (R2_WidenedOf.j3 k y0 y1 y2 y3 y4 y5 y6 y7 y8 y9 y10 y11 y12) (R2_WidenedOf.j3 (k + 1) y0 y1 y2 y3 y4 y5 y6 y7 y8 y9 y10 y11 y12)) ∧ (∀ y0 y1 y2 y3 y4 y5 y6 y7 y8 y9, LeO (R2_WidenedOf.j4 k y0 y1 y2 y3 y4 y5 y6 y7 y8 y9) (R2_WidenedOf.j4 (k + 1) y0 y1 y2 y3 y4 y5 y6 y7 y8 y9)) ∧ (∀ y0 y1 y2 y3 y4 y5 y6 y7 y8 y9, LeO (R2_WidenedOf.l1 k y0 y1 y2 y3 y4 y5 y6 y7 y8 y9) (R2_WidenedOf.l1 (k + 1) y0 y1 y2 y3 y4 y5 y6 y7 y8 y9)) ∧ (∀ y0 y1 y2 y3 y4 y5 y6 y7 y8 y9 y10, LeO (R2_WidenedOf.j6 k y0 y1 y2 y3 y4 y5 y6 y7 y8 y9 y10) (R2_WidenedOf.j6 (k + 1) y0 y1 y2 y3 y4 y5 y6 y7 y8 y9 y10)) ∧ (∀ y0 y1 y2 y3 y4 y5 y6 y7 y8 y9 y10 y11 y12 y13, LeO (R2_WidenedOf.l0 k y0 y1 y2 y3 y4 y5 y6 y7 y8 y9 y10 y11 y12 y13) (R2_WidenedOf.l0 (k + 1) y0 y1 y2 y3 y4 y5 y6 y7 y8 y9 y10 y11 y12 y13)) ∧ (∀ y0 y1 y2 y3 y4 y5 y6 y7 y8 y9 y10 y11 y12 y13 y14, LeO (R2_WidenedOf.j2 k y0 y1 y2 y3 y4 y5 y6 y7 y8 y9 y10 y11 y12 y13 y14) (R2_WidenedOf.j2 (k + 1) y0 y1 y2 y3 y4 y5 y6 y7 y8 y9 y10 y11 y12 y13 y14))
 | 0 => ⟨fun _ _ _ _ _ _ _ _ _ _ _ _ _ _ r h => by simp [R2_WidenedOf.j0] at h, fun _ _ _ _ _ _ _ _ _ _ _ _ _ r h => by simp [R2_WidenedOf.j3] at h, fun _ _ _ _ _ _ _ _ _ _ r h => by simp [R2_WidenedOf.j4] at h, fun _ _ _ _ _ _ _ _ _ _ r h => by simp [R2_WidenedOf.l1] at h, fun _ _ _ _ _ _ _ _ _ _ _ r h => by simp [R2_WidenedOf.j6] at h, fun _ _ _ _ _ _ _ _ _ _ _ _ _ _ r h => by simp [R2_WidenedOf.l0] at h, fun _ _ _ _ _ _ _ _ _ _ _ _ _ _ _ r h => by simp [R2_WidenedOf.j2] at h⟩
 | k + 1 => by
  obtain ⟨ih0, ih1, ih2, ih3, ih4, ih5, ih6⟩ := R2_WidenedOf.mono_l k
  refine ⟨?_, ?_, ?_, ?_, ?_, ?_, ?_⟩
  ·intro y0 y1 y2 y3 y4 y5 y6 y7 y8 y9 y10 y11 y12 y13
   unfold R2_WidenedOf.j0
   repeat' first
   | (with_reducible exact ih0 _ _ _ _ _ _ _ _ _ _ _ _ _ _)
   | (with_reducible exact ih1 _ _ _ _ _ _ _ _ _ _ _ _ _)
   | (with_reducible exact ih2 _ _ _ _ _ _ _ _ _ _)
   | (with_reducible exact ih3 _ _ _ _ _ _ _ _ _ _)
   | (with_reducible exact ih4 _ _ _ _ _ _ _ _ _ _ _)
   | (with_reducible exact ih5 _ _ _ _ _ _ _ _ _ _ _ _ _ _)
   | (with_reducible exact ih6 _ _ _ _ _ _ _ _ _ _ _ _ _ _ _)
   | (with_reducible exact LeO.refl _)
   | (with_reducible exact LeO.none _)
   | (with_reducible refine LeO.ite ?_ ?_)
   | (with_reducible refine LeO.bind ?_ (fun _ => ?_))
   | exact ih0 _ _ _ _ _ _ _ _ _ _ _ _ _ _
   | exact ih1 _ _ _ _ _ _ _ _ _ _ _ _ _
   | exact ih2 _ _ _ _ _ _ _ _ _ _
   | exact ih3 _ _ _ _ _ _ _ _ _ _
   | exact ih4 _ _ _ _ _ _ _ _ _ _ _
   | exact ih5 _ _ _ _ _ _ _ _ _ _ _ _ _ _
   | exact ih6 _ _ _ _ _ _ _ _ _ _ _ _ _ _ _
   | exact LeO.none _
   | refine LeO.ite ?_ ?_
   | refine LeO.bind ?_ (fun _ => ?_)
  ·intro y0 y1 y2 y3 y4 y5 y6 y7 y8 y9 y10 y11 y12
   unfold R2_WidenedOf.j3
   repeat' first
   | (with_reducible exact ih0 _ _ _ _ _ _ _ _ _ _ _ _ _ _)
   | (with_reducible exact ih1 _ _ _ _ _ _ _ _ _ _ _ _ _)
   | (with_reducible exact ih2 _ _ _ _ _ _ _ _ _ _)
   | (with_reducible exact ih3 _ _ _ _ _ _ _ _ _ _)
   | (with_reducible exact ih4 _ _ _ _ _ _ _ _ _ _ _)
   | (with_reducible exact ih5 _ _ _ _ _ _ _ _ _ _ _ _ _ _)
   | (with_reducible exact ih6 _ _ _ _ _ _ _ _ _ _ _ _ _ _ _)
   | (with_reducible exact LeO.refl _)
   | (with_reducible exact LeO.none _)
   | (with_reducible refine LeO.ite ?_ ?_)
   | (with_reducible refine LeO.bind ?_ (fun _ => ?_))
   | exact ih0 _ _ _ _ _ _ _ _ _ _ _ _ _ _
   | exact ih1 _ _ _ _ _ _ _ _ _ _ _ _ _
   | exact ih2 _ _ _ _ _ _ _ _ _ _
   | exact ih3 _ _ _ _ _ _ _ _ _ _
   | exact ih4 _ _ _ _ _ _ _ _ _ _ _
   | exact ih5 _ _ _ _ _ _ _ _ _ _ _ _ _ _
   | exact ih6 _ _ _ _ _ _ _ _ _ _ _ _ _ _ _
   | exact LeO.none _
   | refine LeO.ite ?_ ?_
   | refine LeO.bind ?_ (fun _ => ?_)
  ·intro y0 y1 y2 y3 y4 y5 y6 y7 y8 y9
   unfold R2_WidenedOf.j4
   repeat' first
   | (with_reducible exact ih0 _ _ _ _ _ _ _ _ _ _ _ _ _ _)
   | (with_reducible exact ih1 _ _ _ _ _ _ _ _ _ _ _ _ _)
   | (with_reducible exact ih2 _ _ _ _ _ _ _ _ _ _)
   | (with_reducible exact ih3 _ _ _ _ _ _ _ _ _ _)
   | (with_reducible exact ih4 _ _ _ _ _ _ _ _ _ _ _)
   | (with_reducible exact ih5 _ _ _ _ _ _ _ _ _ _ _ _ _ _)
   | (with_reducible exact ih6 _ _ _ _ _ _ _ _ _ _ _ _ _ _ _)
   | (with_reducible exact LeO.refl _)
   | (with_reducible exact LeO.none _)
   | (with_reducible refine LeO.ite ?_ ?_)
   | (with_reducible refine LeO.bind ?_ (fun _ => ?_))
   | exact ih0 _ _ _ _ _ _ _ _ _ _ _ _ _ _
   | exact ih1 _ _ _ _ _ _ _ _ _ _ _ _ _
   | exact ih2 _ _ _ _ _ _ _ _ _ _
   | exact ih3 _ _ _ _ _ _ _ _ _ _
   | exact ih4 _ _ _ _ _ _ _ _ _ _ _
   | exact ih5 _ _ _ _ _ _ _ _ _ _ _ _ _ _
   | exact ih6 _ _ _ _ _ _ _ _ _ _ _ _ _ _ _
   | exact LeO.none _
   | refine LeO.ite ?_ ?_
   | refine LeO.bind ?_ (fun _ => ?_)
  ·intro y0 y1 y2 y3 y4 y5 y6 y7 y8 y9
   unfold R2_WidenedOf.l1
   repeat' first
   | (with_reducible exact ih0 _ _ _ _ _ _ _ _ _ _ _ _ _ _)
   | (with_reducible exact ih1 _ _ _ _ _ _ _ _ _ _ _ _ _)
   | (with_reducible exact ih2 _ _ _ _ _ _ _ _ _ _)
   | (with_reducible exact ih3 _ _ _ _ _ _ _ _ _ _)
   | (with_reducible exact ih4 _ _ _ _ _ _ _ _ _ _ _)
   | (with_reducible exact ih5 _ _ _ _ _ _ _ _ _ _ _ _ _ _)
   | (with_reducible exact ih6 _ _ _ _ _ _ _ _ _ _ _ _ _ _ _)
   | (with_reducible exact LeO.refl _)
   | (with_reducible exact LeO.none _)
   | (with_reducible refine LeO.ite ?_ ?_)
   | (with_reducible refine LeO.bind ?_ (fun _ => ?_))
   | exact ih0 _ _ _ _ _ _ _ _ _ _ _ _ _ _
   | exact ih1 _ _ _ _ _ _ _ _ _ _ _ _ _
   | exact ih2 _ _ _ _ _ _ _ _ _ _
   | exact ih3 _ _ _ _ _ _ _ _ _ _
   | exact ih4 _ _ _ _ _ _ _ _ _ _ _
   | exact ih5 _ _ _ _ _ _ _ _ _ _ _ _ _ _
   | exact ih6 _ _ _ _ _ _ _ _ _ _ _ _ _ _ _
   | exact LeO.none _
   | refine LeO.ite ?_ ?_
   | refine LeO.bind ?_ (fun _ => ?_)
  ·intro y0 y1 y2 y3 y4 y5 y6 y7 y8 y9 y10
   unfold R2_WidenedOf.j6
   repeat' first
   | (with_reducible exact ih0 _ _ _ _ _ _ _ _ _ _ _ _ _ _)
   | (with_reducible exact ih1 _ _ _ _ _ _ _ _ _ _ _ _ _)
   | (with_reducible exact ih2 _ _ _ _ _ _ _ _ _ _)
   | (with_reducible exact ih3 _ _ _ _ _ _ _ _ _ _)
   | (with_reducible exact ih4 _ _ _ _ _ _ _ _ _ _ _)
   | (with_reducible exact ih5 _ _ _ _ _ _ _ _ _ _ _ _ _ _)
   | (with_reducible exact ih6 _ _ _ _ _ _ _ _ _ _ _ _ _ _ _)
   | (with_reducible exact LeO.refl _)
   | (with_reducible exact LeO.none _)
   | (with_reducible refine LeO.ite ?_ ?_)
   | (with_reducible refine LeO.bind ?_ (fun _ => ?_))
   | exact ih0 _ _ _ _ _ _ _ _ _ _ _ _ _ _
   | exact ih1 _ _ _ _ _ _ _ _ _ _ _ _ _
   | exact ih2 _ _ _ _ _ _ _ _ _ _
   | exact ih3 _ _ _ _ _ _ _ _ _ _
   | exact ih4 _ _ _ _ _ _ _ _ _ _ _
   | exact ih5 _ _ _ _ _ _ _ _ _ _ _ _ _ _
   | exact ih6 _ _ _ _ _ _ _ _ _ _ _ _ _ _ _
   | exact LeO.none _
   | refine LeO.ite ?_ ?_
   | refine LeO.bind ?_ (fun _ => ?_)
  ·intro y0 y1 y2 y3 y4 y5 y6 y7 y8 y9 y10 y11 y12 y13
   unfold R2_WidenedOf.l0
   repeat' first
   | (with_reducible exact ih0 _ _ _ _ _ _ _ _ _ _ _ _ _ _)
   | (with_reducible exact ih1 _ _ _ _ _ _ _ _ _ _ _ _ _)
   | (with_reducible exact ih2 _ _ _ _ _ _ _ _ _ _)
   | (with_reducible exact ih3 _ _ _ _ _ _ _ _ _ _)
   | (with_reducible exact ih4 _ _ _ _ _ _ _ _ _ _ _)
   | (with_reducible exact ih5 _ _ _ _ _ _ _ _ _ _ _ _ _ _)
   | (with_reducible exact ih6 _ _ _ _ _ _ _ _ _ _ _ _ _ _ _)
   | (with_reducible exact LeO.refl _)
   | (with_reducible exact LeO.none _)
   | (with_reducible refine LeO.ite ?_ ?_)
   | (with_reducible refine LeO.bind ?_ (fun _ => ?_))
   | exact ih0 _ _ _ _ _ _ _ _ _ _ _ _ _ _
   | exact ih1 _ _ _ _ _ _ _ _ _ _ _ _ _
   | exact ih2 _ _ _ _ _ _ _ _ _ _
   | exact ih3 _ _ _ _ _ _ _ _ _ _
   | exact ih4 _ _ _ _ _ _ _ _ _ _ _
   | exact ih5 _ _ _ _ _ _ _ _ _ _ _ _ _ _
   | exact ih6 _ _ _ _ _ _ _ _ _ _ _ _ _ _ _
   | exact LeO.none _
   | refine LeO.ite ?_ ?_
   | refine LeO.bind ?_ (fun _ => ?_)
  intro y0 y1 y2 y3 y4 y5 y6 y7 y8 y9 y10 y11 y12 y13 y14
  unfold R2_WidenedOf.j2
  repeat' first
  | (with_reducible exact ih0 _ _ _ _ _ _ _ _ _ _ _ _ _ _)
  | (with_reducible exact ih1 _ _ _ _ _ _ _ _ _ _ _ _ _)
  | (with_reducible exact ih2 _ _ _ _ _ _ _ _ _ _)
  | (with_reducible exact ih3 _ _ _ _ _ _ _ _ _ _)
  | (with_reducible exact ih4 _ _ _ _ _ _ _ _ _ _ _)
  | (with_reducible exact ih5 _ _ _ _ _ _ _ _ _ _ _ _ _ _)
  | (with_reducible exact ih6 _ _ _ _ _ _ _ _ _ _ _ _ _ _ _)
  | (with_reducible exact LeO.refl _)
  | (with_reducible exact LeO.none _)
  | (with_reducible refine LeO.ite ?_ ?_)
  | (with_reducible refine LeO.bind ?_ (fun _ => ?_))
  | exact ih0 _ _ _ _ _ _ _ _ _ _ _ _ _ _
  | exact ih1 _ _ _ _ _ _ _ _ _ _ _ _ _
  | exact ih2 _ _ _ _ _ _ _ _ _ _
  | exact ih3 _ _ _ _ _ _ _ _ _ _
  | exact ih4 _ _ _ _ _ _ _ _ _ _ _
  | exact ih5 _ _ _ _ _ _ _ _ _ _ _ _ _ _
  | exact ih6 _ _ _ _ _ _ _ _ _ _ _ _ _ _ _
  | exact LeO.none _
  | refine LeO.ite ?_ ?_
  | refine LeO.bind ?_ (fun _ => ?_)
theorem R2_WidenedOf.mono : ∀ a0 a1 a2 a3 a4 a5 a6 a7 a8 k, LeO (R2_WidenedOf.f k a0 a1 a2 a3 a4 a5 a6 a7 a8) (R2_WidenedOf.f (k + 1) a0 a1 a2 a3 a4 a5 a6 a7 a8) := by
 intro a0 a1 a2 a3 a4 a5 a6 a7 a8 k
 obtain ⟨ih0, ih1, ih2, ih3, ih4, ih5, ih6⟩ := R2_WidenedOf.mono_l k
 unfold R2_WidenedOf.f
 repeat' first
   | (with_reducible exact ih0 _ _ _ _ _ _ _ _ _ _ _ _ _ _)
   | (with_reducible exact ih1 _ _ _ _ _ _ _ _ _ _ _ _ _)
   | (with_reducible exact ih2 _ _ _ _ _ _ _ _ _ _)
   | (with_reducible exact ih3 _ _ _ _ _ _ _ _ _ _)
   | (with_reducible exact ih4 _ _ _ _ _ _ _ _ _ _ _)
   | (with_reducible exact ih5 _ _ _ _ _ _ _ _ _ _ _ _ _ _)
   | (with_reducible exact ih6 _ _ _ _ _ _ _ _ _ _ _ _ _ _ _)
   | (with_reducible exact LeO.refl _)
   | (with_reducible exact LeO.none _)
   | (with_reducible refine LeO.ite ?_ ?_)
   | (with_reducible refine LeO.bind ?_ (fun _ => ?_))
   | exact ih0 _ _ _ _ _ _ _ _ _ _ _ _ _ _
   | exact ih1 _ _ _ _ _ _ _ _ _ _ _ _ _
   | exact ih2 _ _ _ _ _ _ _ _ _ _
   | exact ih3 _ _ _ _ _ _ _ _ _ _
   | exact ih4 _ _ _ _ _ _ _ _ _ _ _
   | exact ih5 _ _ _ _ _ _ _ _ _ _ _ _ _ _
   | exact ih6 _ _ _ _ _ _ _ _ _ _ _ _ _ _ _
   | exact LeO.none _
   | refine LeO.ite ?_ ?_
   | refine LeO.bind ?_ (fun _ => ?_)
set_option maxHeartbeats 8000000 in
set_option maxRecDepth 100000 in
theorem R2_WidenedOf.calls [EA] (k : Nat) (a0_0 : Bool) (a0_1 : Bool) (a0_2 : Int) (a0_3 : Int) (a1_0 : Bool) (a1_1 : Bool) (a1_2 : Int) (a1_3 : Int) (A2 : Option Addr) (c2 : Nat) (l2 : List Int) (r1 : Bool) (r2 : Bool) (r3 : Int) (r4 : Int) (w : World) (hr2 : Kd.C (Kd.int .i64) w A2 l2.length l2) (hc2 : l2.length ≤ c2) (h : R2_WidenedOf.f k a0_0 a0_1 a0_2 a0_3 a1_0 a1_1 a1_2 a1_3 l2 = some (r1, r2, r3, r4)) :
  Calls Tryd.prog 43 #[.agg #[.bool a0_0, .bool a0_1, .int .i64 a0_2, .int .i64 a0_3], .agg #[.bool a1_0, .bool a1_1, .int .i64 a1_2, .int .i64 a1_3], .slice A2 l2.length c2] w fun e w' => e = .returned (.agg #[.bool r1, .bool r2, .int .i64 r3, .int .i64 r4]) ∧ Below w.heap.size w w' := by
 have hu23 := Tryd.underlying23
 have HR2 := am hr2
 have HC2 := am hc2
 clear hr2 hc2
 have HB := am (Below.refl w.heap.size w)
 have H : (if a0_0 = true then (R2_WidenedOf.j0 k l2 false a0_0 a0_1 a0_2 a0_3 a1_0 a1_1 a1_2 a1_3 a0_0 a0_1 a0_2 a0_3) else (if a1_0 = true then (R2_WidenedOf.j0 k l2 true a0_0 a0_1 a0_2 a0_3 a1_0 a1_1 a1_2 a1_3 a0_0 a0_1 a0_2 a0_3) else (R2_WidenedOf.j0 k l2 (decide (a1_2 < a0_2)) a0_0 a0_1 a0_2 a0_3 a1_0 a1_1 a1_2 a1_3 a0_0 a0_1 a0_2 a0_3))) = some (r1, r2, r3, r4) := h
 clear h
 have HC4 := am H
 clear H
 go_enter Tryd.func43, Tryd.ntmps43
 go_upto_region 2 with (first | ((with_reducible refine gate_dst (N := 3) rfl ?_); refine box_event ?hg (N := 3) ?hd (cs := #[.bool a0_0, .bool a0_1, .int .i64 a0_2, .int .i64 a0_3]) (t := 23) ?hr ?_; (case hd => rfl); (case hg => rfl); (case hr => first | (go_simp; done) | (go_simp; rfl)); intro gb165 hg w5 hbox hb; have n0_ := am (below_step pw hb); have n1_ := am (hbox); have n2_ := am ((by rw [hg]; exact (below_size pw) : w.heap.size ≤ gb165)); have n3_ := am ((by rw [hg]; exact (below_size pw) : w.heap.size ≤ gb165)); clear HB; have HB := n0_; have BK165 := n1_; have GW165 := n2_; have GE165 := n3_; clear n0_ n1_ n2_ n3_; clear hb hbox hg) | ((with_reducible refine gate_dst (N := 4) rfl ?_); refine box_event ?hg (N := 4) ?hd (cs := #[.bool a1_0, .bool a1_1, .int .i64 a1_2, .int .i64 a1_3]) (t := 23) ?hr ?_; (case hd => rfl); (case hg => rfl); (case hr => first | (go_simp; done) | (go_simp; rfl)); intro gb166 hg w6 hbox hb; have n0_ := bb BK165 hb; have n1_ := am (below_step pw hb); have n2_ := am (hbox); have n3_ := am ((by rw [hg]; exact (below_size pw) : w.heap.size ≤ gb166)); have n4_ := am ((by rw [hg]; exact (below_size pw) : w.heap.size ≤ gb166)); have n5_ := am ((by rw [hg]; exact Nat.ne_of_lt (blk_lt pk) : gb165 ≠ gb166)); have n6_ := am ((by rw [hg]; exact Nat.ne_of_gt (blk_lt pk) : gb166 ≠ gb165)); clear BK165; clear HB; have BK165 := n0_; have HB := n1_; have BK166 := n2_; have GW166 := n3_; have GE166 := n4_; have NB165_166 := n5_; have NB166_165 := n6_; clear n0_ n1_ n2_ n3_ n4_ n5_ n6_; clear hb hbox hg) | ((with_reducible refine gate_dst (N := 6) rfl ?_); refine box_event ?hg (N := 6) ?hd (cs := #[.bool false, .bool false, .int .i64 0, .int .i64 0]) (t := 23) ?hr ?_; (case hd => rfl); (case hg => rfl); (case hr => first | (go_simp; done) | (go_simp; rfl)); intro gb167 hg w7 hbox hb; have n0_ := bb BK165 hb; have n1_ := bb BK166 hb; have n2_ := am (below_step pw hb); have n3_ := am (hbox); have n4_ := am ((by rw [hg]; exact (below_size pw) : w.heap.size ≤ gb167)); have n5_ := am ((by rw [hg]; exact (below_size pw) : w.heap.size ≤ gb167)); have n6_ := am ((by rw [hg]; exact Nat.ne_of_lt (blk_lt pk) : gb165 ≠ gb167)); have n7_ := am ((by rw [hg]; exact Nat.ne_of_gt (blk_lt pk) : gb167 ≠ gb165)); have n8_ := am ((by rw [hg]; exact Nat.ne_of_lt (blk_lt pk) : gb166 ≠ gb167)); have n9_ := am ((by rw [hg]; exact Nat.ne_of_gt (blk_lt pk) : gb167 ≠ gb166)); clear BK165; clear BK166; clear HB; have BK165 := n0_; have BK166 := n1_; have HB := n2_; have BK167 := n3_; have GW167 := n4_; have GE167 := n5_; have NB165_167 := n6_; have NB167_165 := n7_; have NB166_167 := n8_; have NB167_166 := n9_; clear n0_ n1_ n2_ n3_ n4_ n5_ n6_ n7_ n8_ n9_; clear hb hbox hg; have hnb8 := NB165_166.out; have hnc8 := NB166_165.out; have hnb9 := NB165_167.out; have hnc9 := NB167_165.out; have hcz10_0 : w7.cell? ⟨gb165, 0, none⟩ = some (.bool a0_0) := bc BK165 0; have hcz10_1 : w7.cell? ⟨gb165, 1, none⟩ = some (.bool a0_1) := bc BK165 1; have hcz10_2 : w7.cell? ⟨gb165, 2, none⟩ = some (.int .i64 a0_2) := bc BK165 2; have hcz10_3 : w7.cell? ⟨gb165, 3, none⟩ = some (.int .i64 a0_3) := bc BK165 3; have hfz10_0 := blk_frozen BK165.out 0; have hfz10_1 := blk_frozen BK165.out 1; have hfz10_2 := blk_frozen BK165.out 2; have hfz10_3 := blk_frozen BK165.out 3) | ((with_reducible refine gate_dst (N := 7) rfl ?_); refine box_event ?hg (N := 7) ?hd (cs := #[.bool false, .bool false, .int .i64 0, .int .i64 0]) (t := 23) ?hr ?_; (case hd => rfl); (case hg => rfl); (case hr => first | (go_simp; done) | (go_simp; rfl)); intro gb168 hg w11 hbox hb; have n0_ := bb BK165 hb; have n1_ := bb BK166 hb; have n2_ := bb BK167 hb; have n3_ := am (below_step pw hb); have n4_ := am (hbox); have n5_ := am ((by rw [hg]; exact (below_size pw) : w.heap.size ≤ gb168)); have n6_ := am ((by rw [hg]; exact (below_size pw) : w.heap.size ≤ gb168)); have n7_ := am ((by rw [hg]; exact Nat.ne_of_lt (blk_lt pk) : gb165 ≠ gb168)); have n8_ := am ((by rw [hg]; exact Nat.ne_of_gt (blk_lt pk) : gb168 ≠ gb165)); have n9_ := am ((by rw [hg]; exact Nat.ne_of_lt (blk_lt pk) : gb166 ≠ gb168)); have n10_ := am ((by rw [hg]; exact Nat.ne_of_gt (blk_lt pk) : gb168 ≠ gb166)); have n11_ := am ((by rw [hg]; exact Nat.ne_of_lt (blk_lt pk) : gb167 ≠ gb168)); have n12_ := am ((by rw [hg]; exact Nat.ne_of_gt (blk_lt pk) : gb168 ≠ gb167)); clear BK165; clear BK166; clear BK167; clear HB; have BK165 := n0_; have BK166 := n1_; have BK167 := n2_; have HB := n3_; have BK168 := n4_; have GW168 := n5_; have GE168 := n6_; have NB165_168 := n7_; have NB168_165 := n8_; have NB166_168 := n9_; have NB168_166 := n10_; have NB167_168 := n11_; have NB168_167 := n12_; clear n0_ n1_ n2_ n3_ n4_ n5_ n6_ n7_ n8_ n9_ n10_ n11_ n12_; clear hb hbox hg; have hnb12 := NB168_165.out; have hnc12 := NB165_168.out; have hnb13 := NB168_166.out; have hnc13 := NB166_168.out; have hnb14 := NB168_167.out; have hnc14 := NB167_168.out; have hcz15_0 : w11.cell? ⟨gb168, 0, none⟩ = some (.bool false) := bc BK168 0; have hcz15_1 : w11.cell? ⟨gb168, 1, none⟩ = some (.bool false) := bc BK168 1; have hcz15_2 : w11.cell? ⟨gb168, 2, none⟩ = some (.int .i64 0) := bc BK168 2; have hcz15_3 : w11.cell? ⟨gb168, 3, none⟩ = some (.int .i64 0) := bc BK168 3; have hfz15_0 := blk_frozen BK168.out 0; have hfz15_1 := blk_frozen BK168.out 1; have hfz15_2 := blk_frozen BK168.out 2; have hfz15_3 := blk_frozen BK168.out 3))
 repeat (go_quiet (first | ((with_reducible refine gate_dst (N := 3) rfl ?_); refine box_event ?hg (N := 3) ?hd (cs := #[.bool a0_0, .bool a0_1, .int .i64 a0_2, .int .i64 a0_3]) (t := 23) ?hr ?_; (case hd => rfl); (case hg => rfl); (case hr => first | (go_simp; done) | (go_simp; rfl)); intro gb165 hg w5 hbox hb; have n0_ := am (below_step pw hb); have n1_ := am (hbox); have n2_ := am ((by rw [hg]; exact (below_size pw) : w.heap.size ≤ gb165)); have n3_ := am ((by rw [hg]; exact (below_size pw) : w.heap.size ≤ gb165)); clear HB; have HB := n0_; have BK165 := n1_; have GW165 := n2_; have GE165 := n3_; clear n0_ n1_ n2_ n3_; clear hb hbox hg) | ((with_reducible refine gate_dst (N := 4) rfl ?_); refine box_event ?hg (N := 4) ?hd (cs := #[.bool a1_0, .bool a1_1, .int .i64 a1_2, .int .i64 a1_3]) (t := 23) ?hr ?_; (case hd => rfl); (case hg => rfl); (case hr => first | (go_simp; done) | (go_simp; rfl)); intro gb166 hg w6 hbox hb; have n0_ := bb BK165 hb; have n1_ := am (below_step pw hb); have n2_ := am (hbox); have n3_ := am ((by rw [hg]; exact (below_size pw) : w.heap.size ≤ gb166)); have n4_ := am ((by rw [hg]; exact (below_size pw) : w.heap.size ≤ gb166)); have n5_ := am ((by rw [hg]; exact Nat.ne_of_lt (blk_lt pk) : gb165 ≠ gb166)); have n6_ := am ((by rw [hg]; exact Nat.ne_of_gt (blk_lt pk) : gb166 ≠ gb165)); clear BK165; clear HB; have BK165 := n0_; have HB := n1_; have BK166 := n2_; have GW166 := n3_; have GE166 := n4_; have NB165_166 := n5_; have NB166_165 := n6_; clear n0_ n1_ n2_ n3_ n4_ n5_ n6_; clear hb hbox hg) | ((with_reducible refine gate_dst (N := 6) rfl ?_); refine box_event ?hg (N := 6) ?hd (cs := #[.bool false, .bool false, .int .i64 0, .int .i64 0]) (t := 23) ?hr ?_; (case hd => rfl); (case hg => rfl); (case hr => first | (go_simp; done) | (go_simp; rfl)); intro gb167 hg w7 hbox hb; have n0_ := bb BK165 hb; have n1_ := bb BK166 hb; have n2_ := am (below_step pw hb); have n3_ := am (hbox); have n4_ := am ((by rw [hg]; exact (below_size pw) : w.heap.size ≤ gb167)); have n5_ := am ((by rw [hg]; exact (below_size pw) : w.heap.size ≤ gb167)); have n6_ := am ((by rw [hg]; exact Nat.ne_of_lt (blk_lt pk) : gb165 ≠ gb167)); have n7_ := am ((by rw [hg]; exact Nat.ne_of_gt (blk_lt pk) : gb167 ≠ gb165)); have n8_ := am ((by rw [hg]; exact Nat.ne_of_lt (blk_lt pk) : gb166 ≠ gb167)); have n9_ := am ((by rw [hg]; exact Nat.ne_of_gt (blk_lt pk) : gb167 ≠ gb166)); clear BK165; clear BK166; clear HB; have BK165 := n0_; have BK166 := n1_; have HB := n2_; have BK167 := n3_; have GW167 := n4_; have GE167 := n5_; have NB165_167 := n6_; have NB167_165 := n7_; have NB166_167 := n8_; have NB167_166 := n9_; clear n0_ n1_ n2_ n3_ n4_ n5_ n6_ n7_ n8_ n9_; clear hb hbox hg; have hnb8 := NB165_166.out; have hnc8 := NB166_165.out; have hnb9 := NB165_167.out; have hnc9 := NB167_165.out; have hcz10_0 : w7.cell? ⟨gb165, 0, none⟩ = some (.bool a0_0) := bc BK165 0; have hcz10_1 : w7.cell? ⟨gb165, 1, none⟩ = some (.bool a0_1) := bc BK165 1; have hcz10_2 : w7.cell? ⟨gb165, 2, none⟩ = some (.int .i64 a0_2) := bc BK165 2; have hcz10_3 : w7.cell? ⟨gb165, 3, none⟩ = some (.int .i64 a0_3) := bc BK165 3; have hfz10_0 := blk_frozen BK165.out 0; have hfz10_1 := blk_frozen BK165.out 1; have hfz10_2 := blk_frozen BK165.out 2; have hfz10_3 := blk_frozen BK165.out 3) | ((with_reducible refine gate_dst (N := 7) rfl ?_); refine box_event ?hg (N := 7) ?hd (cs := #[.bool false, .bool false, .int .i64 0, .int .i64 0]) (t := 23) ?hr ?_; (case hd => rfl); (case hg => rfl); (case hr => first | (go_simp; done) | (go_simp; rfl)); intro gb168 hg w11 hbox hb; have n0_ := bb BK165 hb; have n1_ := bb BK166 hb; have n2_ := bb BK167 hb; have n3_ := am (below_step pw hb); have n4_ := am (hbox); have n5_ := am ((by rw [hg]; exact (below_size pw) : w.heap.size ≤ gb168)); have n6_ := am ((by rw [hg]; exact (below_size pw) : w.heap.size ≤ gb168)); have n7_ := am ((by rw [hg]; exact Nat.ne_of_lt (blk_lt pk) : gb165 ≠ gb168)); have n8_ := am ((by rw [hg]; exact Nat.ne_of_gt (blk_lt pk) : gb168 ≠ gb165)); have n9_ := am ((by rw [hg]; exact Nat.ne_of_lt (blk_lt pk) : gb166 ≠ gb168)); have n10_ := am ((by rw [hg]; exact Nat.ne_of_gt (blk_lt pk) : gb168 ≠ gb166)); have n11_ := am ((by rw [hg]; exact Nat.ne_of_lt (blk_lt pk) : gb167 ≠ gb168)); have n12_ := am ((by rw [hg]; exact Nat.ne_of_gt (blk_lt pk) : gb168 ≠ gb167)); clear BK165; clear BK166; clear BK167; clear HB; have BK165 := n0_; have BK166 := n1_; have BK167 := n2_; have HB := n3_; have BK168 := n4_; have GW168 := n5_; have GE168 := n6_; have NB165_168 := n7_; have NB168_165 := n8_; have NB166_168 := n9_; have NB168_166 := n10_; have NB167_168 := n11_; have NB168_167 := n12_; clear n0_ n1_ n2_ n3_ n4_ n5_ n6_ n7_ n8_ n9_ n10_ n11_ n12_; clear hb hbox hg; have hnb12 := NB168_165.out; have hnc12 := NB165_168.out; have hnb13 := NB168_166.out; have hnc13 := NB166_168.out; have hnb14 := NB168_167.out; have hnc14 := NB167_168.out; have hcz15_0 : w11.cell? ⟨gb168, 0, none⟩ = some (.bool false) := bc BK168 0; have hcz15_1 : w11.cell? ⟨gb168, 1, none⟩ = some (.bool false) := bc BK168 1; have hcz15_2 : w11.cell? ⟨gb168, 2, none⟩ = some (.int .i64 0) := bc BK168 2; have hcz15_3 : w11.cell? ⟨gb168, 3, none⟩ = some (.int .i64 0) := bc BK168 3; have hfz15_0 := blk_frozen BK168.out 0; have hfz15_1 := blk_frozen BK168.out 1; have hfz15_2 := blk_frozen BK168.out 2; have hfz15_3 := blk_frozen BK168.out 3)); go_upto_region 2 with (first | ((with_reducible refine gate_dst (N := 3) rfl ?_); refine box_event ?hg (N := 3) ?hd (cs := #[.bool a0_0, .bool a0_1, .int .i64 a0_2, .int .i64 a0_3]) (t := 23) ?hr ?_; (case hd => rfl); (case hg => rfl); (case hr => first | (go_simp; done) | (go_simp; rfl)); intro gb165 hg w5 hbox hb; have n0_ := am (below_step pw hb); have n1_ := am (hbox); have n2_ := am ((by rw [hg]; exact (below_size pw) : w.heap.size ≤ gb165)); have n3_ := am ((by rw [hg]; exact (below_size pw) : w.heap.size ≤ gb165)); clear HB; have HB := n0_; have BK165 := n1_; have GW165 := n2_; have GE165 := n3_; clear n0_ n1_ n2_ n3_; clear hb hbox hg) | ((with_reducible refine gate_dst (N := 4) rfl ?_); refine box_event ?hg (N := 4) ?hd (cs := #[.bool a1_0, .bool a1_1, .int .i64 a1_2, .int .i64 a1_3]) (t := 23) ?hr ?_; (case hd => rfl); (case hg => rfl); (case hr => first | (go_simp; done) | (go_simp; rfl)); intro gb166 hg w6 hbox hb; have n0_ := bb BK165 hb; have n1_ := am (below_step pw hb); have n2_ := am (hbox); have n3_ := am ((by rw [hg]; exact (below_size pw) : w.heap.size ≤ gb166)); have n4_ := am ((by rw [hg]; exact (below_size pw) : w.heap.size ≤ gb166)); have n5_ := am ((by rw [hg]; exact Nat.ne_of_lt (blk_lt pk) : gb165 ≠ gb166)); have n6_ := am ((by rw [hg]; exact Nat.ne_of_gt (blk_lt pk) : gb166 ≠ gb165)); clear BK165; clear HB; have BK165 := n0_; have HB := n1_; have BK166 := n2_; have GW166 := n3_; have GE166 := n4_; have NB165_166 := n5_; have NB166_165 := n6_; clear n0_ n1_ n2_ n3_ n4_ n5_ n6_; clear hb hbox hg) | ((with_reducible refine gate_dst (N := 6) rfl ?_); refine box_event ?hg (N := 6) ?hd (cs := #[.bool false, .bool false, .int .i64 0, .int .i64 0]) (t := 23) ?hr ?_; (case hd => rfl); (case hg => rfl); (case hr => first | (go_simp; done) | (go_simp; rfl)); intro gb167 hg w7 hbox hb; have n0_ := bb BK165 hb; have n1_ := bb BK166 hb; have n2_ := am (below_step pw hb); have n3_ := am (hbox); have n4_ := am ((by rw [hg]; exact (below_size pw) : w.heap.size ≤ gb167)); have n5_ := am ((by rw [hg]; exact (below_size pw) : w.heap.size ≤ gb167)); have n6_ := am ((by rw [hg]; exact Nat.ne_of_lt (blk_lt pk) : gb165 ≠ gb167)); have n7_ := am ((by rw [hg]; exact Nat.ne_of_gt (blk_lt pk) : gb167 ≠ gb165)); have n8_ := am ((by rw [hg]; exact Nat.ne_of_lt (blk_lt pk) : gb166 ≠ gb167)); have n9_ := am ((by rw [hg]; exact Nat.ne_of_gt (blk_lt pk) : gb167 ≠ gb166)); clear BK165; clear BK166; clear HB; have BK165 := n0_; have BK166 := n1_; have HB := n2_; have BK167 := n3_; have GW167 := n4_; have GE167 := n5_; have NB165_167 := n6_; have NB167_165 := n7_; have NB166_167 := n8_; have NB167_166 := n9_; clear n0_ n1_ n2_ n3_ n4_ n5_ n6_ n7_ n8_ n9_; clear hb hbox hg; have hnb8 := NB165_166.out; have hnc8 := NB166_165.out; have hnb9 := NB165_167.out; have hnc9 := NB167_165.out; have hcz10_0 : w7.cell? ⟨gb165, 0, none⟩ = some (.bool a0_0) := bc BK165 0; have hcz10_1 : w7.cell? ⟨gb165, 1, none⟩ = some (.bool a0_1) := bc BK165 1; have hcz10_2 : w7.cell? ⟨gb165, 2, none⟩ = some (.int .i64 a0_2) := bc BK165 2; have hcz10_3 : w7.cell? ⟨gb165, 3, none⟩ = some (.int .i64 a0_3) := bc BK165 3; have hfz10_0 := blk_frozen BK165.out 0; have hfz10_1 := blk_frozen BK165.out 1; have hfz10_2 := blk_frozen BK165.out 2; have hfz10_3 := blk_frozen BK165.out 3) | ((with_reducible refine gate_dst (N := 7) rfl ?_); refine box_event ?hg (N := 7) ?hd (cs := #[.bool false, .bool false, .int .i64 0, .int .i64 0]) (t := 23) ?hr ?_; (case hd => rfl); (case hg => rfl); (case hr => first | (go_simp; done) | (go_simp; rfl)); intro gb168 hg w11 hbox hb; have n0_ := bb BK165 hb; have n1_ := bb BK166 hb; have n2_ := bb BK167 hb; have n3_ := am (below_step pw hb); have n4_ := am (hbox); have n5_ := am ((by rw [hg]; exact (below_size pw) : w.heap.size ≤ gb168)); have n6_ := am ((by rw [hg]; exact (below_size pw) : w.heap.size ≤ gb168)); have n7_ := am ((by rw [hg]; exact Nat.ne_of_lt (blk_lt pk) : gb165 ≠ gb168)); have n8_ := am ((by rw [hg]; exact Nat.ne_of_gt (blk_lt pk) : gb168 ≠ gb165)); have n9_ := am ((by rw [hg]; exact Nat.ne_of_lt (blk_lt pk) : gb166 ≠ gb168)); have n10_ := am ((by rw [hg]; exact Nat.ne_of_gt (blk_lt pk) : gb168 ≠ gb166)); have n11_ := am ((by rw [hg]; exact Nat.ne_of_lt (blk_lt pk) : gb167 ≠ gb168)); have n12_ := am ((by rw [hg]; exact Nat.ne_of_gt (blk_lt pk) : gb168 ≠ gb167)); clear BK165; clear BK166; clear BK167; clear HB; have BK165 := n0_; have BK166 := n1_; have BK167 := n2_; have HB := n3_; have BK168 := n4_; have GW168 := n5_; have GE168 := n6_; have NB165_168 := n7_; have NB168_165 := n8_; have NB166_168 := n9_; have NB168_166 := n10_; have NB167_168 := n11_; have NB168_167 := n12_; clear n0_ n1_ n2_ n3_ n4_ n5_ n6_ n7_ n8_ n9_ n10_ n11_ n12_; clear hb hbox hg; have hnb12 := NB168_165.out; have hnc12 := NB165_168.out; have hnb13 := NB168_166.out; have hnc13 := NB166_168.out; have hnb14 := NB168_167.out; have hnc14 := NB167_168.out; have hcz15_0 : w11.cell? ⟨gb168, 0, none⟩ = some (.bool false) := bc BK168 0; have hcz15_1 : w11.cell? ⟨gb168, 1, none⟩ = some (.bool false) := bc BK168 1; have hcz15_2 : w11.cell? ⟨gb168, 2, none⟩ = some (.int .i64 0) := bc BK168 2; have hcz15_3 : w11.cell? ⟨gb168, 3, none⟩ = some (.int .i64 0) := bc BK168 3; have hfz15_0 := blk_frozen BK168.out 0; have hfz15_1 := blk_frozen BK168.out 1; have hfz15_2 := blk_frozen BK168.out 2; have hfz15_3 := blk_frozen BK168.out 3)))
 (try simp only [Act.put, List.setIfInBounds_toArray, List.set_cons_zero, List.set_cons_succ])
 go_cut [24] (fun v24 wc => ∃ (kq : Nat) (x24_3 : Bool), v24 = .bool x24_3 ∧ Aside0 (R2_WidenedOf.j0 kq l2 x24_3 a0_0 a0_1 a0_2 a0_3 a1_0 a1_1 a1_2 a1_3 a0_0 a0_1 a0_2 a0_3 = some (r1, r2, r3, r4)) ∧ Aside0 (kq ≤ k) ∧ Aside0 (wc.heap[gb165]? = some (.cells #[.bool a0_0, .bool a0_1, .int .i64 a0_2, .int .i64 a0_3] 23 (0, 0))) ∧ Aside0 (wc.heap[gb166]? = some (.cells #[.bool a1_0, .bool a1_1, .int .i64 a1_2, .int .i64 a1_3] 23 (0, 0))) ∧ Aside0 (wc.heap[gb167]? = some (.cells #[.bool false, .bool false, .int .i64 0, .int .i64 0] 23 (0, 0))) ∧ Aside0 (wc.heap[gb168]? = some (.cells #[.bool a0_0, .bool a0_1, .int .i64 a0_2, .int .i64 a0_3] 23 (0, 0))) ∧ Aside0 (Below w.heap.size w wc))
 case first =>
  have H := HC4.out
  clear HC4
  by_cases c16 : a0_0 = true
  ·subst c16
   have H1 : (R2_WidenedOf.j0 k l2 false true a0_1 a0_2 a0_3 a1_0 a1_1 a1_2 a1_3 true a0_1 a0_2 a0_3) = some (r1, r2, r3, r4) := by rw [if_pos rfl] at H; exact H
   clear H
   have H := H1
   clear H1
   have H' := am H
   clear H
   have hnb17 := NB165_166.out
   have hnc17 := NB166_165.out
   have hnb18 := NB165_167.out
   have hnc18 := NB167_165.out
   have hnb19 := NB165_168.out
   have hnc19 := NB168_165.out
   have hcz20_0 : w11.cell? ⟨gb165, 0, none⟩ = some (.bool true) := bc BK165 0
   have hcz20_1 : w11.cell? ⟨gb165, 1, none⟩ = some (.bool a0_1) := bc BK165 1
   have hcz20_2 : w11.cell? ⟨gb165, 2, none⟩ = some (.int .i64 a0_2) := bc BK165 2
   have hcz20_3 : w11.cell? ⟨gb165, 3, none⟩ = some (.int .i64 a0_3) := bc BK165 3
   have hfz20_0 := blk_frozen BK165.out 0
   have hfz20_1 := blk_frozen BK165.out 1
   have hfz20_2 := blk_frozen BK165.out 2
   have hfz20_3 := blk_frozen BK165.out 3
   go_wp2
   repeat (go_quiet (fail); try go_wp2)
   go_meet
   case rel => exact ⟨_, (false), pr, H', ⟨by first | omega | exact Nat.le_refl _⟩, ⟨by (with_reducible repeat (first | refine blk_drewN ?_ _ | refine blk_drew ?_ | refine blk_alloc ?_ _)); refine blk_far ?_ NB165_168.out _; (with_reducible repeat (first | refine blk_drewN ?_ _ | refine blk_drew ?_ | refine blk_alloc ?_ _)); refine blk_far ?_ NB165_168.out _; (with_reducible repeat (first | refine blk_drewN ?_ _ | refine blk_drew ?_ | refine blk_alloc ?_ _)); refine blk_far ?_ NB165_168.out _; (with_reducible repeat (first | refine blk_drewN ?_ _ | refine blk_drew ?_ | refine blk_alloc ?_ _)); refine blk_far ?_ NB165_168.out _; (with_reducible repeat (first | refine blk_drewN ?_ _ | refine blk_drew ?_ | refine blk_alloc ?_ _)); exact BK165.out⟩, ⟨by (with_reducible repeat (first | refine blk_drewN ?_ _ | refine blk_drew ?_ | refine blk_alloc ?_ _)); refine blk_far ?_ NB166_168.out _; (with_reducible repeat (first | refine blk_drewN ?_ _ | refine blk_drew ?_ | refine blk_alloc ?_ _)); refine blk_far ?_ NB166_168.out _; (with_reducible repeat (first | refine blk_drewN ?_ _ | refine blk_drew ?_ | refine blk_alloc ?_ _)); refine blk_far ?_ NB166_168.out _; (with_reducible repeat (first | refine blk_drewN ?_ _ | refine blk_drew ?_ | refine blk_alloc ?_ _)); refine blk_far ?_ NB166_168.out _; (with_reducible repeat (first | refine blk_drewN ?_ _ | refine blk_drew ?_ | refine blk_alloc ?_ _)); exact BK166.out⟩, ⟨by (with_reducible repeat (first | refine blk_drewN ?_ _ | refine blk_drew ?_ | refine blk_alloc ?_ _)); refine blk_far ?_ NB167_168.out _; (with_reducible repeat (first | refine blk_drewN ?_ _ | refine blk_drew ?_ | refine blk_alloc ?_ _)); refine blk_far ?_ NB167_168.out _; (with_reducible repeat (first | refine blk_drewN ?_ _ | refine blk_drew ?_ | refine blk_alloc ?_ _)); refine blk_far ?_ NB167_168.out _; (with_reducible repeat (first | refine blk_drewN ?_ _ | refine blk_drew ?_ | refine blk_alloc ?_ _)); refine blk_far ?_ NB167_168.out _; (with_reducible repeat (first | refine blk_drewN ?_ _ | refine blk_drew ?_ | refine blk_alloc ?_ _)); exact BK167.out⟩, ⟨by (with_reducible repeat (first | refine blk_drewN ?_ _ | refine blk_drew ?_ | refine blk_alloc ?_ _)); refine blk_put (cs := #[.bool true, .bool a0_1, .int .i64 a0_2, .int .i64 0]) ?_ 3 _ rfl; (with_reducible repeat (first | refine blk_drewN ?_ _ | refine blk_drew ?_ | refine blk_alloc ?_ _)); refine blk_put (cs := #[.bool true, .bool a0_1, .int .i64 0, .int .i64 0]) ?_ 2 _ rfl; (with_reducible repeat (first | refine blk_drewN ?_ _ | refine blk_drew ?_ | refine blk_alloc ?_ _)); refine blk_put (cs := #[.bool true, .bool false, .int .i64 0, .int .i64 0]) ?_ 1 _ rfl; (with_reducible repeat (first | refine blk_drewN ?_ _ | refine blk_drew ?_ | refine blk_alloc ?_ _)); refine blk_put (cs := #[.bool false, .bool false, .int .i64 0, .int .i64 0]) ?_ 0 _ rfl; (with_reducible repeat (first | refine blk_drewN ?_ _ | refine blk_drew ?_ | refine blk_alloc ?_ _)); exact BK168.out⟩, ⟨pw⟩⟩
  replace c16 := Bool.eq_false_iff.mpr c16
  subst c16
  have H1 : (if a1_0 = true then (R2_WidenedOf.j0 k l2 true false a0_1 a0_2 a0_3 a1_0 a1_1 a1_2 a1_3 false a0_1 a0_2 a0_3) else (R2_WidenedOf.j0 k l2 (decide (a1_2 < a0_2)) false a0_1 a0_2 a0_3 a1_0 a1_1 a1_2 a1_3 false a0_1 a0_2 a0_3)) = some (r1, r2, r3, r4) := by rw [if_neg (show ¬ (false = true) by decide)] at H; exact H
  clear H
  have H := H1
  clear H1
  by_cases c21 : a1_0 = true
  ·subst c21
   have H1 : (R2_WidenedOf.j0 k l2 true false a0_1 a0_2 a0_3 true a1_1 a1_2 a1_3 false a0_1 a0_2 a0_3) = some (r1, r2, r3, r4) := by rw [if_pos rfl] at H; exact H
   clear H
   have H := H1
   clear H1
   have H' := am H
   clear H
   have hnb22 := NB165_166.out
   have hnc22 := NB166_165.out
   have hnb23 := NB165_167.out
   have hnc23 := NB167_165.out
   have hnb24 := NB165_168.out
   have hnc24 := NB168_165.out
   have hcz25_0 : w11.cell? ⟨gb165, 0, none⟩ = some (.bool false) := bc BK165 0
   have hcz25_1 : w11.cell? ⟨gb165, 1, none⟩ = some (.bool a0_1) := bc BK165 1
   have hcz25_2 : w11.cell? ⟨gb165, 2, none⟩ = some (.int .i64 a0_2) := bc BK165 2
   have hcz25_3 : w11.cell? ⟨gb165, 3, none⟩ = some (.int .i64 a0_3) := bc BK165 3
   have hfz25_0 := blk_frozen BK165.out 0
   have hfz25_1 := blk_frozen BK165.out 1
   have hfz25_2 := blk_frozen BK165.out 2
   have hfz25_3 := blk_frozen BK165.out 3
   have hnb26 := NB166_167.out
   have hnc26 := NB167_166.out
   have hnb27 := NB166_168.out
   have hnc27 := NB168_166.out
   have hcz28_0 : w11.cell? ⟨gb166, 0, none⟩ = some (.bool true) := bc BK166 0
   have hcz28_1 : w11.cell? ⟨gb166, 1, none⟩ = some (.bool a1_1) := bc BK166 1
   have hcz28_2 : w11.cell? ⟨gb166, 2, none⟩ = some (.int .i64 a1_2) := bc BK166 2
   have hcz28_3 : w11.cell? ⟨gb166, 3, none⟩ = some (.int .i64 a1_3) := bc BK166 3
   have hfz28_0 := blk_frozen BK166.out 0
   have hfz28_1 := blk_frozen BK166.out 1
   have hfz28_2 := blk_frozen BK166.out 2
   have hfz28_3 := blk_frozen BK166.out 3
   go_wp2
   repeat (go_quiet (fail); try go_wp2)
   go_meet
   case rel => exact ⟨_, (true), pr, H', ⟨by first | omega | exact Nat.le_refl _⟩, ⟨by (with_reducible repeat (first | refine blk_drewN ?_ _ | refine blk_drew ?_ | refine blk_alloc ?_ _)); refine blk_far ?_ NB165_168.out _; (with_reducible repeat (first | refine blk_drewN ?_ _ | refine blk_drew ?_ | refine blk_alloc ?_ _)); refine blk_far ?_ NB165_168.out _; (with_reducible repeat (first | refine blk_drewN ?_ _ | refine blk_drew ?_ | refine blk_alloc ?_ _)); refine blk_far ?_ NB165_168.out _; (with_reducible repeat (first | refine blk_drewN ?_ _ | refine blk_drew ?_ | refine blk_alloc ?_ _)); refine blk_far ?_ NB165_168.out _; (with_reducible repeat (first | refine blk_drewN ?_ _ | refine blk_drew ?_ | refine blk_alloc ?_ _)); exact BK165.out⟩, ⟨by (with_reducible repeat (first | refine blk_drewN ?_ _ | refine blk_drew ?_ | refine blk_alloc ?_ _)); refine blk_far ?_ NB166_168.out _; (with_reducible repeat (first | refine blk_drewN ?_ _ | refine blk_drew ?_ | refine blk_alloc ?_ _)); refine blk_far ?_ NB166_168.out _; (with_reducible repeat (first | refine blk_drewN ?_ _ | refine blk_drew ?_ | refine blk_alloc ?_ _)); refine blk_far ?_ NB166_168.out _; (with_reducible repeat (first | refine blk_drewN ?_ _ | refine blk_drew ?_ | refine blk_alloc ?_ _)); refine blk_far ?_ NB166_168.out _; (with_reducible repeat (first | refine blk_drewN ?_ _ | refine blk_drew ?_ | refine blk_alloc ?_ _)); exact BK166.out⟩, ⟨by (with_reducible repeat (first | refine blk_drewN ?_ _ | refine blk_drew ?_ | refine blk_alloc ?_ _)); refine blk_far ?_ NB167_168.out _; (with_reducible repeat (first | refine blk_drewN ?_ _ | refine blk_drew ?_ | refine blk_alloc ?_ _)); refine blk_far ?_ NB167_168.out _; (with_reducible repeat (first | refine blk_drewN ?_ _ | refine blk_drew ?_ | refine blk_alloc ?_ _)); refine blk_far ?_ NB167_168.out _; (with_reducible repeat (first | refine blk_drewN ?_ _ | refine blk_drew ?_ | refine blk_alloc ?_ _)); refine blk_far ?_ NB167_168.out _; (with_reducible repeat (first | refine blk_drewN ?_ _ | refine blk_drew ?_ | refine blk_alloc ?_ _)); exact BK167.out⟩, ⟨by (with_reducible repeat (first | refine blk_drewN ?_ _ | refine blk_drew ?_ | refine blk_alloc ?_ _)); refine blk_put (cs := #[.bool false, .bool a0_1, .int .i64 a0_2, .int .i64 0]) ?_ 3 _ rfl; (with_reducible repeat (first | refine blk_drewN ?_ _ | refine blk_drew ?_ | refine blk_alloc ?_ _)); refine blk_put (cs := #[.bool false, .bool a0_1, .int .i64 0, .int .i64 0]) ?_ 2 _ rfl; (with_reducible repeat (first | refine blk_drewN ?_ _ | refine blk_drew ?_ | refine blk_alloc ?_ _)); refine blk_put (cs := #[.bool false, .bool false, .int .i64 0, .int .i64 0]) ?_ 1 _ rfl; (with_reducible repeat (first | refine blk_drewN ?_ _ | refine blk_drew ?_ | refine blk_alloc ?_ _)); refine blk_put (cs := #[.bool false, .bool false, .int .i64 0, .int .i64 0]) ?_ 0 _ rfl; (with_reducible repeat (first | refine blk_drewN ?_ _ | refine blk_drew ?_ | refine blk_alloc ?_ _)); exact BK168.out⟩, ⟨pw⟩⟩
  replace c21 := Bool.eq_false_iff.mpr c21
  subst c21
  have H1 : (R2_WidenedOf.j0 k l2 (decide (a1_2 < a0_2)) false a0_1 a0_2 a0_3 false a1_1 a1_2 a1_3 false a0_1 a0_2 a0_3) = some (r1, r2, r3, r4) := by rw [if_neg (show ¬ (false = true) by decide)] at H; exact H
  clear H
  have H := H1
  clear H1
  have H' := am H
  clear H
  have hnb29 := NB165_166.out
  have hnc29 := NB166_165.out
  have hnb30 := NB165_167.out
  have hnc30 := NB167_165.out
  have hnb31 := NB165_168.out
  have hnc31 := NB168_165.out
  have hcz32_0 : w11.cell? ⟨gb165, 0, none⟩ = some (.bool false) := bc BK165 0
  have hcz32_1 : w11.cell? ⟨gb165, 1, none⟩ = some (.bool a0_1) := bc BK165 1
  have hcz32_2 : w11.cell? ⟨gb165, 2, none⟩ = some (.int .i64 a0_2) := bc BK165 2
  have hcz32_3 : w11.cell? ⟨gb165, 3, none⟩ = some (.int .i64 a0_3) := bc BK165 3
  have hfz32_0 := blk_frozen BK165.out 0
  have hfz32_1 := blk_frozen BK165.out 1
  have hfz32_2 := blk_frozen BK165.out 2
  have hfz32_3 := blk_frozen BK165.out 3
  have hnb33 := NB166_167.out
  have hnc33 := NB167_166.out
  have hnb34 := NB166_168.out
  have hnc34 := NB168_166.out
  have hcz35_0 : w11.cell? ⟨gb166, 0, none⟩ = some (.bool false) := bc BK166 0
  have hcz35_1 : w11.cell? ⟨gb166, 1, none⟩ = some (.bool a1_1) := bc BK166 1
  have hcz35_2 : w11.cell? ⟨gb166, 2, none⟩ = some (.int .i64 a1_2) := bc BK166 2
  have hcz35_3 : w11.cell? ⟨gb166, 3, none⟩ = some (.int .i64 a1_3) := bc BK166 3
  have hfz35_0 := blk_frozen BK166.out 0
  have hfz35_1 := blk_frozen BK166.out 1
  have hfz35_2 := blk_frozen BK166.out 2
  have hfz35_3 := blk_frozen BK166.out 3
  go_wp2
  repeat (go_quiet (fail); try go_wp2)
  go_meet
  case rel => exact ⟨_, (decide (a1_2 < a0_2)), pr, H', ⟨by first | omega | exact Nat.le_refl _⟩, ⟨by (with_reducible repeat (first | refine blk_drewN ?_ _ | refine blk_drew ?_ | refine blk_alloc ?_ _)); refine blk_far ?_ NB165_168.out _; (with_reducible repeat (first | refine blk_drewN ?_ _ | refine blk_drew ?_ | refine blk_alloc ?_ _)); refine blk_far ?_ NB165_168.out _; (with_reducible repeat (first | refine blk_drewN ?_ _ | refine blk_drew ?_ | refine blk_alloc ?_ _)); refine blk_far ?_ NB165_168.out _; (with_reducible repeat (first | refine blk_drewN ?_ _ | refine blk_drew ?_ | refine blk_alloc ?_ _)); refine blk_far ?_ NB165_168.out _; (with_reducible repeat (first | refine blk_drewN ?_ _ | refine blk_drew ?_ | refine blk_alloc ?_ _)); exact BK165.out⟩, ⟨by (with_reducible repeat (first | refine blk_drewN ?_ _ | refine blk_drew ?_ | refine blk_alloc ?_ _)); refine blk_far ?_ NB166_168.out _; (with_reducible repeat (first | refine blk_drewN ?_ _ | refine blk_drew ?_ | refine blk_alloc ?_ _)); refine blk_far ?_ NB166_168.out _; (with_reducible repeat (first | refine blk_drewN ?_ _ | refine blk_drew ?_ | refine blk_alloc ?_ _)); refine blk_far ?_ NB166_168.out _; (with_reducible repeat (first | refine blk_drewN ?_ _ | refine blk_drew ?_ | refine blk_alloc ?_ _)); refine blk_far ?_ NB166_168.out _; (with_reducible repeat (first | refine blk_drewN ?_ _ | refine blk_drew ?_ | refine blk_alloc ?_ _)); exact BK166.out⟩, ⟨by (with_reducible repeat (first | refine blk_drewN ?_ _ | refine blk_drew ?_ | refine blk_alloc ?_ _)); refine blk_far ?_ NB167_168.out _; (with_reducible repeat (first | refine blk_drewN ?_ _ | refine blk_drew ?_ | refine blk_alloc ?_ _)); refine blk_far ?_ NB167_168.out _; (with_reducible repeat (first | refine blk_drewN ?_ _ | refine blk_drew ?_ | refine blk_alloc ?_ _)); refine blk_far ?_ NB167_168.out _; (with_reducible repeat (first | refine blk_drewN ?_ _ | refine blk_drew ?_ | refine blk_alloc ?_ _)); refine blk_far ?_ NB167_168.out _; (with_reducible repeat (first | refine blk_drewN ?_ _ | refine blk_drew ?_ | refine blk_alloc ?_ _)); exact BK167.out⟩, ⟨by (with_reducible repeat (first | refine blk_drewN ?_ _ | refine blk_drew ?_ | refine blk_alloc ?_ _)); refine blk_put (cs := #[.bool false, .bool a0_1, .int .i64 a0_2, .int .i64 0]) ?_ 3 _ rfl; (with_reducible repeat (first | refine blk_drewN ?_ _ | refine blk_drew ?_ | refine blk_alloc ?_ _)); refine blk_put (cs := #[.bool false, .bool a0_1, .int .i64 0, .int .i64 0]) ?_ 2 _ rfl; (with_reducible repeat (first | refine blk_drewN ?_ _ | refine blk_drew ?_ | refine blk_alloc ?_ _)); refine blk_put (cs := #[.bool false, .bool false, .int .i64 0, .int .i64 0]) ?_ 1 _ rfl; (with_reducible repeat (first | refine blk_drewN ?_ _ | refine blk_drew ?_ | refine blk_alloc ?_ _)); refine blk_put (cs := #[.bool false, .bool false, .int .i64 0, .int .i64 0]) ?_ 0 _ rfl; (with_reducible repeat (first | refine blk_drewN ?_ _ | refine blk_drew ?_ | refine blk_alloc ?_ _)); exact BK168.out⟩, ⟨pw⟩⟩
 clear HC4
 try clear c1
 try clear c2
 try clear p2
 try clear c3
 try clear c4
 try clear c8
 try clear c9
 try clear c12
 try clear c13
 try clear c14
 try clear c16
 try clear c17
 try clear c18
 try clear c19
 try clear c21
 try clear c22
 try clear c23
 try clear c24
 try clear c26
 try clear c27
 try clear c29
 try clear c30
 try clear c31
 try clear c33
 try clear c34
 try clear hcz10_0
 try clear hcz10_1
 try clear hcz10_2
 try clear hcz10_3
 try clear hcz15_0
 try clear hcz15_1
 try clear hcz15_2
 try clear hcz15_3
 try clear hcz20_0
 try clear hcz20_1
 try clear hcz20_2
 try clear hcz20_3
 try clear hcz25_0
 try clear hcz25_1
 try clear hcz25_2
 try clear hcz25_3
 try clear hcz28_0
 try clear hcz28_1
 try clear hcz28_2
 try clear hcz28_3
 try clear hcz32_0
 try clear hcz32_1
 try clear hcz32_2
 try clear hcz32_3
 try clear hcz35_0
 try clear hcz35_1
 try clear hcz35_2
 try clear hcz35_3
 try clear hfz10_0
 try clear hfz10_1
 try clear hfz10_2
 try clear hfz10_3
 try clear hfz15_0
 try clear hfz15_1
 try clear hfz15_2
 try clear hfz15_3
 try clear hfz20_0
 try clear hfz20_1
 try clear hfz20_2
 try clear hfz20_3
 try clear hfz25_0
 try clear hfz25_1
 try clear hfz25_2
 try clear hfz25_3
 try clear hfz28_0
 try clear hfz28_1
 try clear hfz28_2
 try clear hfz28_3
 try clear hfz32_0
 try clear hfz32_1
 try clear hfz32_2
 try clear hfz32_3
 try clear hfz35_0
 try clear hfz35_1
 try clear hfz35_2
 try clear hfz35_3
 obtain ⟨kq, x24_3, rfl, HA, HJ3, BK165, BK166, BK167, BK168, HB⟩ := hcut
 cases kq with
 | zero => exact absurd HA.out (by simp [R2_WidenedOf.j0])
 | succ kj3 =>
  have H := HA.out
  clear HA
  simp only [R2_WidenedOf.j0] at H
  have HC36 := am H
  clear H
  go_upto_if 24 with (fail)
  repeat (go_quiet (fail); go_upto_if 24 with (fail))
  go_cut [] (fun wc => ∃ (kq : Nat) (x169000_35 : Bool) (x169002_35 : Int), Aside0 (R2_WidenedOf.j3 kq l2 a0_0 a0_1 a0_2 a0_3 a1_0 a1_1 a1_2 a1_3 x169000_35 a0_1 x169002_35 a0_3 = some (r1, r2, r3, r4)) ∧ Aside0 (kq ≤ kj3) ∧ Aside0 (wc.heap[gb165]? = some (.cells #[.bool a0_0, .bool a0_1, .int .i64 a0_2, .int .i64 a0_3] 23 (0, 0))) ∧ Aside0 (wc.heap[gb166]? = some (.cells #[.bool a1_0, .bool a1_1, .int .i64 a1_2, .int .i64 a1_3] 23 (0, 0))) ∧ Aside0 (wc.heap[gb167]? = some (.cells #[.bool false, .bool false, .int .i64 0, .int .i64 0] 23 (0, 0))) ∧ Aside0 (wc.heap[gb168]? = some (.cells #[.bool x169000_35, .bool a0_1, .int .i64 x169002_35, .int .i64 a0_3] 23 (0, 0))) ∧ Aside0 (Below w.heap.size w wc))
  case first =>
   have H := HC36.out
   clear HC36
   by_cases c37 : x24_3 = true
   ·subst c37
    have H1 : (R2_WidenedOf.l0 kj3 l2 0 a0_0 a0_1 a0_2 a0_3 a1_0 a1_1 a1_2 a1_3 true a0_1 0 a0_3) = some (r1, r2, r3, r4) := by rw [if_pos rfl] at H; exact H
    clear H
    have H := H1
    clear H1
    have H' := am H
    clear H
    have hnb38 := NB168_165.out
    have hnc38 := NB165_168.out
    have hnb39 := NB168_166.out
    have hnc39 := NB166_168.out
    have hnb40 := NB168_167.out
    have hnc40 := NB167_168.out
    have hcz41_0 : wc.cell? ⟨gb168, 0, none⟩ = some (.bool a0_0) := bc BK168 0
    have hcz41_1 : wc.cell? ⟨gb168, 1, none⟩ = some (.bool a0_1) := bc BK168 1
    have hcz41_2 : wc.cell? ⟨gb168, 2, none⟩ = some (.int .i64 a0_2) := bc BK168 2
    have hcz41_3 : wc.cell? ⟨gb168, 3, none⟩ = some (.int .i64 a0_3) := bc BK168 3
    have hfz41_0 := blk_frozen BK168.out 0
    have hfz41_1 := blk_frozen BK168.out 1
    have hfz41_2 := blk_frozen BK168.out 2
    have hfz41_3 := blk_frozen BK168.out 3
    go_wp2
    repeat (go_quiet (fail); try go_wp2)
    go_loopg [8] kj3 (fun kq v8 w' => ∃ (x8_2 : Int) (x169000_2 : Bool) (x169002_2 : Int), v8 = .int .i64 x8_2 ∧ Aside0 (R2_WidenedOf.l0 kq l2 x8_2 a0_0 a0_1 a0_2 a0_3 a1_0 a1_1 a1_2 a1_3 x169000_2 a0_1 x169002_2 a0_3 = some (r1, r2, r3, r4)) ∧ Aside0 (kq ≤ kj3) ∧ Aside0 (w'.heap[gb165]? = some (.cells #[.bool a0_0, .bool a0_1, .int .i64 a0_2, .int .i64 a0_3] 23 (0, 0))) ∧ Aside0 (w'.heap[gb166]? = some (.cells #[.bool a1_0, .bool a1_1, .int .i64 a1_2, .int .i64 a1_3] 23 (0, 0))) ∧ Aside0 (w'.heap[gb167]? = some (.cells #[.bool false, .bool false, .int .i64 0, .int .i64 0] 23 (0, 0))) ∧ Aside0 (w'.heap[gb168]? = some (.cells #[.bool x169000_2, .bool a0_1, .int .i64 x169002_2, .int .i64 a0_3] 23 (0, 0))) ∧ Aside0 (Below w.heap.size w w'))
    case atStart => exact ⟨(0), (true), (0), pr, H', ⟨Nat.le_refl _⟩, ⟨by (with_reducible repeat (first | refine blk_drewN ?_ _ | refine blk_drew ?_ | refine blk_alloc ?_ _)); refine blk_far ?_ NB165_168.out _; (with_reducible repeat (first | refine blk_drewN ?_ _ | refine blk_drew ?_ | refine blk_alloc ?_ _)); refine blk_far ?_ NB165_168.out _; (with_reducible repeat (first | refine blk_drewN ?_ _ | refine blk_drew ?_ | refine blk_alloc ?_ _)); exact BK165.out⟩, ⟨by (with_reducible repeat (first | refine blk_drewN ?_ _ | refine blk_drew ?_ | refine blk_alloc ?_ _)); refine blk_far ?_ NB166_168.out _; (with_reducible repeat (first | refine blk_drewN ?_ _ | refine blk_drew ?_ | refine blk_alloc ?_ _)); refine blk_far ?_ NB166_168.out _; (with_reducible repeat (first | refine blk_drewN ?_ _ | refine blk_drew ?_ | refine blk_alloc ?_ _)); exact BK166.out⟩, ⟨by (with_reducible repeat (first | refine blk_drewN ?_ _ | refine blk_drew ?_ | refine blk_alloc ?_ _)); refine blk_far ?_ NB167_168.out _; (with_reducible repeat (first | refine blk_drewN ?_ _ | refine blk_drew ?_ | refine blk_alloc ?_ _)); refine blk_far ?_ NB167_168.out _; (with_reducible repeat (first | refine blk_drewN ?_ _ | refine blk_drew ?_ | refine blk_alloc ?_ _)); exact BK167.out⟩, ⟨by (with_reducible repeat (first | refine blk_drewN ?_ _ | refine blk_drew ?_ | refine blk_alloc ?_ _)); refine blk_put (cs := #[.bool true, .bool a0_1, .int .i64 a0_2, .int .i64 a0_3]) ?_ 2 _ rfl; (with_reducible repeat (first | refine blk_drewN ?_ _ | refine blk_drew ?_ | refine blk_alloc ?_ _)); refine blk_put (cs := #[.bool a0_0, .bool a0_1, .int .i64 a0_2, .int .i64 a0_3]) ?_ 0 _ rfl; (with_reducible repeat (first | refine blk_drewN ?_ _ | refine blk_drew ?_ | refine blk_alloc ?_ _)); exact BK168.out⟩, ⟨pw⟩⟩
    case round =>
     clear H'
     try clear c1
     try clear c2
     try clear p2
     try clear c3
     try clear c4
     try clear c8
     try clear c9
     try clear c12
     try clear c13
     try clear c14
     try clear c16
     try clear c17
     try clear c18
     try clear c19
     try clear c21
     try clear c22
     try clear c23
     try clear c24
     try clear c26
     try clear c27
     try clear c29
     try clear c30
     try clear c31
     try clear c33
     try clear c34
     try clear c37
     try clear c38
     try clear c39
     try clear c40
     try clear hcz10_0
     try clear hcz10_1
     try clear hcz10_2
     try clear hcz10_3
     try clear hcz15_0
     try clear hcz15_1
     try clear hcz15_2
     try clear hcz15_3
     try clear hcz20_0
     try clear hcz20_1
     try clear hcz20_2
     try clear hcz20_3
     try clear hcz25_0
     try clear hcz25_1
     try clear hcz25_2
     try clear hcz25_3
     try clear hcz28_0
     try clear hcz28_1
     try clear hcz28_2
     try clear hcz28_3
     try clear hcz32_0
     try clear hcz32_1
     try clear hcz32_2
     try clear hcz32_3
     try clear hcz35_0
     try clear hcz35_1
     try clear hcz35_2
     try clear hcz35_3
     try clear hcz41_0
     try clear hcz41_1
     try clear hcz41_2
     try clear hcz41_3
     try clear hfz10_0
     try clear hfz10_1
     try clear hfz10_2
     try clear hfz10_3
     try clear hfz15_0
     try clear hfz15_1
     try clear hfz15_2
     try clear hfz15_3
     try clear hfz20_0
     try clear hfz20_1
     try clear hfz20_2
     try clear hfz20_3
     try clear hfz25_0
     try clear hfz25_1
     try clear hfz25_2
     try clear hfz25_3
     try clear hfz28_0
     try clear hfz28_1
     try clear hfz28_2
     try clear hfz28_3
     try clear hfz32_0
     try clear hfz32_1
     try clear hfz32_2
     try clear hfz32_3
     try clear hfz35_0
     try clear hfz35_1
     try clear hfz35_2
     try clear hfz35_3
     try clear hfz41_0
     try clear hfz41_1
     try clear hfz41_2
     try clear hfz41_3
     try clear p2
     obtain ⟨x8_2, x169000_2, x169002_2, rfl, HA, HK2, BK165, BK166, BK167, BK168, HB⟩ := hrel
     cases gk with
     | zero => exact absurd HA.out (by simp [R2_WidenedOf.l0])
     | succ k2 =>
      have H := HA.out
      clear HA
      simp only [R2_WidenedOf.l0] at H
      have HC42 := am H
      clear H
      go_upto_region 6 with (fail)
      repeat (go_quiet (fail); go_upto_region 6 with (fail))
      go_cut [35] (fun v35 wc => ∃ (kq : Nat) (x35_41 : Bool), v35 = .bool x35_41 ∧ Aside0 (R2_WidenedOf.j2 kq l2 x8_2 x35_41 a0_0 a0_1 a0_2 a0_3 a1_0 a1_1 a1_2 a1_3 x169000_2 a0_1 x169002_2 a0_3 = some (r1, r2, r3, r4)) ∧ Aside0 (kq ≤ k2) ∧ Aside0 (wc.heap[gb165]? = some (.cells #[.bool a0_0, .bool a0_1, .int .i64 a0_2, .int .i64 a0_3] 23 (0, 0))) ∧ Aside0 (wc.heap[gb166]? = some (.cells #[.bool a1_0, .bool a1_1, .int .i64 a1_2, .int .i64 a1_3] 23 (0, 0))) ∧ Aside0 (wc.heap[gb167]? = some (.cells #[.bool false, .bool false, .int .i64 0, .int .i64 0] 23 (0, 0))) ∧ Aside0 (wc.heap[gb168]? = some (.cells #[.bool x169000_2, .bool a0_1, .int .i64 x169002_2, .int .i64 a0_3] 23 (0, 0))) ∧ Aside0 (Below w.heap.size w wc))
      case first =>
       have H := HC42.out
       clear HC42
       by_cases c43 : x8_2 < (l2.length : Int)
       ·rw [if_pos c43] at H
        have c43b0 : decide (x8_2 < (l2.length : Int)) = true := decide_eq_true c43
        clear c43
        (first | rw [c43b0] | (simp only [i64_w, i32_w]; rw [c43b0]) | skip)
        have H' := am H
        clear H
        have hnb44 := NB166_165.out
        have hnc44 := NB165_166.out
        have hnb45 := NB166_167.out
        have hnc45 := NB167_166.out
        have hnb46 := NB166_168.out
        have hnc46 := NB168_166.out
        have hcz47_0 : wr.cell? ⟨gb166, 0, none⟩ = some (.bool a1_0) := bc BK166 0
        have hcz47_1 : wr.cell? ⟨gb166, 1, none⟩ = some (.bool a1_1) := bc BK166 1
        have hcz47_2 : wr.cell? ⟨gb166, 2, none⟩ = some (.int .i64 a1_2) := bc BK166 2
        have hcz47_3 : wr.cell? ⟨gb166, 3, none⟩ = some (.int .i64 a1_3) := bc BK166 3
        have hfz47_0 := blk_frozen BK166.out 0
        have hfz47_1 := blk_frozen BK166.out 1
        have hfz47_2 := blk_frozen BK166.out 2
        have hfz47_3 := blk_frozen BK166.out 3
        go_wp2
        repeat (go_quiet (fail); try go_wp2)
        go_meet
        case rel => exact ⟨_, (!a1_0), pr, H', ⟨by have := HJ3.out; have := HK2.out; first | omega | exact Nat.le_refl _⟩, ⟨pk⟩, ⟨pk⟩, ⟨pk⟩, ⟨pk⟩, ⟨pw⟩⟩
       rw [if_neg c43] at H
       have c43b0 : decide (x8_2 < (l2.length : Int)) = false := decide_eq_false c43
       clear c43
       (first | rw [c43b0] | (simp only [i64_w, i32_w]; rw [c43b0]) | skip)
       have H' := am H
       clear H
       go_wp2
       repeat (go_quiet (fail); try go_wp2)
       go_meet
       case rel => exact ⟨_, (false), pr, H', ⟨by have := HJ3.out; have := HK2.out; first | omega | exact Nat.le_refl _⟩, ⟨pk⟩, ⟨pk⟩, ⟨pk⟩, ⟨pk⟩, ⟨pw⟩⟩
      clear HC42
      try clear c1
      try clear c2
      try clear p2
      try clear c3
      try clear c4
      try clear c8
      try clear c9
      try clear c12
      try clear c13
      try clear c14
      try clear c16
      try clear c17
      try clear c18
      try clear c19
      try clear c21
      try clear c22
      try clear c23
      try clear c24
      try clear c26
      try clear c27
      try clear c29
      try clear c30
      try clear c31
      try clear c33
      try clear c34
      try clear c37
      try clear c38
      try clear c39
      try clear c40
      try clear c43
      try clear c43b0
      try clear c44
      try clear c45
      try clear c46
      try clear hcz10_0
      try clear hcz10_1
      try clear hcz10_2
      try clear hcz10_3
      try clear hcz15_0
      try clear hcz15_1
      try clear hcz15_2
      try clear hcz15_3
      try clear hcz20_0
      try clear hcz20_1
      try clear hcz20_2
      try clear hcz20_3
      try clear hcz25_0
      try clear hcz25_1
      try clear hcz25_2
      try clear hcz25_3
      try clear hcz28_0
      try clear hcz28_1
      try clear hcz28_2
      try clear hcz28_3
      try clear hcz32_0
      try clear hcz32_1
      try clear hcz32_2
      try clear hcz32_3
      try clear hcz35_0
      try clear hcz35_1
      try clear hcz35_2
      try clear hcz35_3
      try clear hcz41_0
      try clear hcz41_1
      try clear hcz41_2
      try clear hcz41_3
      try clear hcz47_0
      try clear hcz47_1
      try clear hcz47_2
      try clear hcz47_3
      try clear hfz10_0
      try clear hfz10_1
      try clear hfz10_2
      try clear hfz10_3
      try clear hfz15_0
      try clear hfz15_1
      try clear hfz15_2
      try clear hfz15_3
      try clear hfz20_0
      try clear hfz20_1
      try clear hfz20_2
      try clear hfz20_3
      try clear hfz25_0
      try clear hfz25_1
      try clear hfz25_2
      try clear hfz25_3
      try clear hfz28_0
      try clear hfz28_1
      try clear hfz28_2
      try clear hfz28_3
      try clear hfz32_0
      try clear hfz32_1
      try clear hfz32_2
      try clear hfz32_3
      try clear hfz35_0
      try clear hfz35_1
      try clear hfz35_2
      try clear hfz35_3
      try clear hfz41_0
      try clear hfz41_1
      try clear hfz41_2
      try clear hfz41_3
      try clear hfz47_0
      try clear hfz47_1
      try clear hfz47_2
      try clear hfz47_3
      try clear p2
      obtain ⟨kq, x35_41, rfl, HA, HJ41, BK165, BK166, BK167, BK168, HB⟩ := hcut
      cases kq with
      | zero => exact absurd HA.out (by simp [R2_WidenedOf.j2])
      | succ kj41 =>
       have H := HA.out
       clear HA
       simp only [R2_WidenedOf.j2] at H
       by_cases c48 : x35_41 = true
       ·subst c48
        have H1 : (if 0 ≤ x8_2 then (if x8_2 < (l2.length : Int) then (if (rd l2 x8_2) ≤ a1_2 then (if x169000_2 = true then (R2_WidenedOf.l0 kj41 l2 (wrap64 (x8_2 + 1)) a0_0 a0_1 a0_2 a0_3 a1_0 a1_1 a1_2 a1_3 false a0_1 (rd l2 x8_2) a0_3) else (if (rd l2 x8_2) > x169002_2 then (R2_WidenedOf.l0 kj41 l2 (wrap64 (x8_2 + 1)) a0_0 a0_1 a0_2 a0_3 a1_0 a1_1 a1_2 a1_3 false a0_1 (rd l2 x8_2) a0_3) else (R2_WidenedOf.l0 kj41 l2 (wrap64 (x8_2 + 1)) a0_0 a0_1 a0_2 a0_3 a1_0 a1_1 a1_2 a1_3 x169000_2 a0_1 x169002_2 a0_3))) else (R2_WidenedOf.l0 kj41 l2 (wrap64 (x8_2 + 1)) a0_0 a0_1 a0_2 a0_3 a1_0 a1_1 a1_2 a1_3 x169000_2 a0_1 x169002_2 a0_3)) else (none)) else (none)) = some (r1, r2, r3, r4) := by rw [if_pos rfl] at H; exact H
        clear H
        have H := H1
        clear H1
        by_cases c49 : 0 ≤ x8_2
        ·rw [if_pos c49] at H
         have c49b0 : decide (0 ≤ x8_2) = true := decide_eq_true c49
         clear c49
         by_cases c50 : x8_2 < (l2.length : Int)
         ·rw [if_pos c50] at H
          have c50b0 : decide (x8_2 < (l2.length : Int)) = true := decide_eq_true c50
          clear c50
          by_cases c51 : (rd l2 x8_2) ≤ a1_2
          ·rw [if_pos c51] at H
           have c51b0 : decide ((rd l2 x8_2) ≤ a1_2) = true := decide_eq_true c51
           clear c51
           by_cases c52 : x169000_2 = true
           ·subst c52
            have H1 : (R2_WidenedOf.l0 kj41 l2 (wrap64 (x8_2 + 1)) a0_0 a0_1 a0_2 a0_3 a1_0 a1_1 a1_2 a1_3 false a0_1 (rd l2 x8_2) a0_3) = some (r1, r2, r3, r4) := by rw [if_pos rfl] at H; exact H
            clear H
            have H := H1
            clear H1
            have H' := am H
            clear H
            have p169 : 0 ≤ (x8_2 : Int) := of_decide_eq_true (by first | (with_reducible assumption) | assumption)
            have q169 : x8_2 < (l2.length : Int) := of_decide_eq_true (by first | (with_reducible assumption) | assumption)
            obtain ⟨ad169, e169, hx169_0⟩ := Kd.at_int HR2.out x8_2 p169 q169
            cases e169
            replace hx169_0 := (HB.out.cell (World.block_lt_of_cell? w _ hx169_0)).trans hx169_0
            replace p169 := eq_true p169
            replace q169 := eq_true q169
            have hnb53 := NB166_165.out
            have hnc53 := NB165_166.out
            have hnb54 := NB166_167.out
            have hnc54 := NB167_166.out
            have hnb55 := NB166_168.out
            have hnc55 := NB168_166.out
            have hcz56_0 : wc.cell? ⟨gb166, 0, none⟩ = some (.bool a1_0) := bc BK166 0
            have hcz56_1 : wc.cell? ⟨gb166, 1, none⟩ = some (.bool a1_1) := bc BK166 1
            have hcz56_2 : wc.cell? ⟨gb166, 2, none⟩ = some (.int .i64 a1_2) := bc BK166 2
            have hcz56_3 : wc.cell? ⟨gb166, 3, none⟩ = some (.int .i64 a1_3) := bc BK166 3
            have hfz56_0 := blk_frozen BK166.out 0
            have hfz56_1 := blk_frozen BK166.out 1
            have hfz56_2 := blk_frozen BK166.out 2
            have hfz56_3 := blk_frozen BK166.out 3
            have hnb57 := NB168_165.out
            have hnc57 := NB165_168.out
            have hnb58 := NB168_167.out
            have hnc58 := NB167_168.out
            have hcz59_0 : wc.cell? ⟨gb168, 0, none⟩ = some (.bool true) := bc BK168 0
            have hcz59_1 : wc.cell? ⟨gb168, 1, none⟩ = some (.bool a0_1) := bc BK168 1
            have hcz59_2 : wc.cell? ⟨gb168, 2, none⟩ = some (.int .i64 x169002_2) := bc BK168 2
            have hcz59_3 : wc.cell? ⟨gb168, 3, none⟩ = some (.int .i64 a0_3) := bc BK168 3
            have hfz59_0 := blk_frozen BK168.out 0
            have hfz59_1 := blk_frozen BK168.out 1
            have hfz59_2 := blk_frozen BK168.out 2
            have hfz59_3 := blk_frozen BK168.out 3
            have p170 : 0 ≤ (x8_2 : Int) := of_decide_eq_true (by first | (with_reducible assumption) | assumption)
            have q170 : x8_2 < (l2.length : Int) := of_decide_eq_true (by first | (with_reducible assumption) | assumption)
            obtain ⟨ad170, e170, hx170_0⟩ := Kd.at_int HR2.out x8_2 p170 q170
            obtain rfl : ad169 = ad170 := (by injection e170)
            have hn170_0 : ad169.block ≠ gb168 := Nat.ne_of_lt (Nat.lt_of_lt_of_le (by have := World.block_lt_of_cell? _ _ hx170_0; first | rwa [add_block] at this | exact this) GW168.out)
            replace hx170_0 := (HB.out.cell (World.block_lt_of_cell? w _ hx170_0)).trans hx170_0
            replace hx170_0 := (cell_far (p := ⟨gb168, 0, none⟩) (by first | (rw [add_block]; exact hn170_0) | (show (Addr.add _ _).block ≠ _; rw [add_block]; exact hn170_0) | exact hn170_0) (.bool false)).trans hx170_0
            (try have hy170_0 := fun (n_ : Nat) => (show (((wc.drewN n_).setCell ⟨gb168, 0, none⟩ (.bool false))).cell? _ = some _ from hx170_0))
            clear hn170_0
            replace p170 := eq_true p170
            replace q170 := eq_true q170
            go_wp2
            repeat (go_quiet (fail); try go_wp2)
            go_roundg kj41
            case measure => have := HJ3.out; have := HK2.out; have := HJ41.out; omega
            case rel => exact ⟨(wrap64 (x8_2 + 1)), (false), (rd l2 x8_2), pr, H', ⟨by have := HJ3.out; have := HK2.out; have := HJ41.out; omega⟩, ⟨by (with_reducible repeat (first | refine blk_drewN ?_ _ | refine blk_drew ?_ | refine blk_alloc ?_ _)); refine blk_far ?_ NB165_168.out _; (with_reducible repeat (first | refine blk_drewN ?_ _ | refine blk_drew ?_ | refine blk_alloc ?_ _)); refine blk_far ?_ NB165_168.out _; (with_reducible repeat (first | refine blk_drewN ?_ _ | refine blk_drew ?_ | refine blk_alloc ?_ _)); exact BK165.out⟩, ⟨by (with_reducible repeat (first | refine blk_drewN ?_ _ | refine blk_drew ?_ | refine blk_alloc ?_ _)); refine blk_far ?_ NB166_168.out _; (with_reducible repeat (first | refine blk_drewN ?_ _ | refine blk_drew ?_ | refine blk_alloc ?_ _)); refine blk_far ?_ NB166_168.out _; (with_reducible repeat (first | refine blk_drewN ?_ _ | refine blk_drew ?_ | refine blk_alloc ?_ _)); exact BK166.out⟩, ⟨by (with_reducible repeat (first | refine blk_drewN ?_ _ | refine blk_drew ?_ | refine blk_alloc ?_ _)); refine blk_far ?_ NB167_168.out _; (with_reducible repeat (first | refine blk_drewN ?_ _ | refine blk_drew ?_ | refine blk_alloc ?_ _)); refine blk_far ?_ NB167_168.out _; (with_reducible repeat (first | refine blk_drewN ?_ _ | refine blk_drew ?_ | refine blk_alloc ?_ _)); exact BK167.out⟩, ⟨by (with_reducible repeat (first | refine blk_drewN ?_ _ | refine blk_drew ?_ | refine blk_alloc ?_ _)); refine blk_put (cs := #[.bool false, .bool a0_1, .int .i64 x169002_2, .int .i64 a0_3]) ?_ 2 _ rfl; (with_reducible repeat (first | refine blk_drewN ?_ _ | refine blk_drew ?_ | refine blk_alloc ?_ _)); refine blk_put (cs := #[.bool true, .bool a0_1, .int .i64 x169002_2, .int .i64 a0_3]) ?_ 0 _ rfl; (with_reducible repeat (first | refine blk_drewN ?_ _ | refine blk_drew ?_ | refine blk_alloc ?_ _)); exact BK168.out⟩, ⟨pw⟩⟩
           replace c52 := Bool.eq_false_iff.mpr c52
           subst c52
           have H1 : (if (rd l2 x8_2) > x169002_2 then (R2_WidenedOf.l0 kj41 l2 (wrap64 (x8_2 + 1)) a0_0 a0_1 a0_2 a0_3 a1_0 a1_1 a1_2 a1_3 false a0_1 (rd l2 x8_2) a0_3) else (R2_WidenedOf.l0 kj41 l2 (wrap64 (x8_2 + 1)) a0_0 a0_1 a0_2 a0_3 a1_0 a1_1 a1_2 a1_3 false a0_1 x169002_2 a0_3)) = some (r1, r2, r3, r4) := by rw [if_neg (show ¬ (false = true) by decide)] at H; exact H
           clear H
           have H := H1
           clear H1
           by_cases c60 : (rd l2 x8_2) > x169002_2
           ·rw [if_pos c60] at H
            have c60b0 : decide (x169002_2 < (rd l2 x8_2)) = true := decide_eq_true c60
            clear c60
            have H' := am H
            clear H
            have p169 : 0 ≤ (x8_2 : Int) := of_decide_eq_true (by first | (with_reducible assumption) | assumption)
            have q169 : x8_2 < (l2.length : Int) := of_decide_eq_true (by first | (with_reducible assumption) | assumption)
            obtain ⟨ad169, e169, hx169_0⟩ := Kd.at_int HR2.out x8_2 p169 q169
            cases e169
            replace hx169_0 := (HB.out.cell (World.block_lt_of_cell? w _ hx169_0)).trans hx169_0
            replace p169 := eq_true p169
            replace q169 := eq_true q169
            have hnb61 := NB166_165.out
            have hnc61 := NB165_166.out
            have hnb62 := NB166_167.out
            have hnc62 := NB167_166.out
            have hnb63 := NB166_168.out
            have hnc63 := NB168_166.out
            have hcz64_0 : wc.cell? ⟨gb166, 0, none⟩ = some (.bool a1_0) := bc BK166 0
            have hcz64_1 : wc.cell? ⟨gb166, 1, none⟩ = some (.bool a1_1) := bc BK166 1
            have hcz64_2 : wc.cell? ⟨gb166, 2, none⟩ = some (.int .i64 a1_2) := bc BK166 2
            have hcz64_3 : wc.cell? ⟨gb166, 3, none⟩ = some (.int .i64 a1_3) := bc BK166 3
            have hfz64_0 := blk_frozen BK166.out 0
            have hfz64_1 := blk_frozen BK166.out 1
            have hfz64_2 := blk_frozen BK166.out 2
            have hfz64_3 := blk_frozen BK166.out 3
            have hnb65 := NB168_165.out
            have hnc65 := NB165_168.out
            have hnb66 := NB168_167.out
            have hnc66 := NB167_168.out
            have hcz67_0 : wc.cell? ⟨gb168, 0, none⟩ = some (.bool false) := bc BK168 0
            have hcz67_1 : wc.cell? ⟨gb168, 1, none⟩ = some (.bool a0_1) := bc BK168 1
            have hcz67_2 : wc.cell? ⟨gb168, 2, none⟩ = some (.int .i64 x169002_2) := bc BK168 2
            have hcz67_3 : wc.cell? ⟨gb168, 3, none⟩ = some (.int .i64 a0_3) := bc BK168 3
            have hfz67_0 := blk_frozen BK168.out 0
            have hfz67_1 := blk_frozen BK168.out 1
            have hfz67_2 := blk_frozen BK168.out 2
            have hfz67_3 := blk_frozen BK168.out 3
            have p171 : 0 ≤ (x8_2 : Int) := of_decide_eq_true (by first | (with_reducible assumption) | assumption)
            have q171 : x8_2 < (l2.length : Int) := of_decide_eq_true (by first | (with_reducible assumption) | assumption)
            obtain ⟨ad171, e171, hx171_0⟩ := Kd.at_int HR2.out x8_2 p171 q171
            obtain rfl : ad169 = ad171 := (by injection e171)
            replace hx171_0 := (HB.out.cell (World.block_lt_of_cell? w _ hx171_0)).trans hx171_0
            replace p171 := eq_true p171
            replace q171 := eq_true q171
            have p172 : 0 ≤ (x8_2 : Int) := of_decide_eq_true (by first | (with_reducible assumption) | assumption)
            have q172 : x8_2 < (l2.length : Int) := of_decide_eq_true (by first | (with_reducible assumption) | assumption)
            obtain ⟨ad172, e172, hx172_0⟩ := Kd.at_int HR2.out x8_2 p172 q172
            obtain rfl : ad169 = ad172 := (by injection e172)
            have hn172_0 : ad169.block ≠ gb168 := Nat.ne_of_lt (Nat.lt_of_lt_of_le (by have := World.block_lt_of_cell? _ _ hx172_0; first | rwa [add_block] at this | exact this) GW168.out)
            replace hx172_0 := (HB.out.cell (World.block_lt_of_cell? w _ hx172_0)).trans hx172_0
            replace hx172_0 := (cell_far (p := ⟨gb168, 0, none⟩) (by first | (rw [add_block]; exact hn172_0) | (show (Addr.add _ _).block ≠ _; rw [add_block]; exact hn172_0) | exact hn172_0) (.bool false)).trans hx172_0
            (try have hy172_0 := fun (n_ : Nat) => (show (((wc.drewN n_).setCell ⟨gb168, 0, none⟩ (.bool false))).cell? _ = some _ from hx172_0))
            clear hn172_0
            replace p172 := eq_true p172
            replace q172 := eq_true q172
            go_wp2
            repeat (go_quiet (fail); try go_wp2)
            go_roundg kj41
            case measure => have := HJ3.out; have := HK2.out; have := HJ41.out; omega
            case rel => exact ⟨(wrap64 (x8_2 + 1)), (false), (rd l2 x8_2), pr, H', ⟨by have := HJ3.out; have := HK2.out; have := HJ41.out; omega⟩, ⟨by (with_reducible repeat (first | refine blk_drewN ?_ _ | refine blk_drew ?_ | refine blk_alloc ?_ _)); refine blk_far ?_ NB165_168.out _; (with_reducible repeat (first | refine blk_drewN ?_ _ | refine blk_drew ?_ | refine blk_alloc ?_ _)); refine blk_far ?_ NB165_168.out _; (with_reducible repeat (first | refine blk_drewN ?_ _ | refine blk_drew ?_ | refine blk_alloc ?_ _)); exact BK165.out⟩, ⟨by (with_reducible repeat (first | refine blk_drewN ?_ _ | refine blk_drew ?_ | refine blk_alloc ?_ _)); refine blk_far ?_ NB166_168.out _; (with_reducible repeat (first | refine blk_drewN ?_ _ | refine blk_drew ?_ | refine blk_alloc ?_ _)); refine blk_far ?_ NB166_168.out _; (with_reducible repeat (first | refine blk_drewN ?_ _ | refine blk_drew ?_ | refine blk_alloc ?_ _)); exact BK166.out⟩, ⟨by (with_reducible repeat (first | refine blk_drewN ?_ _ | refine blk_drew ?_ | refine blk_alloc ?_ _)); refine blk_far ?_ NB167_168.out _; (with_reducible repeat (first | refine blk_drewN ?_ _ | refine blk_drew ?_ | refine blk_alloc ?_ _)); refine blk_far ?_ NB167_168.out _; (with_reducible repeat (first | refine blk_drewN ?_ _ | refine blk_drew ?_ | refine blk_alloc ?_ _)); exact BK167.out⟩, ⟨by (with_reducible repeat (first | refine blk_drewN ?_ _ | refine blk_drew ?_ | refine blk_alloc ?_ _)); refine blk_put (cs := #[.bool false, .bool a0_1, .int .i64 x169002_2, .int .i64 a0_3]) ?_ 2 _ rfl; (with_reducible repeat (first | refine blk_drewN ?_ _ | refine blk_drew ?_ | refine blk_alloc ?_ _)); refine blk_put (cs := #[.bool false, .bool a0_1, .int .i64 x169002_2, .int .i64 a0_3]) ?_ 0 _ rfl; (with_reducible repeat (first | refine blk_drewN ?_ _ | refine blk_drew ?_ | refine blk_alloc ?_ _)); exact BK168.out⟩, ⟨pw⟩⟩
           rw [if_neg c60] at H
           have c60b0 : decide (x169002_2 < (rd l2 x8_2)) = false := decide_eq_false c60
           clear c60
           have H' := am H
           clear H
           have p169 : 0 ≤ (x8_2 : Int) := of_decide_eq_true (by first | (with_reducible assumption) | assumption)
           have q169 : x8_2 < (l2.length : Int) := of_decide_eq_true (by first | (with_reducible assumption) | assumption)
           obtain ⟨ad169, e169, hx169_0⟩ := Kd.at_int HR2.out x8_2 p169 q169
           cases e169
           replace hx169_0 := (HB.out.cell (World.block_lt_of_cell? w _ hx169_0)).trans hx169_0
           replace p169 := eq_true p169
           replace q169 := eq_true q169
           have hnb68 := NB166_165.out
           have hnc68 := NB165_166.out
           have hnb69 := NB166_167.out
           have hnc69 := NB167_166.out
           have hnb70 := NB166_168.out
           have hnc70 := NB168_166.out
           have hcz71_0 : wc.cell? ⟨gb166, 0, none⟩ = some (.bool a1_0) := bc BK166 0
           have hcz71_1 : wc.cell? ⟨gb166, 1, none⟩ = some (.bool a1_1) := bc BK166 1
           have hcz71_2 : wc.cell? ⟨gb166, 2, none⟩ = some (.int .i64 a1_2) := bc BK166 2
           have hcz71_3 : wc.cell? ⟨gb166, 3, none⟩ = some (.int .i64 a1_3) := bc BK166 3
           have hfz71_0 := blk_frozen BK166.out 0
           have hfz71_1 := blk_frozen BK166.out 1
           have hfz71_2 := blk_frozen BK166.out 2
           have hfz71_3 := blk_frozen BK166.out 3
           have hnb72 := NB168_165.out
           have hnc72 := NB165_168.out
           have hnb73 := NB168_167.out
           have hnc73 := NB167_168.out
           have hcz74_0 : wc.cell? ⟨gb168, 0, none⟩ = some (.bool false) := bc BK168 0
           have hcz74_1 : wc.cell? ⟨gb168, 1, none⟩ = some (.bool a0_1) := bc BK168 1
           have hcz74_2 : wc.cell? ⟨gb168, 2, none⟩ = some (.int .i64 x169002_2) := bc BK168 2
           have hcz74_3 : wc.cell? ⟨gb168, 3, none⟩ = some (.int .i64 a0_3) := bc BK168 3
           have hfz74_0 := blk_frozen BK168.out 0
           have hfz74_1 := blk_frozen BK168.out 1
           have hfz74_2 := blk_frozen BK168.out 2
           have hfz74_3 := blk_frozen BK168.out 3
           have p171 : 0 ≤ (x8_2 : Int) := of_decide_eq_true (by first | (with_reducible assumption) | assumption)
           have q171 : x8_2 < (l2.length : Int) := of_decide_eq_true (by first | (with_reducible assumption) | assumption)
           obtain ⟨ad171, e171, hx171_0⟩ := Kd.at_int HR2.out x8_2 p171 q171
           obtain rfl : ad169 = ad171 := (by injection e171)
           replace hx171_0 := (HB.out.cell (World.block_lt_of_cell? w _ hx171_0)).trans hx171_0
           replace p171 := eq_true p171
           replace q171 := eq_true q171
           go_wp2
           repeat (go_quiet (fail); try go_wp2)
           go_roundg kj41
           case measure => have := HJ3.out; have := HK2.out; have := HJ41.out; omega
           case rel => exact ⟨(wrap64 (x8_2 + 1)), (false), (x169002_2), pr, H', ⟨by have := HJ3.out; have := HK2.out; have := HJ41.out; omega⟩, ⟨pk⟩, ⟨pk⟩, ⟨pk⟩, ⟨pk⟩, ⟨pw⟩⟩
          rw [if_neg c51] at H
          have c51b0 : decide ((rd l2 x8_2) ≤ a1_2) = false := decide_eq_false c51
          clear c51
          have H' := am H
          clear H
          have p169 : 0 ≤ (x8_2 : Int) := of_decide_eq_true (by first | (with_reducible assumption) | assumption)
          have q169 : x8_2 < (l2.length : Int) := of_decide_eq_true (by first | (with_reducible assumption) | assumption)
          obtain ⟨ad169, e169, hx169_0⟩ := Kd.at_int HR2.out x8_2 p169 q169
          cases e169
          replace hx169_0 := (HB.out.cell (World.block_lt_of_cell? w _ hx169_0)).trans hx169_0
          replace p169 := eq_true p169
          replace q169 := eq_true q169
          have hnb75 := NB166_165.out
          have hnc75 := NB165_166.out
          have hnb76 := NB166_167.out
          have hnc76 := NB167_166.out
          have hnb77 := NB166_168.out
          have hnc77 := NB168_166.out
          have hcz78_0 : wc.cell? ⟨gb166, 0, none⟩ = some (.bool a1_0) := bc BK166 0
          have hcz78_1 : wc.cell? ⟨gb166, 1, none⟩ = some (.bool a1_1) := bc BK166 1
          have hcz78_2 : wc.cell? ⟨gb166, 2, none⟩ = some (.int .i64 a1_2) := bc BK166 2
          have hcz78_3 : wc.cell? ⟨gb166, 3, none⟩ = some (.int .i64 a1_3) := bc BK166 3
          have hfz78_0 := blk_frozen BK166.out 0
          have hfz78_1 := blk_frozen BK166.out 1
          have hfz78_2 := blk_frozen BK166.out 2
          have hfz78_3 := blk_frozen BK166.out 3
          go_wp2
          repeat (go_quiet (fail); try go_wp2)
          go_roundg kj41
          case measure => have := HJ3.out; have := HK2.out; have := HJ41.out; omega
          case rel => exact ⟨(wrap64 (x8_2 + 1)), (x169000_2), (x169002_2), pr, H', ⟨by have := HJ3.out; have := HK2.out; have := HJ41.out; omega⟩, ⟨pk⟩, ⟨pk⟩, ⟨pk⟩, ⟨pk⟩, ⟨pw⟩⟩
         rw [if_neg c50] at H
         exact absurd H (by simp)
        rw [if_neg c49] at H
        exact absurd H (by simp)
       replace c48 := Bool.eq_false_iff.mpr c48
       subst c48
       have H1 : (R2_WidenedOf.j3 kj41 l2 a0_0 a0_1 a0_2 a0_3 a1_0 a1_1 a1_2 a1_3 x169000_2 a0_1 x169002_2 a0_3) = some (r1, r2, r3, r4) := by rw [if_neg (show ¬ (false = true) by decide)] at H; exact H
       clear H
       have H := H1
       clear H1
       have H' := am H
       clear H
       go_wp2
       repeat (go_quiet (fail); try go_wp2)
       go_meet
       case rel => exact ⟨_, (x169000_2), (x169002_2), H', ⟨by have := HJ3.out; have := HK2.out; have := HJ41.out; first | omega | exact Nat.le_refl _⟩, ⟨pk⟩, ⟨pk⟩, ⟨pk⟩, ⟨pk⟩, ⟨pw⟩⟩
   replace c37 := Bool.eq_false_iff.mpr c37
   subst c37
   have H1 : (R2_WidenedOf.j3 kj3 l2 a0_0 a0_1 a0_2 a0_3 a1_0 a1_1 a1_2 a1_3 a0_0 a0_1 a0_2 a0_3) = some (r1, r2, r3, r4) := by rw [if_neg (show ¬ (false = true) by decide)] at H; exact H
   clear H
   have H := H1
   clear H1
   have H' := am H
   clear H
   go_wp2
   repeat (go_quiet (fail); try go_wp2)
   go_meet
   case rel => exact ⟨_, (a0_0), (a0_2), H', ⟨by have := HJ3.out; first | omega | exact Nat.le_refl _⟩, ⟨pk⟩, ⟨pk⟩, ⟨pk⟩, ⟨pk⟩, ⟨pw⟩⟩
  clear HC36
  try clear c1
  try clear p1
  try clear q1
  try clear hx1
  try clear c2
  try clear p2
  try clear c3
  try clear c4
  try clear c5
  try clear c6
  try clear p6
  try clear c7
  try clear c8
  try clear c9
  try clear c12
  try clear c13
  try clear c14
  try clear c16
  try clear p16
  try clear q16
  try clear hx16
  try clear c17
  try clear p17
  try clear q17
  try clear hx17
  try clear c18
  try clear c19
  try clear c21
  try clear c22
  try clear c23
  try clear c24
  try clear c26
  try clear c27
  try clear c29
  try clear c30
  try clear c31
  try clear c33
  try clear c34
  try clear c37
  try clear c38
  try clear c39
  try clear c40
  try clear c43
  try clear c43b0
  try clear c44
  try clear c45
  try clear c46
  try clear c48
  try clear c49
  try clear c49b0
  try clear c50
  try clear c50b0
  try clear c51
  try clear c51b0
  try clear c52
  try clear c53
  try clear c54
  try clear c55
  try clear c57
  try clear c58
  try clear c60
  try clear c60b0
  try clear c61
  try clear c62
  try clear c63
  try clear p64
  try clear c65
  try clear c66
  try clear c68
  try clear c69
  try clear c70
  try clear c72
  try clear c73
  try clear c75
  try clear c76
  try clear c77
  try clear hcz10_0
  try clear hcz10_1
  try clear hcz10_2
  try clear hcz10_3
  try clear hcz15_0
  try clear hcz15_1
  try clear hcz15_2
  try clear hcz15_3
  try clear hcz20_0
  try clear hcz20_1
  try clear hcz20_2
  try clear hcz20_3
  try clear hcz25_0
  try clear hcz25_1
  try clear hcz25_2
  try clear hcz25_3
  try clear hcz28_0
  try clear hcz28_1
  try clear hcz28_2
  try clear hcz28_3
  try clear hcz32_0
  try clear hcz32_1
  try clear hcz32_2
  try clear hcz32_3
  try clear hcz35_0
  try clear hcz35_1
  try clear hcz35_2
  try clear hcz35_3
  try clear hcz41_0
  try clear hcz41_1
  try clear hcz41_2
  try clear hcz41_3
  try clear hcz47_0
  try clear hcz47_1
  try clear hcz47_2
  try clear hcz47_3
  try clear hcz56_0
  try clear hcz56_1
  try clear hcz56_2
  try clear hcz56_3
  try clear hcz59_0
  try clear hcz59_1
  try clear hcz59_2
  try clear hcz59_3
  try clear hcz64_0
  try clear hcz64_1
  try clear hcz64_2
  try clear hcz64_3
  try clear hcz67_0
  try clear hcz67_1
  try clear hcz67_2
  try clear hcz67_3
  try clear hcz71_0
  try clear hcz71_1
  try clear hcz71_2
  try clear hcz71_3
  try clear hcz74_0
  try clear hcz74_1
  try clear hcz74_2
  try clear hcz74_3
  try clear hcz78_0
  try clear hcz78_1
  try clear hcz78_2
  try clear hcz78_3
  try clear hfz10_0
  try clear hfz10_1
  try clear hfz10_2
  try clear hfz10_3
  try clear hfz15_0
  try clear hfz15_1
  try clear hfz15_2
  try clear hfz15_3
  try clear hfz20_0
  try clear hfz20_1
  try clear hfz20_2
  try clear hfz20_3
  try clear hfz25_0
  try clear hfz25_1
  try clear hfz25_2
  try clear hfz25_3
  try clear hfz28_0
  try clear hfz28_1
  try clear hfz28_2
  try clear hfz28_3
  try clear hfz32_0
  try clear hfz32_1
  try clear hfz32_2
  try clear hfz32_3
  try clear hfz35_0
  try clear hfz35_1
  try clear hfz35_2
  try clear hfz35_3
  try clear hfz41_0
  try clear hfz41_1
  try clear hfz41_2
  try clear hfz41_3
  try clear hfz47_0
  try clear hfz47_1
  try clear hfz47_2
  try clear hfz47_3
  try clear hfz56_0
  try clear hfz56_1
  try clear hfz56_2
  try clear hfz56_3
  try clear hfz59_0
  try clear hfz59_1
  try clear hfz59_2
  try clear hfz59_3
  try clear hfz64_0
  try clear hfz64_1
  try clear hfz64_2
  try clear hfz64_3
  try clear hfz67_0
  try clear hfz67_1
  try clear hfz67_2
  try clear hfz67_3
  try clear hfz71_0
  try clear hfz71_1
  try clear hfz71_2
  try clear hfz71_3
  try clear hfz74_0
  try clear hfz74_1
  try clear hfz74_2
  try clear hfz74_3
  try clear hfz78_0
  try clear hfz78_1
  try clear hfz78_2
  try clear hfz78_3
  try clear hx169_0
  try clear hx170_0
  try clear hx171_0
  try clear hx172_0
  try clear p169
  try clear p170
  try clear p171
  try clear p172
  try clear p2
  try clear q169
  try clear q170
  try clear q171
  try clear q172
  obtain ⟨kq, x169000_35, x169002_35, HA, HJ35, BK165, BK166, BK167, BK168, HB⟩ := hcut
  cases kq with
  | zero => exact absurd HA.out (by simp [R2_WidenedOf.j3])
  | succ kj35 =>
   have H := HA.out
   clear HA
   simp only [R2_WidenedOf.j3] at H
   have HC79 := am H
   clear H
   go_upto_region 11 with (fail)
   repeat (go_quiet (fail); go_upto_region 11 with (fail))
   go_cut [77] (fun v77 wc => ∃ (kq : Nat) (x77_78 : Bool), v77 = .bool x77_78 ∧ Aside0 (R2_WidenedOf.j4 kq l2 x77_78 a1_0 a1_1 a1_2 a1_3 x169000_35 a0_1 x169002_35 a0_3 = some (r1, r2, r3, r4)) ∧ Aside0 (kq ≤ kj35) ∧ Aside0 (wc.heap[gb165]? = some (.cells #[.bool a0_0, .bool a0_1, .int .i64 a0_2, .int .i64 a0_3] 23 (0, 0))) ∧ Aside0 (wc.heap[gb166]? = some (.cells #[.bool a1_0, .bool a1_1, .int .i64 a1_2, .int .i64 a1_3] 23 (0, 0))) ∧ Aside0 (wc.heap[gb167]? = some (.cells #[.bool false, .bool false, .int .i64 0, .int .i64 0] 23 (0, 0))) ∧ Aside0 (wc.heap[gb168]? = some (.cells #[.bool x169000_35, .bool a0_1, .int .i64 x169002_35, .int .i64 a0_3] 23 (0, 0))) ∧ Aside0 (Below w.heap.size w wc))
   case first =>
    have H := HC79.out
    clear HC79
    by_cases c80 : a0_1 = true
    ·subst c80
     have H1 : (R2_WidenedOf.j4 kj35 l2 false a1_0 a1_1 a1_2 a1_3 x169000_35 true x169002_35 a0_3) = some (r1, r2, r3, r4) := by rw [if_pos rfl] at H; exact H
     clear H
     have H := H1
     clear H1
     have H' := am H
     clear H
     have hnb81 := NB165_166.out
     have hnc81 := NB166_165.out
     have hnb82 := NB165_167.out
     have hnc82 := NB167_165.out
     have hnb83 := NB165_168.out
     have hnc83 := NB168_165.out
     have hcz84_0 : wc.cell? ⟨gb165, 0, none⟩ = some (.bool a0_0) := bc BK165 0
     have hcz84_1 : wc.cell? ⟨gb165, 1, none⟩ = some (.bool true) := bc BK165 1
     have hcz84_2 : wc.cell? ⟨gb165, 2, none⟩ = some (.int .i64 a0_2) := bc BK165 2
     have hcz84_3 : wc.cell? ⟨gb165, 3, none⟩ = some (.int .i64 a0_3) := bc BK165 3
     have hfz84_0 := blk_frozen BK165.out 0
     have hfz84_1 := blk_frozen BK165.out 1
     have hfz84_2 := blk_frozen BK165.out 2
     have hfz84_3 := blk_frozen BK165.out 3
     go_wp2
     repeat (go_quiet (fail); try go_wp2)
     go_meet
     case rel => exact ⟨_, (false), pr, H', ⟨by have := HJ3.out; have := HJ35.out; first | omega | exact Nat.le_refl _⟩, ⟨pk⟩, ⟨pk⟩, ⟨pk⟩, ⟨pk⟩, ⟨pw⟩⟩
    replace c80 := Bool.eq_false_iff.mpr c80
    subst c80
    have H1 : (if a1_1 = true then (R2_WidenedOf.j4 kj35 l2 true a1_0 a1_1 a1_2 a1_3 x169000_35 false x169002_35 a0_3) else (R2_WidenedOf.j4 kj35 l2 (decide (a1_3 > a0_3)) a1_0 a1_1 a1_2 a1_3 x169000_35 false x169002_35 a0_3)) = some (r1, r2, r3, r4) := by rw [if_neg (show ¬ (false = true) by decide)] at H; exact H
    clear H
    have H := H1
    clear H1
    by_cases c85 : a1_1 = true
    ·subst c85
     have H1 : (R2_WidenedOf.j4 kj35 l2 true a1_0 true a1_2 a1_3 x169000_35 false x169002_35 a0_3) = some (r1, r2, r3, r4) := by rw [if_pos rfl] at H; exact H
     clear H
     have H := H1
     clear H1
     have H' := am H
     clear H
     have hnb86 := NB165_166.out
     have hnc86 := NB166_165.out
     have hnb87 := NB165_167.out
     have hnc87 := NB167_165.out
     have hnb88 := NB165_168.out
     have hnc88 := NB168_165.out
     have hcz89_0 : wc.cell? ⟨gb165, 0, none⟩ = some (.bool a0_0) := bc BK165 0
     have hcz89_1 : wc.cell? ⟨gb165, 1, none⟩ = some (.bool false) := bc BK165 1
     have hcz89_2 : wc.cell? ⟨gb165, 2, none⟩ = some (.int .i64 a0_2) := bc BK165 2
     have hcz89_3 : wc.cell? ⟨gb165, 3, none⟩ = some (.int .i64 a0_3) := bc BK165 3
     have hfz89_0 := blk_frozen BK165.out 0
     have hfz89_1 := blk_frozen BK165.out 1
     have hfz89_2 := blk_frozen BK165.out 2
     have hfz89_3 := blk_frozen BK165.out 3
     have hnb90 := NB166_167.out
     have hnc90 := NB167_166.out
     have hnb91 := NB166_168.out
     have hnc91 := NB168_166.out
     have hcz92_0 : wc.cell? ⟨gb166, 0, none⟩ = some (.bool a1_0) := bc BK166 0
     have hcz92_1 : wc.cell? ⟨gb166, 1, none⟩ = some (.bool true) := bc BK166 1
     have hcz92_2 : wc.cell? ⟨gb166, 2, none⟩ = some (.int .i64 a1_2) := bc BK166 2
     have hcz92_3 : wc.cell? ⟨gb166, 3, none⟩ = some (.int .i64 a1_3) := bc BK166 3
     have hfz92_0 := blk_frozen BK166.out 0
     have hfz92_1 := blk_frozen BK166.out 1
     have hfz92_2 := blk_frozen BK166.out 2
     have hfz92_3 := blk_frozen BK166.out 3
     go_wp2
     repeat (go_quiet (fail); try go_wp2)
     go_meet
     case rel => exact ⟨_, (true), pr, H', ⟨by have := HJ3.out; have := HJ35.out; first | omega | exact Nat.le_refl _⟩, ⟨pk⟩, ⟨pk⟩, ⟨pk⟩, ⟨pk⟩, ⟨pw⟩⟩
    replace c85 := Bool.eq_false_iff.mpr c85
    subst c85
    have H1 : (R2_WidenedOf.j4 kj35 l2 (decide (a1_3 > a0_3)) a1_0 false a1_2 a1_3 x169000_35 false x169002_35 a0_3) = some (r1, r2, r3, r4) := by rw [if_neg (show ¬ (false = true) by decide)] at H; exact H
    clear H
    have H := H1
    clear H1
    have H' := am H
    clear H
    have hnb93 := NB165_166.out
    have hnc93 := NB166_165.out
    have hnb94 := NB165_167.out
    have hnc94 := NB167_165.out
    have hnb95 := NB165_168.out
    have hnc95 := NB168_165.out
    have hcz96_0 : wc.cell? ⟨gb165, 0, none⟩ = some (.bool a0_0) := bc BK165 0
    have hcz96_1 : wc.cell? ⟨gb165, 1, none⟩ = some (.bool false) := bc BK165 1
    have hcz96_2 : wc.cell? ⟨gb165, 2, none⟩ = some (.int .i64 a0_2) := bc BK165 2
    have hcz96_3 : wc.cell? ⟨gb165, 3, none⟩ = some (.int .i64 a0_3) := bc BK165 3
    have hfz96_0 := blk_frozen BK165.out 0
    have hfz96_1 := blk_frozen BK165.out 1
    have hfz96_2 := blk_frozen BK165.out 2
    have hfz96_3 := blk_frozen BK165.out 3
    have hnb97 := NB166_167.out
    have hnc97 := NB167_166.out
    have hnb98 := NB166_168.out
    have hnc98 := NB168_166.out
    have hcz99_0 : wc.cell? ⟨gb166, 0, none⟩ = some (.bool a1_0) := bc BK166 0
    have hcz99_1 : wc.cell? ⟨gb166, 1, none⟩ = some (.bool false) := bc BK166 1
    have hcz99_2 : wc.cell? ⟨gb166, 2, none⟩ = some (.int .i64 a1_2) := bc BK166 2
    have hcz99_3 : wc.cell? ⟨gb166, 3, none⟩ = some (.int .i64 a1_3) := bc BK166 3
    have hfz99_0 := blk_frozen BK166.out 0
    have hfz99_1 := blk_frozen BK166.out 1
    have hfz99_2 := blk_frozen BK166.out 2
    have hfz99_3 := blk_frozen BK166.out 3
    go_wp2
    repeat (go_quiet (fail); try go_wp2)
    go_meet
    case rel => exact ⟨_, (decide (a1_3 > a0_3)), pr, H', ⟨by have := HJ3.out; have := HJ35.out; first | omega | exact Nat.le_refl _⟩, ⟨pk⟩, ⟨pk⟩, ⟨pk⟩, ⟨pk⟩, ⟨pw⟩⟩
   clear HC79
   try clear c1
   try clear p1
   try clear q1
   try clear hx1
   try clear c2
   try clear p2
   try clear c3
   try clear c4
   try clear c5
   try clear c6
   try clear p6
   try clear c7
   try clear c8
   try clear c9
   try clear c12
   try clear c13
   try clear c14
   try clear c16
   try clear p16
   try clear q16
   try clear hx16
   try clear c17
   try clear p17
   try clear q17
   try clear hx17
   try clear c18
   try clear c19
   try clear c21
   try clear c22
   try clear c23
   try clear c24
   try clear c26
   try clear c27
   try clear c29
   try clear c30
   try clear c31
   try clear c33
   try clear c34
   try clear c37
   try clear c38
   try clear c39
   try clear c40
   try clear c43
   try clear c43b0
   try clear c44
   try clear c45
   try clear c46
   try clear c48
   try clear c49
   try clear c49b0
   try clear c50
   try clear c50b0
   try clear c51
   try clear c51b0
   try clear c52
   try clear c53
   try clear c54
   try clear c55
   try clear c57
   try clear c58
   try clear c60
   try clear c60b0
   try clear c61
   try clear c62
   try clear c63
   try clear p64
   try clear c65
   try clear c66
   try clear c68
   try clear c69
   try clear c70
   try clear c72
   try clear c73
   try clear c75
   try clear c76
   try clear c77
   try clear c80
   try clear c81
   try clear c82
   try clear c83
   try clear c85
   try clear c86
   try clear c87
   try clear c88
   try clear c90
   try clear c91
   try clear c93
   try clear c94
   try clear c95
   try clear c97
   try clear c98
   try clear hcz10_0
   try clear hcz10_1
   try clear hcz10_2
   try clear hcz10_3
   try clear hcz15_0
   try clear hcz15_1
   try clear hcz15_2
   try clear hcz15_3
   try clear hcz20_0
   try clear hcz20_1
   try clear hcz20_2
   try clear hcz20_3
   try clear hcz25_0
   try clear hcz25_1
   try clear hcz25_2
   try clear hcz25_3
   try clear hcz28_0
   try clear hcz28_1
   try clear hcz28_2
   try clear hcz28_3
   try clear hcz32_0
   try clear hcz32_1
   try clear hcz32_2
   try clear hcz32_3
   try clear hcz35_0
   try clear hcz35_1
   try clear hcz35_2
   try clear hcz35_3
   try clear hcz41_0
   try clear hcz41_1
   try clear hcz41_2
   try clear hcz41_3
   try clear hcz47_0
   try clear hcz47_1
   try clear hcz47_2
   try clear hcz47_3
   try clear hcz56_0
   try clear hcz56_1
   try clear hcz56_2
   try clear hcz56_3
   try clear hcz59_0
   try clear hcz59_1
   try clear hcz59_2
   try clear hcz59_3
   try clear hcz64_0
   try clear hcz64_1
   try clear hcz64_2
   try clear hcz64_3
   try clear hcz67_0
   try clear hcz67_1
   try clear hcz67_2
   try clear hcz67_3
   try clear hcz71_0
   try clear hcz71_1
   try clear hcz71_2
   try clear hcz71_3
   try clear hcz74_0
   try clear hcz74_1
   try clear hcz74_2
   try clear hcz74_3
   try clear hcz78_0
   try clear hcz78_1
   try clear hcz78_2
   try clear hcz78_3
   try clear hcz84_0
   try clear hcz84_1
   try clear hcz84_2
   try clear hcz84_3
   try clear hcz89_0
   try clear hcz89_1
   try clear hcz89_2
   try clear hcz89_3
   try clear hcz92_0
   try clear hcz92_1
   try clear hcz92_2
   try clear hcz92_3
   try clear hcz96_0
   try clear hcz96_1
   try clear hcz96_2
   try clear hcz96_3
   try clear hcz99_0
   try clear hcz99_1
   try clear hcz99_2
   try clear hcz99_3
   try clear hfz10_0
   try clear hfz10_1
   try clear hfz10_2
   try clear hfz10_3
   try clear hfz15_0
   try clear hfz15_1
   try clear hfz15_2
   try clear hfz15_3
   try clear hfz20_0
   try clear hfz20_1
   try clear hfz20_2
   try clear hfz20_3
   try clear hfz25_0
   try clear hfz25_1
   try clear hfz25_2
   try clear hfz25_3
   try clear hfz28_0
   try clear hfz28_1
   try clear hfz28_2
   try clear hfz28_3
   try clear hfz32_0
   try clear hfz32_1
   try clear hfz32_2
   try clear hfz32_3
   try clear hfz35_0
   try clear hfz35_1
   try clear hfz35_2
   try clear hfz35_3
   try clear hfz41_0
   try clear hfz41_1
   try clear hfz41_2
   try clear hfz41_3
   try clear hfz47_0
   try clear hfz47_1
   try clear hfz47_2
   try clear hfz47_3
   try clear hfz56_0
   try clear hfz56_1
   try clear hfz56_2
   try clear hfz56_3
   try clear hfz59_0
   try clear hfz59_1
   try clear hfz59_2
   try clear hfz59_3
   try clear hfz64_0
   try clear hfz64_1
   try clear hfz64_2
   try clear hfz64_3
   try clear hfz67_0
   try clear hfz67_1
   try clear hfz67_2
   try clear hfz67_3
   try clear hfz71_0
   try clear hfz71_1
   try clear hfz71_2
   try clear hfz71_3
   try clear hfz74_0
   try clear hfz74_1
   try clear hfz74_2
   try clear hfz74_3
   try clear hfz78_0
   try clear hfz78_1
   try clear hfz78_2
   try clear hfz78_3
   try clear hfz84_0
   try clear hfz84_1
   try clear hfz84_2
   try clear hfz84_3
   try clear hfz89_0
   try clear hfz89_1
   try clear hfz89_2
   try clear hfz89_3
   try clear hfz92_0
   try clear hfz92_1
   try clear hfz92_2
   try clear hfz92_3
   try clear hfz96_0
   try clear hfz96_1
   try clear hfz96_2
   try clear hfz96_3
   try clear hfz99_0
   try clear hfz99_1
   try clear hfz99_2
   try clear hfz99_3
   try clear hx169_0
   try clear hx170_0
   try clear hx171_0
   try clear hx172_0
   try clear p1
   try clear p16
   try clear p169
   try clear p17
   try clear p170
   try clear p171
   try clear p172
   try clear p2
   try clear p6
   try clear p64
   try clear q1
   try clear q16
   try clear q169
   try clear q17
   try clear q170
   try clear q171
   try clear q172
   obtain ⟨kq, x77_78, rfl, HA, HJ78, BK165, BK166, BK167, BK168, HB⟩ := hcut
   cases kq with
   | zero => exact absurd HA.out (by simp [R2_WidenedOf.j4])
   | succ kj78 =>
    have H := HA.out
    clear HA
    simp only [R2_WidenedOf.j4] at H
    by_cases c100 : x77_78 = true
    ·subst c100
     have H1 : (R2_WidenedOf.l1 kj78 l2 0 a1_0 a1_1 a1_2 a1_3 x169000_35 true x169002_35 0) = some (r1, r2, r3, r4) := by rw [if_pos rfl] at H; exact H
     clear H
     have H := H1
     clear H1
     have H' := am H
     clear H
     have hnb101 := NB168_165.out
     have hnc101 := NB165_168.out
     have hnb102 := NB168_166.out
     have hnc102 := NB166_168.out
     have hnb103 := NB168_167.out
     have hnc103 := NB167_168.out
     have hcz104_0 : wc.cell? ⟨gb168, 0, none⟩ = some (.bool x169000_35) := bc BK168 0
     have hcz104_1 : wc.cell? ⟨gb168, 1, none⟩ = some (.bool a0_1) := bc BK168 1
     have hcz104_2 : wc.cell? ⟨gb168, 2, none⟩ = some (.int .i64 x169002_35) := bc BK168 2
     have hcz104_3 : wc.cell? ⟨gb168, 3, none⟩ = some (.int .i64 a0_3) := bc BK168 3
     have hfz104_0 := blk_frozen BK168.out 0
     have hfz104_1 := blk_frozen BK168.out 1
     have hfz104_2 := blk_frozen BK168.out 2
     have hfz104_3 := blk_frozen BK168.out 3
     go_wp2
     repeat (go_quiet (fail); try go_wp2)
     go_loopg [9] kj78 (fun kq v9 w' => ∃ (x9_4 : Int) (x169001_4 : Bool) (x169003_4 : Int), v9 = .int .i64 x9_4 ∧ Aside0 (R2_WidenedOf.l1 kq l2 x9_4 a1_0 a1_1 a1_2 a1_3 x169000_35 x169001_4 x169002_35 x169003_4 = some (r1, r2, r3, r4)) ∧ Aside0 (kq ≤ kj78) ∧ Aside0 (w'.heap[gb165]? = some (.cells #[.bool a0_0, .bool a0_1, .int .i64 a0_2, .int .i64 a0_3] 23 (0, 0))) ∧ Aside0 (w'.heap[gb166]? = some (.cells #[.bool a1_0, .bool a1_1, .int .i64 a1_2, .int .i64 a1_3] 23 (0, 0))) ∧ Aside0 (w'.heap[gb167]? = some (.cells #[.bool false, .bool false, .int .i64 0, .int .i64 0] 23 (0, 0))) ∧ Aside0 (w'.heap[gb168]? = some (.cells #[.bool x169000_35, .bool x169001_4, .int .i64 x169002_35, .int .i64 x169003_4] 23 (0, 0))) ∧ Aside0 (Below w.heap.size w w'))
     case atStart => exact ⟨(0), (true), (0), pr, H', ⟨Nat.le_refl _⟩, ⟨by (with_reducible repeat (first | refine blk_drewN ?_ _ | refine blk_drew ?_ | refine blk_alloc ?_ _)); refine blk_far ?_ NB165_168.out _; (with_reducible repeat (first | refine blk_drewN ?_ _ | refine blk_drew ?_ | refine blk_alloc ?_ _)); refine blk_far ?_ NB165_168.out _; (with_reducible repeat (first | refine blk_drewN ?_ _ | refine blk_drew ?_ | refine blk_alloc ?_ _)); exact BK165.out⟩, ⟨by (with_reducible repeat (first | refine blk_drewN ?_ _ | refine blk_drew ?_ | refine blk_alloc ?_ _)); refine blk_far ?_ NB166_168.out _; (with_reducible repeat (first | refine blk_drewN ?_ _ | refine blk_drew ?_ | refine blk_alloc ?_ _)); refine blk_far ?_ NB166_168.out _; (with_reducible repeat (first | refine blk_drewN ?_ _ | refine blk_drew ?_ | refine blk_alloc ?_ _)); exact BK166.out⟩, ⟨by (with_reducible repeat (first | refine blk_drewN ?_ _ | refine blk_drew ?_ | refine blk_alloc ?_ _)); refine blk_far ?_ NB167_168.out _; (with_reducible repeat (first | refine blk_drewN ?_ _ | refine blk_drew ?_ | refine blk_alloc ?_ _)); refine blk_far ?_ NB167_168.out _; (with_reducible repeat (first | refine blk_drewN ?_ _ | refine blk_drew ?_ | refine blk_alloc ?_ _)); exact BK167.out⟩, ⟨by (with_reducible repeat (first | refine blk_drewN ?_ _ | refine blk_drew ?_ | refine blk_alloc ?_ _)); refine blk_put (cs := #[.bool x169000_35, .bool true, .int .i64 x169002_35, .int .i64 a0_3]) ?_ 3 _ rfl; (with_reducible repeat (first | refine blk_drewN ?_ _ | refine blk_drew ?_ | refine blk_alloc ?_ _)); refine blk_put (cs := #[.bool x169000_35, .bool a0_1, .int .i64 x169002_35, .int .i64 a0_3]) ?_ 1 _ rfl; (with_reducible repeat (first | refine blk_drewN ?_ _ | refine blk_drew ?_ | refine blk_alloc ?_ _)); exact BK168.out⟩, ⟨pw⟩⟩
     case round =>
      clear H'
      try clear c1
      try clear p1
      try clear q1
      try clear hx1
      try clear c2
      try clear p2
      try clear c3
      try clear c4
      try clear c5
      try clear c6
      try clear p6
      try clear c7
      try clear c8
      try clear c9
      try clear c10
      try clear c12
      try clear c13
      try clear c14
      try clear c16
      try clear p16
      try clear q16
      try clear hx16
      try clear c17
      try clear p17
      try clear q17
      try clear hx17
      try clear c18
      try clear c19
      try clear c21
      try clear c22
      try clear c23
      try clear c24
      try clear c26
      try clear c27
      try clear c29
      try clear c30
      try clear c31
      try clear c33
      try clear c34
      try clear c37
      try clear c38
      try clear c39
      try clear c40
      try clear c43
      try clear c43b0
      try clear c44
      try clear c45
      try clear c46
      try clear c48
      try clear c49
      try clear c49b0
      try clear c50
      try clear c50b0
      try clear c51
      try clear c51b0
      try clear c52
      try clear c53
      try clear c54
      try clear c55
      try clear c57
      try clear c58
      try clear c60
      try clear c60b0
      try clear c61
      try clear c62
      try clear c63
      try clear p64
      try clear c65
      try clear c66
      try clear c68
      try clear c69
      try clear c70
      try clear c72
      try clear c73
      try clear c75
      try clear c76
      try clear c77
      try clear c80
      try clear c81
      try clear c82
      try clear c83
      try clear c85
      try clear c86
      try clear c87
      try clear c88
      try clear c90
      try clear c91
      try clear c93
      try clear c94
      try clear c95
      try clear c97
      try clear c98
      try clear c100
      try clear c101
      try clear c102
      try clear c103
      try clear hcz104_0
      try clear hcz104_1
      try clear hcz104_2
      try clear hcz104_3
      try clear hcz10_0
      try clear hcz10_1
      try clear hcz10_2
      try clear hcz10_3
      try clear hcz15_0
      try clear hcz15_1
      try clear hcz15_2
      try clear hcz15_3
      try clear hcz20_0
      try clear hcz20_1
      try clear hcz20_2
      try clear hcz20_3
      try clear hcz25_0
      try clear hcz25_1
      try clear hcz25_2
      try clear hcz25_3
      try clear hcz28_0
      try clear hcz28_1
      try clear hcz28_2
      try clear hcz28_3
      try clear hcz32_0
      try clear hcz32_1
      try clear hcz32_2
      try clear hcz32_3
      try clear hcz35_0
      try clear hcz35_1
      try clear hcz35_2
      try clear hcz35_3
      try clear hcz41_0
      try clear hcz41_1
      try clear hcz41_2
      try clear hcz41_3
      try clear hcz47_0
      try clear hcz47_1
      try clear hcz47_2
      try clear hcz47_3
      try clear hcz56_0
      try clear hcz56_1
      try clear hcz56_2
      try clear hcz56_3
      try clear hcz59_0
      try clear hcz59_1
      try clear hcz59_2
      try clear hcz59_3
      try clear hcz64_0
      try clear hcz64_1
      try clear hcz64_2
      try clear hcz64_3
      try clear hcz67_0
      try clear hcz67_1
      try clear hcz67_2
      try clear hcz67_3
      try clear hcz71_0
      try clear hcz71_1
      try clear hcz71_2
      try clear hcz71_3
      try clear hcz74_0
      try clear hcz74_1
      try clear hcz74_2
      try clear hcz74_3
      try clear hcz78_0
      try clear hcz78_1
      try clear hcz78_2
      try clear hcz78_3
      try clear hcz84_0
      try clear hcz84_1
      try clear hcz84_2
      try clear hcz84_3
      try clear hcz89_0
      try clear hcz89_1
      try clear hcz89_2
      try clear hcz89_3
      try clear hcz92_0
      try clear hcz92_1
      try clear hcz92_2
      try clear hcz92_3
      try clear hcz96_0
      try clear hcz96_1
      try clear hcz96_2
      try clear hcz96_3
      try clear hcz99_0
      try clear hcz99_1
      try clear hcz99_2
      try clear hcz99_3
      try clear hfz104_0
      try clear hfz104_1
      try clear hfz104_2
      try clear hfz104_3
      try clear hfz10_0
      try clear hfz10_1
      try clear hfz10_2
      try clear hfz10_3
      try clear hfz15_0
      try clear hfz15_1
      try clear hfz15_2
      try clear hfz15_3
      try clear hfz20_0
      try clear hfz20_1
      try clear hfz20_2
      try clear hfz20_3
      try clear hfz25_0
      try clear hfz25_1
      try clear hfz25_2
      try clear hfz25_3
      try clear hfz28_0
      try clear hfz28_1
      try clear hfz28_2
      try clear hfz28_3
      try clear hfz32_0
      try clear hfz32_1
      try clear hfz32_2
      try clear hfz32_3
      try clear hfz35_0
      try clear hfz35_1
      try clear hfz35_2
      try clear hfz35_3
      try clear hfz41_0
      try clear hfz41_1
      try clear hfz41_2
      try clear hfz41_3
      try clear hfz47_0
      try clear hfz47_1
      try clear hfz47_2
      try clear hfz47_3
      try clear hfz56_0
      try clear hfz56_1
      try clear hfz56_2
      try clear hfz56_3
      try clear hfz59_0
      try clear hfz59_1
      try clear hfz59_2
      try clear hfz59_3
      try clear hfz64_0
      try clear hfz64_1
      try clear hfz64_2
      try clear hfz64_3
      try clear hfz67_0
      try clear hfz67_1
      try clear hfz67_2
      try clear hfz67_3
      try clear hfz71_0
      try clear hfz71_1
      try clear hfz71_2
      try clear hfz71_3
      try clear hfz74_0
      try clear hfz74_1
      try clear hfz74_2
      try clear hfz74_3
      try clear hfz78_0
      try clear hfz78_1
      try clear hfz78_2
      try clear hfz78_3
      try clear hfz84_0
      try clear hfz84_1
      try clear hfz84_2
      try clear hfz84_3
      try clear hfz89_0
      try clear hfz89_1
      try clear hfz89_2
      try clear hfz89_3
      try clear hfz92_0
      try clear hfz92_1
      try clear hfz92_2
      try clear hfz92_3
      try clear hfz96_0
      try clear hfz96_1
      try clear hfz96_2
      try clear hfz96_3
      try clear hfz99_0
      try clear hfz99_1
      try clear hfz99_2
      try clear hfz99_3
      try clear hx169_0
      try clear hx170_0
      try clear hx171_0
      try clear hx172_0
      try clear p1
      try clear p16
      try clear p169
      try clear p17
      try clear p170
      try clear p171
      try clear p172
      try clear p2
      try clear p6
      try clear p64
      try clear q1
      try clear q16
      try clear q169
      try clear q17
      try clear q170
      try clear q171
      try clear q172
      obtain ⟨x9_4, x169001_4, x169003_4, rfl, HA, HK4, BK165, BK166, BK167, BK168, HB⟩ := hrel
      cases gk with
      | zero => exact absurd HA.out (by simp [R2_WidenedOf.l1])
      | succ k4 =>
       have H := HA.out
       clear HA
       simp only [R2_WidenedOf.l1] at H
       have HC105 := am H
       clear H
       go_upto_region 15 with (fail)
       repeat (go_quiet (fail); go_upto_region 15 with (fail))
       go_cut [88] (fun v88 wc => ∃ (kq : Nat) (x88_104 : Bool), v88 = .bool x88_104 ∧ Aside0 (R2_WidenedOf.j6 kq l2 x9_4 x88_104 a1_0 a1_1 a1_2 a1_3 x169000_35 x169001_4 x169002_35 x169003_4 = some (r1, r2, r3, r4)) ∧ Aside0 (kq ≤ k4) ∧ Aside0 (wc.heap[gb165]? = some (.cells #[.bool a0_0, .bool a0_1, .int .i64 a0_2, .int .i64 a0_3] 23 (0, 0))) ∧ Aside0 (wc.heap[gb166]? = some (.cells #[.bool a1_0, .bool a1_1, .int .i64 a1_2, .int .i64 a1_3] 23 (0, 0))) ∧ Aside0 (wc.heap[gb167]? = some (.cells #[.bool false, .bool false, .int .i64 0, .int .i64 0] 23 (0, 0))) ∧ Aside0 (wc.heap[gb168]? = some (.cells #[.bool x169000_35, .bool x169001_4, .int .i64 x169002_35, .int .i64 x169003_4] 23 (0, 0))) ∧ Aside0 (Below w.heap.size w wc))
       case first =>
        have H := HC105.out
        clear HC105
        by_cases c106 : x9_4 < (l2.length : Int)
        ·rw [if_pos c106] at H
         have c106b0 : decide (x9_4 < (l2.length : Int)) = true := decide_eq_true c106
         clear c106
         (first | rw [c106b0] | (simp only [i64_w, i32_w]; rw [c106b0]) | skip)
         have H' := am H
         clear H
         have hnb107 := NB166_165.out
         have hnc107 := NB165_166.out
         have hnb108 := NB166_167.out
         have hnc108 := NB167_166.out
         have hnb109 := NB166_168.out
         have hnc109 := NB168_166.out
         have hcz110_0 : wr.cell? ⟨gb166, 0, none⟩ = some (.bool a1_0) := bc BK166 0
         have hcz110_1 : wr.cell? ⟨gb166, 1, none⟩ = some (.bool a1_1) := bc BK166 1
         have hcz110_2 : wr.cell? ⟨gb166, 2, none⟩ = some (.int .i64 a1_2) := bc BK166 2
         have hcz110_3 : wr.cell? ⟨gb166, 3, none⟩ = some (.int .i64 a1_3) := bc BK166 3
         have hfz110_0 := blk_frozen BK166.out 0
         have hfz110_1 := blk_frozen BK166.out 1
         have hfz110_2 := blk_frozen BK166.out 2
         have hfz110_3 := blk_frozen BK166.out 3
         go_wp2
         repeat (go_quiet (fail); try go_wp2)
         go_meet
         case rel => exact ⟨_, (!a1_1), pr, H', ⟨by have := HJ3.out; have := HJ35.out; have := HJ78.out; have := HK4.out; first | omega | exact Nat.le_refl _⟩, ⟨pk⟩, ⟨pk⟩, ⟨pk⟩, ⟨pk⟩, ⟨pw⟩⟩
        rw [if_neg c106] at H
        have c106b0 : decide (x9_4 < (l2.length : Int)) = false := decide_eq_false c106
        clear c106
        (first | rw [c106b0] | (simp only [i64_w, i32_w]; rw [c106b0]) | skip)
        have H' := am H
        clear H
        go_wp2
        repeat (go_quiet (fail); try go_wp2)
        go_meet
        case rel => exact ⟨_, (false), pr, H', ⟨by have := HJ3.out; have := HJ35.out; have := HJ78.out; have := HK4.out; first | omega | exact Nat.le_refl _⟩, ⟨pk⟩, ⟨pk⟩, ⟨pk⟩, ⟨pk⟩, ⟨pw⟩⟩
       clear HC105
       try clear c1
       try clear p1
       try clear q1
       try clear hx1
       try clear c2
       try clear p2
       try clear c3
       try clear c4
       try clear c5
       try clear c6
       try clear p6
       try clear c7
       try clear c8
       try clear c9
       try clear c10
       try clear c12
       try clear c13
       try clear c14
       try clear c16
       try clear p16
       try clear q16
       try clear hx16
       try clear c17
       try clear p17
       try clear q17
       try clear hx17
       try clear c18
       try clear c19
       try clear c21
       try clear c22
       try clear c23
       try clear c24
       try clear c26
       try clear c27
       try clear c29
       try clear c30
       try clear c31
       try clear c33
       try clear c34
       try clear c37
       try clear c38
       try clear c39
       try clear c40
       try clear c43
       try clear c43b0
       try clear c44
       try clear c45
       try clear c46
       try clear c48
       try clear c49
       try clear c49b0
       try clear c50
       try clear c50b0
       try clear c51
       try clear c51b0
       try clear c52
       try clear c53
       try clear c54
       try clear c55
       try clear c57
       try clear c58
       try clear c60
       try clear c60b0
       try clear c61
       try clear c62
       try clear c63
       try clear p64
       try clear c65
       try clear c66
       try clear c68
       try clear c69
       try clear c70
       try clear c72
       try clear c73
       try clear c75
       try clear c76
       try clear c77
       try clear c80
       try clear c81
       try clear c82
       try clear c83
       try clear c85
       try clear c86
       try clear c87
       try clear c88
       try clear c90
       try clear c91
       try clear c93
       try clear c94
       try clear c95
       try clear c97
       try clear c98
       try clear c100
       try clear c101
       try clear c102
       try clear c103
       try clear c106
       try clear c106b0
       try clear c107
       try clear c108
       try clear c109
       try clear hcz104_0
       try clear hcz104_1
       try clear hcz104_2
       try clear hcz104_3
       try clear hcz10_0
       try clear hcz10_1
       try clear hcz10_2
       try clear hcz10_3
       try clear hcz110_0
       try clear hcz110_1
       try clear hcz110_2
       try clear hcz110_3
       try clear hcz15_0
       try clear hcz15_1
       try clear hcz15_2
       try clear hcz15_3
       try clear hcz20_0
       try clear hcz20_1
       try clear hcz20_2
       try clear hcz20_3
       try clear hcz25_0
       try clear hcz25_1
       try clear hcz25_2
       try clear hcz25_3
       try clear hcz28_0
       try clear hcz28_1
       try clear hcz28_2
       try clear hcz28_3
       try clear hcz32_0
       try clear hcz32_1
       try clear hcz32_2
       try clear hcz32_3
       try clear hcz35_0
       try clear hcz35_1
       try clear hcz35_2
       try clear hcz35_3
       try clear hcz41_0
       try clear hcz41_1
       try clear hcz41_2
       try clear hcz41_3
       try clear hcz47_0
       try clear hcz47_1
       try clear hcz47_2
       try clear hcz47_3
       try clear hcz56_0
       try clear hcz56_1
       try clear hcz56_2
       try clear hcz56_3
       try clear hcz59_0
       try clear hcz59_1
       try clear hcz59_2
       try clear hcz59_3
       try clear hcz64_0
       try clear hcz64_1
       try clear hcz64_2
       try clear hcz64_3
       try clear hcz67_0
       try clear hcz67_1
       try clear hcz67_2
       try clear hcz67_3
       try clear hcz71_0
       try clear hcz71_1
       try clear hcz71_2
       try clear hcz71_3
       try clear hcz74_0
       try clear hcz74_1
       try clear hcz74_2
       try clear hcz74_3
       try clear hcz78_0
       try clear hcz78_1
       try clear hcz78_2
       try clear hcz78_3
       try clear hcz84_0
       try clear hcz84_1
       try clear hcz84_2
       try clear hcz84_3
       try clear hcz89_0
       try clear hcz89_1
       try clear hcz89_2
       try clear hcz89_3
       try clear hcz92_0
       try clear hcz92_1
       try clear hcz92_2
       try clear hcz92_3
       try clear hcz96_0
       try clear hcz96_1
       try clear hcz96_2
       try clear hcz96_3
       try clear hcz99_0
       try clear hcz99_1
       try clear hcz99_2
       try clear hcz99_3
       try clear hfz104_0
       try clear hfz104_1
       try clear hfz104_2
       try clear hfz104_3
       try clear hfz10_0
       try clear hfz10_1
       try clear hfz10_2
       try clear hfz10_3
       try clear hfz110_0
       try clear hfz110_1
       try clear hfz110_2
       try clear hfz110_3
       try clear hfz15_0
       try clear hfz15_1
       try clear hfz15_2
       try clear hfz15_3
       try clear hfz20_0
       try clear hfz20_1
       try clear hfz20_2
       try clear hfz20_3
       try clear hfz25_0
       try clear hfz25_1
       try clear hfz25_2
       try clear hfz25_3
       try clear hfz28_0
       try clear hfz28_1
       try clear hfz28_2
       try clear hfz28_3
       try clear hfz32_0
       try clear hfz32_1
       try clear hfz32_2
       try clear hfz32_3
       try clear hfz35_0
       try clear hfz35_1
       try clear hfz35_2
       try clear hfz35_3
       try clear hfz41_0
       try clear hfz41_1
       try clear hfz41_2
       try clear hfz41_3
       try clear hfz47_0
       try clear hfz47_1
       try clear hfz47_2
       try clear hfz47_3
       try clear hfz56_0
       try clear hfz56_1
       try clear hfz56_2
       try clear hfz56_3
       try clear hfz59_0
       try clear hfz59_1
       try clear hfz59_2
       try clear hfz59_3
       try clear hfz64_0
       try clear hfz64_1
       try clear hfz64_2
       try clear hfz64_3
       try clear hfz67_0
       try clear hfz67_1
       try clear hfz67_2
       try clear hfz67_3
       try clear hfz71_0
       try clear hfz71_1
       try clear hfz71_2
       try clear hfz71_3
       try clear hfz74_0
       try clear hfz74_1
       try clear hfz74_2
       try clear hfz74_3
       try clear hfz78_0
       try clear hfz78_1
       try clear hfz78_2
       try clear hfz78_3
       try clear hfz84_0
       try clear hfz84_1
       try clear hfz84_2
       try clear hfz84_3
       try clear hfz89_0
       try clear hfz89_1
       try clear hfz89_2
       try clear hfz89_3
       try clear hfz92_0
       try clear hfz92_1
       try clear hfz92_2
       try clear hfz92_3
       try clear hfz96_0
       try clear hfz96_1
       try clear hfz96_2
       try clear hfz96_3
       try clear hfz99_0
       try clear hfz99_1
       try clear hfz99_2
       try clear hfz99_3
       try clear hx169_0
       try clear hx170_0
       try clear hx171_0
       try clear hx172_0
       try clear p1
       try clear p16
       try clear p169
       try clear p17
       try clear p170
       try clear p171
       try clear p172
       try clear p2
       try clear p6
       try clear p64
       try clear q1
       try clear q16
       try clear q169
       try clear q17
       try clear q170
       try clear q171
       try clear q172
       obtain ⟨kq, x88_104, rfl, HA, HJ104, BK165, BK166, BK167, BK168, HB⟩ := hcut
       cases kq with
       | zero => exact absurd HA.out (by simp [R2_WidenedOf.j6])
       | succ kj104 =>
        have H := HA.out
        clear HA
        simp only [R2_WidenedOf.j6] at H
        by_cases c111 : x88_104 = true
        ·subst c111
         have H1 : (if 0 ≤ x9_4 then (if x9_4 < (l2.length : Int) then (if (rd l2 x9_4) ≥ a1_3 then (if x169001_4 = true then (R2_WidenedOf.l1 kj104 l2 (wrap64 (x9_4 + 1)) a1_0 a1_1 a1_2 a1_3 x169000_35 false x169002_35 (rd l2 x9_4)) else (if (rd l2 x9_4) < x169003_4 then (R2_WidenedOf.l1 kj104 l2 (wrap64 (x9_4 + 1)) a1_0 a1_1 a1_2 a1_3 x169000_35 false x169002_35 (rd l2 x9_4)) else (R2_WidenedOf.l1 kj104 l2 (wrap64 (x9_4 + 1)) a1_0 a1_1 a1_2 a1_3 x169000_35 x169001_4 x169002_35 x169003_4))) else (R2_WidenedOf.l1 kj104 l2 (wrap64 (x9_4 + 1)) a1_0 a1_1 a1_2 a1_3 x169000_35 x169001_4 x169002_35 x169003_4)) else (none)) else (none)) = some (r1, r2, r3, r4) := by rw [if_pos rfl] at H; exact H
         clear H
         have H := H1
         clear H1
         by_cases c112 : 0 ≤ x9_4
         ·rw [if_pos c112] at H
          have c112b0 : decide (0 ≤ x9_4) = true := decide_eq_true c112
          clear c112
          by_cases c113 : x9_4 < (l2.length : Int)
          ·rw [if_pos c113] at H
           have c113b0 : decide (x9_4 < (l2.length : Int)) = true := decide_eq_true c113
           clear c113
           by_cases c114 : (rd l2 x9_4) ≥ a1_3
           ·rw [if_pos c114] at H
            have c114b0 : decide (a1_3 ≤ (rd l2 x9_4)) = true := decide_eq_true c114
            clear c114
            by_cases c115 : x169001_4 = true
            ·subst c115
             have H1 : (R2_WidenedOf.l1 kj104 l2 (wrap64 (x9_4 + 1)) a1_0 a1_1 a1_2 a1_3 x169000_35 false x169002_35 (rd l2 x9_4)) = some (r1, r2, r3, r4) := by rw [if_pos rfl] at H; exact H
             clear H
             have H := H1
             clear H1
             have H' := am H
             clear H
             have p173 : 0 ≤ (x9_4 : Int) := of_decide_eq_true (by first | (with_reducible assumption) | assumption)
             have q173 : x9_4 < (l2.length : Int) := of_decide_eq_true (by first | (with_reducible assumption) | assumption)
             obtain ⟨ad173, e173, hx173_0⟩ := Kd.at_int HR2.out x9_4 p173 q173
             cases e173
             replace hx173_0 := (HB.out.cell (World.block_lt_of_cell? w _ hx173_0)).trans hx173_0
             replace p173 := eq_true p173
             replace q173 := eq_true q173
             have hnb116 := NB166_165.out
             have hnc116 := NB165_166.out
             have hnb117 := NB166_167.out
             have hnc117 := NB167_166.out
             have hnb118 := NB166_168.out
             have hnc118 := NB168_166.out
             have hcz119_0 : wc.cell? ⟨gb166, 0, none⟩ = some (.bool a1_0) := bc BK166 0
             have hcz119_1 : wc.cell? ⟨gb166, 1, none⟩ = some (.bool a1_1) := bc BK166 1
             have hcz119_2 : wc.cell? ⟨gb166, 2, none⟩ = some (.int .i64 a1_2) := bc BK166 2
             have hcz119_3 : wc.cell? ⟨gb166, 3, none⟩ = some (.int .i64 a1_3) := bc BK166 3
             have hfz119_0 := blk_frozen BK166.out 0
             have hfz119_1 := blk_frozen BK166.out 1
             have hfz119_2 := blk_frozen BK166.out 2
             have hfz119_3 := blk_frozen BK166.out 3
             have hnb120 := NB168_165.out
             have hnc120 := NB165_168.out
             have hnb121 := NB168_167.out
             have hnc121 := NB167_168.out
             have hcz122_0 : wc.cell? ⟨gb168, 0, none⟩ = some (.bool x169000_35) := bc BK168 0
             have hcz122_1 : wc.cell? ⟨gb168, 1, none⟩ = some (.bool true) := bc BK168 1
             have hcz122_2 : wc.cell? ⟨gb168, 2, none⟩ = some (.int .i64 x169002_35) := bc BK168 2
             have hcz122_3 : wc.cell? ⟨gb168, 3, none⟩ = some (.int .i64 x169003_4) := bc BK168 3
             have hfz122_0 := blk_frozen BK168.out 0
             have hfz122_1 := blk_frozen BK168.out 1
             have hfz122_2 := blk_frozen BK168.out 2
             have hfz122_3 := blk_frozen BK168.out 3
             have p174 : 0 ≤ (x9_4 : Int) := of_decide_eq_true (by first | (with_reducible assumption) | assumption)
             have q174 : x9_4 < (l2.length : Int) := of_decide_eq_true (by first | (with_reducible assumption) | assumption)
             obtain ⟨ad174, e174, hx174_0⟩ := Kd.at_int HR2.out x9_4 p174 q174
             obtain rfl : ad173 = ad174 := (by injection e174)
             have hn174_0 : ad173.block ≠ gb168 := Nat.ne_of_lt (Nat.lt_of_lt_of_le (by have := World.block_lt_of_cell? _ _ hx174_0; first | rwa [add_block] at this | exact this) GW168.out)
             replace hx174_0 := (HB.out.cell (World.block_lt_of_cell? w _ hx174_0)).trans hx174_0
             replace hx174_0 := (cell_far (p := ⟨gb168, 1, none⟩) (by first | (rw [add_block]; exact hn174_0) | (show (Addr.add _ _).block ≠ _; rw [add_block]; exact hn174_0) | exact hn174_0) (.bool false)).trans hx174_0
             (try have hy174_0 := fun (n_ : Nat) => (show (((wc.drewN n_).setCell ⟨gb168, 1, none⟩ (.bool false))).cell? _ = some _ from hx174_0))
             clear hn174_0
             replace p174 := eq_true p174
             replace q174 := eq_true q174
             go_wp2
             repeat (go_quiet (fail); try go_wp2)
             go_roundg kj104
             case measure => have := HJ3.out; have := HJ35.out; have := HJ78.out; have := HK4.out; have := HJ104.out; omega
             case rel => exact ⟨(wrap64 (x9_4 + 1)), (false), (rd l2 x9_4), pr, H', ⟨by have := HJ3.out; have := HJ35.out; have := HJ78.out; have := HK4.out; have := HJ104.out; omega⟩, ⟨by (with_reducible repeat (first | refine blk_drewN ?_ _ | refine blk_drew ?_ | refine blk_alloc ?_ _)); refine blk_far ?_ NB165_168.out _; (with_reducible repeat (first | refine blk_drewN ?_ _ | refine blk_drew ?_ | refine blk_alloc ?_ _)); refine blk_far ?_ NB165_168.out _; (with_reducible repeat (first | refine blk_drewN ?_ _ | refine blk_drew ?_ | refine blk_alloc ?_ _)); exact BK165.out⟩, ⟨by (with_reducible repeat (first | refine blk_drewN ?_ _ | refine blk_drew ?_ | refine blk_alloc ?_ _)); refine blk_far ?_ NB166_168.out _; (with_reducible repeat (first | refine blk_drewN ?_ _ | refine blk_drew ?_ | refine blk_alloc ?_ _)); refine blk_far ?_ NB166_168.out _; (with_reducible repeat (first | refine blk_drewN ?_ _ | refine blk_drew ?_ | refine blk_alloc ?_ _)); exact BK166.out⟩, ⟨by (with_reducible repeat (first | refine blk_drewN ?_ _ | refine blk_drew ?_ | refine blk_alloc ?_ _)); refine blk_far ?_ NB167_168.out _; (with_reducible repeat (first | refine blk_drewN ?_ _ | refine blk_drew ?_ | refine blk_alloc ?_ _)); refine blk_far ?_ NB167_168.out _; (with_reducible repeat (first | refine blk_drewN ?_ _ | refine blk_drew ?_ | refine blk_alloc ?_ _)); exact BK167.out⟩, ⟨by (with_reducible repeat (first | refine blk_drewN ?_ _ | refine blk_drew ?_ | refine blk_alloc ?_ _)); refine blk_put (cs := #[.bool x169000_35, .bool false, .int .i64 x169002_35, .int .i64 x169003_4]) ?_ 3 _ rfl; (with_reducible repeat (first | refine blk_drewN ?_ _ | refine blk_drew ?_ | refine blk_alloc ?_ _)); refine blk_put (cs := #[.bool x169000_35, .bool true, .int .i64 x169002_35, .int .i64 x169003_4]) ?_ 1 _ rfl; (with_reducible repeat (first | refine blk_drewN ?_ _ | refine blk_drew ?_ | refine blk_alloc ?_ _)); exact BK168.out⟩, ⟨pw⟩⟩
            replace c115 := Bool.eq_false_iff.mpr c115
            subst c115
            have H1 : (if (rd l2 x9_4) < x169003_4 then (R2_WidenedOf.l1 kj104 l2 (wrap64 (x9_4 + 1)) a1_0 a1_1 a1_2 a1_3 x169000_35 false x169002_35 (rd l2 x9_4)) else (R2_WidenedOf.l1 kj104 l2 (wrap64 (x9_4 + 1)) a1_0 a1_1 a1_2 a1_3 x169000_35 false x169002_35 x169003_4)) = some (r1, r2, r3, r4) := by rw [if_neg (show ¬ (false = true) by decide)] at H; exact H
            clear H
            have H := H1
            clear H1
            by_cases c123 : (rd l2 x9_4) < x169003_4
            ·rw [if_pos c123] at H
             have c123b0 : decide ((rd l2 x9_4) < x169003_4) = true := decide_eq_true c123
             clear c123
             have H' := am H
             clear H
             have p173 : 0 ≤ (x9_4 : Int) := of_decide_eq_true (by first | (with_reducible assumption) | assumption)
             have q173 : x9_4 < (l2.length : Int) := of_decide_eq_true (by first | (with_reducible assumption) | assumption)
             obtain ⟨ad173, e173, hx173_0⟩ := Kd.at_int HR2.out x9_4 p173 q173
             cases e173
             replace hx173_0 := (HB.out.cell (World.block_lt_of_cell? w _ hx173_0)).trans hx173_0
             replace p173 := eq_true p173
             replace q173 := eq_true q173
             have hnb124 := NB166_165.out
             have hnc124 := NB165_166.out
             have hnb125 := NB166_167.out
             have hnc125 := NB167_166.out
             have hnb126 := NB166_168.out
             have hnc126 := NB168_166.out
             have hcz127_0 : wc.cell? ⟨gb166, 0, none⟩ = some (.bool a1_0) := bc BK166 0
             have hcz127_1 : wc.cell? ⟨gb166, 1, none⟩ = some (.bool a1_1) := bc BK166 1
             have hcz127_2 : wc.cell? ⟨gb166, 2, none⟩ = some (.int .i64 a1_2) := bc BK166 2
             have hcz127_3 : wc.cell? ⟨gb166, 3, none⟩ = some (.int .i64 a1_3) := bc BK166 3
             have hfz127_0 := blk_frozen BK166.out 0
             have hfz127_1 := blk_frozen BK166.out 1
             have hfz127_2 := blk_frozen BK166.out 2
             have hfz127_3 := blk_frozen BK166.out 3
             have hnb128 := NB168_165.out
             have hnc128 := NB165_168.out
             have hnb129 := NB168_167.out
             have hnc129 := NB167_168.out
             have hcz130_0 : wc.cell? ⟨gb168, 0, none⟩ = some (.bool x169000_35) := bc BK168 0
             have hcz130_1 : wc.cell? ⟨gb168, 1, none⟩ = some (.bool false) := bc BK168 1
             have hcz130_2 : wc.cell? ⟨gb168, 2, none⟩ = some (.int .i64 x169002_35) := bc BK168 2
             have hcz130_3 : wc.cell? ⟨gb168, 3, none⟩ = some (.int .i64 x169003_4) := bc BK168 3
             have hfz130_0 := blk_frozen BK168.out 0
             have hfz130_1 := blk_frozen BK168.out 1
             have hfz130_2 := blk_frozen BK168.out 2
             have hfz130_3 := blk_frozen BK168.out 3
             have p175 : 0 ≤ (x9_4 : Int) := of_decide_eq_true (by first | (with_reducible assumption) | assumption)
             have q175 : x9_4 < (l2.length : Int) := of_decide_eq_true (by first | (with_reducible assumption) | assumption)
             obtain ⟨ad175, e175, hx175_0⟩ := Kd.at_int HR2.out x9_4 p175 q175
             obtain rfl : ad173 = ad175 := (by injection e175)
             replace hx175_0 := (HB.out.cell (World.block_lt_of_cell? w _ hx175_0)).trans hx175_0
             replace p175 := eq_true p175
             replace q175 := eq_true q175
             have p176 : 0 ≤ (x9_4 : Int) := of_decide_eq_true (by first | (with_reducible assumption) | assumption)
             have q176 : x9_4 < (l2.length : Int) := of_decide_eq_true (by first | (with_reducible assumption) | assumption)
             obtain ⟨ad176, e176, hx176_0⟩ := Kd.at_int HR2.out x9_4 p176 q176
             obtain rfl : ad173 = ad176 := (by injection e176)
             have hn176_0 : ad173.block ≠ gb168 := Nat.ne_of_lt (Nat.lt_of_lt_of_le (by have := World.block_lt_of_cell? _ _ hx176_0; first | rwa [add_block] at this | exact this) GW168.out)
             replace hx176_0 := (HB.out.cell (World.block_lt_of_cell? w _ hx176_0)).trans hx176_0
             replace hx176_0 := (cell_far (p := ⟨gb168, 1, none⟩) (by first | (rw [add_block]; exact hn176_0) | (show (Addr.add _ _).block ≠ _; rw [add_block]; exact hn176_0) | exact hn176_0) (.bool false)).trans hx176_0
             (try have hy176_0 := fun (n_ : Nat) => (show (((wc.drewN n_).setCell ⟨gb168, 1, none⟩ (.bool false))).cell? _ = some _ from hx176_0))
             clear hn176_0
             replace p176 := eq_true p176
             replace q176 := eq_true q176
             go_wp2
             repeat (go_quiet (fail); try go_wp2)
             go_roundg kj104
             case measure => have := HJ3.out; have := HJ35.out; have := HJ78.out; have := HK4.out; have := HJ104.out; omega
             case rel => exact ⟨(wrap64 (x9_4 + 1)), (false), (rd l2 x9_4), pr, H', ⟨by have := HJ3.out; have := HJ35.out; have := HJ78.out; have := HK4.out; have := HJ104.out; omega⟩, ⟨by (with_reducible repeat (first | refine blk_drewN ?_ _ | refine blk_drew ?_ | refine blk_alloc ?_ _)); refine blk_far ?_ NB165_168.out _; (with_reducible repeat (first | refine blk_drewN ?_ _ | refine blk_drew ?_ | refine blk_alloc ?_ _)); refine blk_far ?_ NB165_168.out _; (with_reducible repeat (first | refine blk_drewN ?_ _ | refine blk_drew ?_ | refine blk_alloc ?_ _)); exact BK165.out⟩, ⟨by (with_reducible repeat (first | refine blk_drewN ?_ _ | refine blk_drew ?_ | refine blk_alloc ?_ _)); refine blk_far ?_ NB166_168.out _; (with_reducible repeat (first | refine blk_drewN ?_ _ | refine blk_drew ?_ | refine blk_alloc ?_ _)); refine blk_far ?_ NB166_168.out _; (with_reducible repeat (first | refine blk_drewN ?_ _ | refine blk_drew ?_ | refine blk_alloc ?_ _)); exact BK166.out⟩, ⟨by (with_reducible repeat (first | refine blk_drewN ?_ _ | refine blk_drew ?_ | refine blk_alloc ?_ _)); refine blk_far ?_ NB167_168.out _; (with_reducible repeat (first | refine blk_drewN ?_ _ | refine blk_drew ?_ | refine blk_alloc ?_ _)); refine blk_far ?_ NB167_168.out _; (with_reducible repeat (first | refine blk_drewN ?_ _ | refine blk_drew ?_ | refine blk_alloc ?_ _)); exact BK167.out⟩, ⟨by (with_reducible repeat (first | refine blk_drewN ?_ _ | refine blk_drew ?_ | refine blk_alloc ?_ _)); refine blk_put (cs := #[.bool x169000_35, .bool false, .int .i64 x169002_35, .int .i64 x169003_4]) ?_ 3 _ rfl; (with_reducible repeat (first | refine blk_drewN ?_ _ | refine blk_drew ?_ | refine blk_alloc ?_ _)); refine blk_put (cs := #[.bool x169000_35, .bool false, .int .i64 x169002_35, .int .i64 x169003_4]) ?_ 1 _ rfl; (with_reducible repeat (first | refine blk_drewN ?_ _ | refine blk_drew ?_ | refine blk_alloc ?_ _)); exact BK168.out⟩, ⟨pw⟩⟩
            rw [if_neg c123] at H
            have c123b0 : decide ((rd l2 x9_4) < x169003_4) = false := decide_eq_false c123
            clear c123
            have H' := am H
            clear H
            have p173 : 0 ≤ (x9_4 : Int) := of_decide_eq_true (by first | (with_reducible assumption) | assumption)
            have q173 : x9_4 < (l2.length : Int) := of_decide_eq_true (by first | (with_reducible assumption) | assumption)
            obtain ⟨ad173, e173, hx173_0⟩ := Kd.at_int HR2.out x9_4 p173 q173
            cases e173
            replace hx173_0 := (HB.out.cell (World.block_lt_of_cell? w _ hx173_0)).trans hx173_0
            replace p173 := eq_true p173
            replace q173 := eq_true q173
            have hnb131 := NB166_165.out
            have hnc131 := NB165_166.out
            have hnb132 := NB166_167.out
            have hnc132 := NB167_166.out
            have hnb133 := NB166_168.out
            have hnc133 := NB168_166.out
            have hcz134_0 : wc.cell? ⟨gb166, 0, none⟩ = some (.bool a1_0) := bc BK166 0
            have hcz134_1 : wc.cell? ⟨gb166, 1, none⟩ = some (.bool a1_1) := bc BK166 1
            have hcz134_2 : wc.cell? ⟨gb166, 2, none⟩ = some (.int .i64 a1_2) := bc BK166 2
            have hcz134_3 : wc.cell? ⟨gb166, 3, none⟩ = some (.int .i64 a1_3) := bc BK166 3
            have hfz134_0 := blk_frozen BK166.out 0
            have hfz134_1 := blk_frozen BK166.out 1
            have hfz134_2 := blk_frozen BK166.out 2
            have hfz134_3 := blk_frozen BK166.out 3
            have hnb135 := NB168_165.out
            have hnc135 := NB165_168.out
            have hnb136 := NB168_167.out
            have hnc136 := NB167_168.out
            have hcz137_0 : wc.cell? ⟨gb168, 0, none⟩ = some (.bool x169000_35) := bc BK168 0
            have hcz137_1 : wc.cell? ⟨gb168, 1, none⟩ = some (.bool false) := bc BK168 1
            have hcz137_2 : wc.cell? ⟨gb168, 2, none⟩ = some (.int .i64 x169002_35) := bc BK168 2
            have hcz137_3 : wc.cell? ⟨gb168, 3, none⟩ = some (.int .i64 x169003_4) := bc BK168 3
            have hfz137_0 := blk_frozen BK168.out 0
            have hfz137_1 := blk_frozen BK168.out 1
            have hfz137_2 := blk_frozen BK168.out 2
            have hfz137_3 := blk_frozen BK168.out 3
            have p175 : 0 ≤ (x9_4 : Int) := of_decide_eq_true (by first | (with_reducible assumption) | assumption)
            have q175 : x9_4 < (l2.length : Int) := of_decide_eq_true (by first | (with_reducible assumption) | assumption)
            obtain ⟨ad175, e175, hx175_0⟩ := Kd.at_int HR2.out x9_4 p175 q175
            obtain rfl : ad173 = ad175 := (by injection e175)
            replace hx175_0 := (HB.out.cell (World.block_lt_of_cell? w _ hx175_0)).trans hx175_0
            replace p175 := eq_true p175
            replace q175 := eq_true q175
            go_wp2
            repeat (go_quiet (fail); try go_wp2)
            go_roundg kj104
            case measure => have := HJ3.out; have := HJ35.out; have := HJ78.out; have := HK4.out; have := HJ104.out; omega
            case rel => exact ⟨(wrap64 (x9_4 + 1)), (false), (x169003_4), pr, H', ⟨by have := HJ3.out; have := HJ35.out; have := HJ78.out; have := HK4.out; have := HJ104.out; omega⟩, ⟨pk⟩, ⟨pk⟩, ⟨pk⟩, ⟨pk⟩, ⟨pw⟩⟩
           rw [if_neg c114] at H
           have c114b0 : decide (a1_3 ≤ (rd l2 x9_4)) = false := decide_eq_false c114
           clear c114
           have H' := am H
           clear H
           have p173 : 0 ≤ (x9_4 : Int) := of_decide_eq_true (by first | (with_reducible assumption) | assumption)
           have q173 : x9_4 < (l2.length : Int) := of_decide_eq_true (by first | (with_reducible assumption) | assumption)
           obtain ⟨ad173, e173, hx173_0⟩ := Kd.at_int HR2.out x9_4 p173 q173
           cases e173
           replace hx173_0 := (HB.out.cell (World.block_lt_of_cell? w _ hx173_0)).trans hx173_0
           replace p173 := eq_true p173
           replace q173 := eq_true q173
           have hnb138 := NB166_165.out
           have hnc138 := NB165_166.out
           have hnb139 := NB166_167.out
           have hnc139 := NB167_166.out
           have hnb140 := NB166_168.out
           have hnc140 := NB168_166.out
           have hcz141_0 : wc.cell? ⟨gb166, 0, none⟩ = some (.bool a1_0) := bc BK166 0
           have hcz141_1 : wc.cell? ⟨gb166, 1, none⟩ = some (.bool a1_1) := bc BK166 1
           have hcz141_2 : wc.cell? ⟨gb166, 2, none⟩ = some (.int .i64 a1_2) := bc BK166 2
           have hcz141_3 : wc.cell? ⟨gb166, 3, none⟩ = some (.int .i64 a1_3) := bc BK166 3
           have hfz141_0 := blk_frozen BK166.out 0
           have hfz141_1 := blk_frozen BK166.out 1
           have hfz141_2 := blk_frozen BK166.out 2
           have hfz141_3 := blk_frozen BK166.out 3
           go_wp2
           repeat (go_quiet (fail); try go_wp2)
           go_roundg kj104
           case measure => have := HJ3.out; have := HJ35.out; have := HJ78.out; have := HK4.out; have := HJ104.out; omega
           case rel => exact ⟨(wrap64 (x9_4 + 1)), (x169001_4), (x169003_4), pr, H', ⟨by have := HJ3.out; have := HJ35.out; have := HJ78.out; have := HK4.out; have := HJ104.out; omega⟩, ⟨pk⟩, ⟨pk⟩, ⟨pk⟩, ⟨pk⟩, ⟨pw⟩⟩
          rw [if_neg c113] at H
          exact absurd H (by simp)
         rw [if_neg c112] at H
         exact absurd H (by simp)
        replace c111 := Bool.eq_false_iff.mpr c111
        subst c111
        have H1 : (some (x169000_35, x169001_4, x169002_35, x169003_4)) = some (r1, r2, r3, r4) := by rw [if_neg (show ¬ (false = true) by decide)] at H; exact H
        clear H
        have H := H1
        clear H1
        simp only [Option.some.injEq, Prod.mk.injEq] at H
        obtain ⟨rfl, rfl, rfl, rfl⟩ := H
        have hnb142 := NB168_165.out
        have hnc142 := NB165_168.out
        have hnb143 := NB168_166.out
        have hnc143 := NB166_168.out
        have hnb144 := NB168_167.out
        have hnc144 := NB167_168.out
        have hcz145_0 : wc.cell? ⟨gb168, 0, none⟩ = some (.bool x169000_35) := bc BK168 0
        have hcz145_1 : wc.cell? ⟨gb168, 1, none⟩ = some (.bool x169001_4) := bc BK168 1
        have hcz145_2 : wc.cell? ⟨gb168, 2, none⟩ = some (.int .i64 x169002_35) := bc BK168 2
        have hcz145_3 : wc.cell? ⟨gb168, 3, none⟩ = some (.int .i64 x169003_4) := bc BK168 3
        have hfz145_0 := blk_frozen BK168.out 0
        have hfz145_1 := blk_frozen BK168.out 1
        have hfz145_2 := blk_frozen BK168.out 2
        have hfz145_3 := blk_frozen BK168.out 3
        have hnb146 := NB167_165.out
        have hnc146 := NB165_167.out
        have hnb147 := NB167_166.out
        have hnc147 := NB166_167.out
        have hcz148_0 : wc.cell? ⟨gb167, 0, none⟩ = some (.bool false) := bc BK167 0
        have hcz148_1 : wc.cell? ⟨gb167, 1, none⟩ = some (.bool false) := bc BK167 1
        have hcz148_2 : wc.cell? ⟨gb167, 2, none⟩ = some (.int .i64 0) := bc BK167 2
        have hcz148_3 : wc.cell? ⟨gb167, 3, none⟩ = some (.int .i64 0) := bc BK167 3
        have hfz148_0 := blk_frozen BK167.out 0
        have hfz148_1 := blk_frozen BK167.out 1
        have hfz148_2 := blk_frozen BK167.out 2
        have hfz148_3 := blk_frozen BK167.out 3
        go_wp2
        repeat (go_quiet (fail); try go_wp2)
        refine bodyPost_ret (results_cell_row rfl _ _ gb167 23 #[.bool x169000_35, .bool x169001_4, .int .i64 x169002_35, .int .i64 x169003_4] (0, 0) _ rfl (by (with_reducible repeat (first | refine blk_drewN ?_ _ | refine blk_drew ?_ | refine blk_alloc ?_ _)); refine blk_put (cs := #[.bool x169000_35, .bool x169001_4, .int .i64 x169002_35, .int .i64 0]) ?_ 3 _ rfl; (with_reducible repeat (first | refine blk_drewN ?_ _ | refine blk_drew ?_ | refine blk_alloc ?_ _)); refine blk_put (cs := #[.bool x169000_35, .bool x169001_4, .int .i64 0, .int .i64 0]) ?_ 2 _ rfl; (with_reducible repeat (first | refine blk_drewN ?_ _ | refine blk_drew ?_ | refine blk_alloc ?_ _)); refine blk_put (cs := #[.bool x169000_35, .bool false, .int .i64 0, .int .i64 0]) ?_ 1 _ rfl; (with_reducible repeat (first | refine blk_drewN ?_ _ | refine blk_drew ?_ | refine blk_alloc ?_ _)); refine blk_put (cs := #[.bool false, .bool false, .int .i64 0, .int .i64 0]) ?_ 0 _ rfl; (with_reducible repeat (first | refine blk_drewN ?_ _ | refine blk_drew ?_ | refine blk_alloc ?_ _)); exact BK167.out) Tryd.underlying23 rfl kk) rfl ?_
        exact ⟨pe, pw⟩
    replace c100 := Bool.eq_false_iff.mpr c100
    subst c100
    have H1 : (some (x169000_35, a0_1, x169002_35, a0_3)) = some (r1, r2, r3, r4) := by rw [if_neg (show ¬ (false = true) by decide)] at H; exact H
    clear H
    have H := H1
    clear H1
    simp only [Option.some.injEq, Prod.mk.injEq] at H
    obtain ⟨rfl, rfl, rfl, rfl⟩ := H
    have hnb149 := NB168_165.out
    have hnc149 := NB165_168.out
    have hnb150 := NB168_166.out
    have hnc150 := NB166_168.out
    have hnb151 := NB168_167.out
    have hnc151 := NB167_168.out
    have hcz152_0 : wc.cell? ⟨gb168, 0, none⟩ = some (.bool x169000_35) := bc BK168 0
    have hcz152_1 : wc.cell? ⟨gb168, 1, none⟩ = some (.bool a0_1) := bc BK168 1
    have hcz152_2 : wc.cell? ⟨gb168, 2, none⟩ = some (.int .i64 x169002_35) := bc BK168 2
    have hcz152_3 : wc.cell? ⟨gb168, 3, none⟩ = some (.int .i64 a0_3) := bc BK168 3
    have hfz152_0 := blk_frozen BK168.out 0
    have hfz152_1 := blk_frozen BK168.out 1
    have hfz152_2 := blk_frozen BK168.out 2
    have hfz152_3 := blk_frozen BK168.out 3
    have hnb153 := NB167_165.out
    have hnc153 := NB165_167.out
    have hnb154 := NB167_166.out
    have hnc154 := NB166_167.out
    have hcz155_0 : wc.cell? ⟨gb167, 0, none⟩ = some (.bool false) := bc BK167 0
    have hcz155_1 : wc.cell? ⟨gb167, 1, none⟩ = some (.bool false) := bc BK167 1
    have hcz155_2 : wc.cell? ⟨gb167, 2, none⟩ = some (.int .i64 0) := bc BK167 2
    have hcz155_3 : wc.cell? ⟨gb167, 3, none⟩ = some (.int .i64 0) := bc BK167 3
    have hfz155_0 := blk_frozen BK167.out 0
    have hfz155_1 := blk_frozen BK167.out 1
    have hfz155_2 := blk_frozen BK167.out 2
    have hfz155_3 := blk_frozen BK167.out 3
    go_wp2
    repeat (go_quiet (fail); try go_wp2)
    refine bodyPost_ret (results_cell_row rfl _ _ gb167 23 #[.bool x169000_35, .bool a0_1, .int .i64 x169002_35, .int .i64 a0_3] (0, 0) _ rfl (by (with_reducible repeat (first | refine blk_drewN ?_ _ | refine blk_drew ?_ | refine blk_alloc ?_ _)); refine blk_put (cs := #[.bool x169000_35, .bool a0_1, .int .i64 x169002_35, .int .i64 0]) ?_ 3 _ rfl; (with_reducible repeat (first | refine blk_drewN ?_ _ | refine blk_drew ?_ | refine blk_alloc ?_ _)); refine blk_put (cs := #[.bool x169000_35, .bool a0_1, .int .i64 0, .int .i64 0]) ?_ 2 _ rfl; (with_reducible repeat (first | refine blk_drewN ?_ _ | refine blk_drew ?_ | refine blk_alloc ?_ _)); refine blk_put (cs := #[.bool x169000_35, .bool false, .int .i64 0, .int .i64 0]) ?_ 1 _ rfl; (with_reducible repeat (first | refine blk_drewN ?_ _ | refine blk_drew ?_ | refine blk_alloc ?_ _)); refine blk_put (cs := #[.bool false, .bool false, .int .i64 0, .int .i64 0]) ?_ 0 _ rfl; (with_reducible repeat (first | refine blk_drewN ?_ _ | refine blk_drew ?_ | refine blk_alloc ?_ _)); exact BK167.out) Tryd.underlying23 rfl kk) rfl ?_
    exact ⟨pe, pw⟩

end Go.Proofs.YtimgfgambeffeaaDoor.J
