-- Written by wip/xprint.py (the session's program over the kit's print).
import Derived.Test.YtimgfgambeffeaaDoorEb
import Derived.Test.YtimgfgambeffeaaDoorJ0
import Derived.Test.YtimgfgambeffeaaDoorJ2
namespace Go.Proofs.YtimgfgambeffeaaDoor.J
open Go.RowKit Go.Proofs.YtimgfgambeffeaaDoorW.PrintWords Go.Proofs.YtimgfgambeffeaaDoorW.PrintLast Go.Proofs.YtimgfgambeffeaaDoorW.PrintMore Go.Proofs.Rcg
attribute [local go_sem] max2_int min2_int max_two min_two max_three min_three max_four min_four   -- for this text's walks alone
set_option linter.unusedVariables false
set_option linter.unusedSimpArgs false

/-! ### interval_Widen: function 40 -/
mutual
def interval_Widen.l0 : Nat → List Int → List Int → Int → Int → Bool → Bool → Int → Int → Bool → Bool → Int → Int → Option (Bool × Bool × Int × Int × Option Int)
 | 0, _, _, _, _, _, _, _, _, _, _, _, _ => none
 | k + 1, x2, x28, x29, x30, x147000, x147001, x147002, x147003, x148000, x148001, x148002, x148003 => if x30 < x29 then (if 0 ≤ x30 then (if x30 < (x28.length : Int) then ((interval_far.f (rd x28 x30)).bind fun t152 => (if t152 = true then (some (false, false, 0, 0, some 2)) else (interval_Widen.l0 k x2 x28 x29 (wrap64 (x30 + 1)) x147000 x147001 x147002 x147003 x148000 x148001 x148002 x148003))) else (none)) else (none)) else (if x147000 = true then (interval_Widen.j1 k x2 false x147000 x147001 x147002 x147003 x148000 x148001 x148002 x148003 x147000 x147001 x147002 x147003) else (if x148000 = true then (interval_Widen.j1 k x2 true x147000 x147001 x147002 x147003 x148000 x148001 x148002 x148003 x147000 x147001 x147002 x147003) else (interval_Widen.j1 k x2 (decide (x148002 < x147002)) x147000 x147001 x147002 x147003 x148000 x148001 x148002 x148003 x147000 x147001 x147002 x147003)))
def interval_Widen.j1 : Nat → List Int → Bool → Bool → Bool → Int → Int → Bool → Bool → Int → Int → Bool → Bool → Int → Int → Option (Bool × Bool × Int × Int × Option Int)
 | 0, _, _, _, _, _, _, _, _, _, _, _, _, _, _ => none
 | k + 1, x2, x53, x147000, x147001, x147002, x147003, x148000, x148001, x148002, x148003, x154000, x154001, x154002, x154003 => if x53 = true then (interval_Widen.l1 k x2 x2 (x2.length : Int) 0 x147000 x147001 x147002 x147003 x148000 x148001 x148002 x148003 true x154001 0 x154003) else (interval_Widen.j3 k x2 x147000 x147001 x147002 x147003 x148000 x148001 x148002 x148003 x154000 x154001 x154002 x154003)
def interval_Widen.j3 : Nat → List Int → Bool → Bool → Int → Int → Bool → Bool → Int → Int → Bool → Bool → Int → Int → Option (Bool × Bool × Int × Int × Option Int)
 | 0, _, _, _, _, _, _, _, _, _, _, _, _, _ => none
 | k + 1, x2, x147000, x147001, x147002, x147003, x148000, x148001, x148002, x148003, x154000, x154001, x154002, x154003 => if x147001 = true then (interval_Widen.j4 k x2 false x148000 x148001 x148002 x148003 x154000 x154001 x154002 x154003) else (if x148001 = true then (interval_Widen.j4 k x2 true x148000 x148001 x148002 x148003 x154000 x154001 x154002 x154003) else (interval_Widen.j4 k x2 (decide (x148003 > x147003)) x148000 x148001 x148002 x148003 x154000 x154001 x154002 x154003))
def interval_Widen.j4 : Nat → List Int → Bool → Bool → Bool → Int → Int → Bool → Bool → Int → Int → Option (Bool × Bool × Int × Int × Option Int)
 | 0, _, _, _, _, _, _, _, _, _, _ => none
 | k + 1, x2, x98, x148000, x148001, x148002, x148003, x154000, x154001, x154002, x154003 => if x98 = true then (interval_Widen.l2 k x2 (x2.length : Int) 0 x148000 x148001 x148002 x148003 x154000 true x154002 0) else (some (x154000, x154001, x154002, x154003, none))
def interval_Widen.l2 : Nat → List Int → Int → Int → Bool → Bool → Int → Int → Bool → Bool → Int → Int → Option (Bool × Bool × Int × Int × Option Int)
 | 0, _, _, _, _, _, _, _, _, _, _, _ => none
 | k + 1, x101, x102, x103, x148000, x148001, x148002, x148003, x154000, x154001, x154002, x154003 => if x103 < x102 then (if 0 ≤ x103 then (if x103 < (x101.length : Int) then (if x148001 = true then (interval_Widen.l2 k x101 x102 (wrap64 (x103 + 1)) x148000 x148001 x148002 x148003 x154000 x154001 x154002 x154003) else (if (rd x101 x103) ≥ x148003 then (if x154001 = true then (interval_Widen.l2 k x101 x102 (wrap64 (x103 + 1)) x148000 x148001 x148002 x148003 x154000 false x154002 (rd x101 x103)) else (if (rd x101 x103) < x154003 then (interval_Widen.l2 k x101 x102 (wrap64 (x103 + 1)) x148000 x148001 x148002 x148003 x154000 false x154002 (rd x101 x103)) else (interval_Widen.l2 k x101 x102 (wrap64 (x103 + 1)) x148000 x148001 x148002 x148003 x154000 x154001 x154002 x154003))) else (interval_Widen.l2 k x101 x102 (wrap64 (x103 + 1)) x148000 x148001 x148002 x148003 x154000 x154001 x154002 x154003))) else (none)) else (none)) else (some (x154000, x154001, x154002, x154003, none))
def interval_Widen.l1 : Nat → List Int → List Int → Int → Int → Bool → Bool → Int → Int → Bool → Bool → Int → Int → Bool → Bool → Int → Int → Option (Bool × Bool × Int × Int × Option Int)
 | 0, _, _, _, _, _, _, _, _, _, _, _, _, _, _, _, _ => none
 | k + 1, x2, x56, x57, x58, x147000, x147001, x147002, x147003, x148000, x148001, x148002, x148003, x154000, x154001, x154002, x154003 => if x58 < x57 then (if 0 ≤ x58 then (if x58 < (x56.length : Int) then (if x148000 = true then (interval_Widen.l1 k x2 x56 x57 (wrap64 (x58 + 1)) x147000 x147001 x147002 x147003 x148000 x148001 x148002 x148003 x154000 x154001 x154002 x154003) else (if (rd x56 x58) ≤ x148002 then (if x154000 = true then (interval_Widen.l1 k x2 x56 x57 (wrap64 (x58 + 1)) x147000 x147001 x147002 x147003 x148000 x148001 x148002 x148003 false x154001 (rd x56 x58) x154003) else (if (rd x56 x58) > x154002 then (interval_Widen.l1 k x2 x56 x57 (wrap64 (x58 + 1)) x147000 x147001 x147002 x147003 x148000 x148001 x148002 x148003 false x154001 (rd x56 x58) x154003) else (interval_Widen.l1 k x2 x56 x57 (wrap64 (x58 + 1)) x147000 x147001 x147002 x147003 x148000 x148001 x148002 x148003 x154000 x154001 x154002 x154003))) else (interval_Widen.l1 k x2 x56 x57 (wrap64 (x58 + 1)) x147000 x147001 x147002 x147003 x148000 x148001 x148002 x148003 x154000 x154001 x154002 x154003))) else (none)) else (none)) else (interval_Widen.j3 k x2 x147000 x147001 x147002 x147003 x148000 x148001 x148002 x148003 x154000 x154001 x154002 x154003)
end
def interval_Widen.f (k : Nat) (a0_0 : Bool) (a0_1 : Bool) (a0_2 : Int) (a0_3 : Int) (a1_0 : Bool) (a1_1 : Bool) (a1_2 : Int) (a1_3 : Int) (l2 : List Int) : Option (Bool × Bool × Int × Int × Option Int) := (interval_two.f k a0_0 a0_1 a0_2 a0_3 a1_0 a1_1 a1_2 a1_3).bind fun t149 => (if t149.isNone = true then (if (l2.length : Int) > 20 then (some (false, false, 0, 0, some 2)) else (interval_Widen.l0 k l2 l2 (l2.length : Int) 0 a0_0 a0_1 a0_2 a0_3 a1_0 a1_1 a1_2 a1_3)) else (some (false, false, 0, 0, some (t149.getD 0))))
theorem interval_Widen.mono_l : ∀ k, (∀ y0 y1 y2 y3 y4 y5 y6 y7 y8 y9 y10 y11, LeO (interval_Widen.l0 k y0 y1 y2 y3 y4 y5 y6 y7 y8 y9 y10 y11) (interval_Widen.l0 (k + 1) y0 y1 y2 y3 y4 y5 y6 y7 y8 y9 y10 y11)) ∧ (∀ y0 y1 y2 y3 y4 y5 y6 y7 y8 y9 y10 y11 y12 y13, LeO (interval_Widen.j1 k y0 y1 y2 y3 y4 y5 y6 y7 y8 y9 y10 y11 y12 y13) (interval_Widen.j1 (k + 1) y0 y1 y2 y3 y4 y5 y6 y7 y8 y9 y10 y11 y12 y13)) ∧ (∀ y0 y1 y2 y3 y4 y5 y6 y7 y8 y9 y10 y11 y12, LeO (interval_Widen.j3 k y0 y1 y2 y3 y4 y5 y6 y7 y8 y9 y10 y11 y12) (interval_Widen.j3 (k + 1) y0 y1 y2 y3 y4 y5 y6 y7 y8 y9 y10 y11 y12)) ∧ (∀ y0 y1 y2 y3 y4 y5 y6 y7 y8 y9, LeO (interval_Widen.j4 k y0 y1 y2 y3 y4 y5 y6 y7 y8 y9) (interval_Widen.j4 (k + 1) y0 y1 y2 y3 y4 y5 y6 y7 y8 y9)) ∧ (∀ y0 y1 y2 y3 y4 y5 y6 y7 y8 y9 y10, LeO (interval_Widen.l2 k y0 y1 y2 y3 y4 y5 y6 y7 y8 y9 y10) (interval_Widen.l2 (k + 1) y0 y1 y2 y3 y4 y5 y6 y7 y8 y9 y10)) ∧ (∀ y0 y1 y2 y3 y4 y5 y6 y7 y8 y9 y10 y11 y12 y13 y14 y15, LeO (interval_Widen.l1 k y0 y1 y2 y3 y4 y5 y6 y7 y8 y9 y10 y11 y12 y13 y14 y15) (interval_Widen.l1 (k + 1) y0 y1 y2 y3 y4 y5 y6 y7 y8 y9 y10 y11 y12 y13 y14 y15))
 | 0 => ⟨fun _ _ _ _ _ _ _ _ _ _ _ _ r h => by simp [interval_Widen.l0] at h, fun _ _ _ _ _ _ _ _ _ _ _ _ _ _ r h => by simp [interval_Widen.j1] at h, fun _ _ _ _ _ _ _ _ _ _ _ _ _ r h => by simp [interval_Widen.j3] at h, fun _ _ _ _ _ _ _ _ _ _ r h => by simp [interval_Widen.j4] at h, fun _ _ _ _ _ _ _ _ _ _ _ r h => by simp [interval_Widen.l2] at h, fun _ _ _ _ _ _ _ _ _ _ _ _ _ _ _ _ r h => by simp [interval_Widen.l1] at h⟩
 | k + 1 => by
  obtain ⟨ih0, ih1, ih2, ih3, ih4, ih5⟩ := interval_Widen.mono_l k
  refine ⟨?_, ?_, ?_, ?_, ?_, ?_⟩
  ·intro y0 y1 y2 y3 y4 y5 y6 y7 y8 y9 y10 y11
   unfold interval_Widen.l0
   repeat' first
   | (with_reducible exact ih0 _ _ _ _ _ _ _ _ _ _ _ _)
   | (with_reducible exact ih1 _ _ _ _ _ _ _ _ _ _ _ _ _ _)
   | (with_reducible exact ih2 _ _ _ _ _ _ _ _ _ _ _ _ _)
   | (with_reducible exact ih3 _ _ _ _ _ _ _ _ _ _)
   | (with_reducible exact ih4 _ _ _ _ _ _ _ _ _ _ _)
   | (with_reducible exact ih5 _ _ _ _ _ _ _ _ _ _ _ _ _ _ _ _)
   | (with_reducible exact interval_two.mono _ _ _ _ _ _ _ _ _)
   | (with_reducible exact LeO.refl _)
   | (with_reducible exact LeO.none _)
   | (with_reducible refine LeO.ite ?_ ?_)
   | (with_reducible refine LeO.bind ?_ (fun _ => ?_))
   | exact ih0 _ _ _ _ _ _ _ _ _ _ _ _
   | exact ih1 _ _ _ _ _ _ _ _ _ _ _ _ _ _
   | exact ih2 _ _ _ _ _ _ _ _ _ _ _ _ _
   | exact ih3 _ _ _ _ _ _ _ _ _ _
   | exact ih4 _ _ _ _ _ _ _ _ _ _ _
   | exact ih5 _ _ _ _ _ _ _ _ _ _ _ _ _ _ _ _
   | exact interval_two.mono _ _ _ _ _ _ _ _ _
   | exact LeO.none _
   | refine LeO.ite ?_ ?_
   | refine LeO.bind ?_ (fun _ => ?_)
  ·intro y0 y1 y2 y3 y4 y5 y6 y7 y8 y9 y10 y11 y12 y13
   unfold interval_Widen.j1
   repeat' first
   | (with_reducible exact ih0 _ _ _ _ _ _ _ _ _ _ _ _)
   | (with_reducible exact ih1 _ _ _ _ _ _ _ _ _ _ _ _ _ _)
   | (with_reducible exact ih2 _ _ _ _ _ _ _ _ _ _ _ _ _)
   | (with_reducible exact ih3 _ _ _ _ _ _ _ _ _ _)
   | (with_reducible exact ih4 _ _ _ _ _ _ _ _ _ _ _)
   | (with_reducible exact ih5 _ _ _ _ _ _ _ _ _ _ _ _ _ _ _ _)
   | (with_reducible exact interval_two.mono _ _ _ _ _ _ _ _ _)
   | (with_reducible exact LeO.refl _)
   | (with_reducible exact LeO.none _)
   | (with_reducible refine LeO.ite ?_ ?_)
   | (with_reducible refine LeO.bind ?_ (fun _ => ?_))
   | exact ih0 _ _ _ _ _ _ _ _ _ _ _ _
   | exact ih1 _ _ _ _ _ _ _ _ _ _ _ _ _ _
   | exact ih2 _ _ _ _ _ _ _ _ _ _ _ _ _
   | exact ih3 _ _ _ _ _ _ _ _ _ _
   | exact ih4 _ _ _ _ _ _ _ _ _ _ _
   | exact ih5 _ _ _ _ _ _ _ _ _ _ _ _ _ _ _ _
   | exact interval_two.mono _ _ _ _ _ _ _ _ _
   | exact LeO.none _
   | refine LeO.ite ?_ ?_
   | refine LeO.bind ?_ (fun _ => ?_)
  ·intro y0 y1 y2 y3 y4 y5 y6 y7 y8 y9 y10 y11 y12
   unfold interval_Widen.j3
   repeat' first
   | (with_reducible exact ih0 _ _ _ _ _ _ _ _ _ _ _ _)
   | (with_reducible exact ih1 _ _ _ _ _ _ _ _ _ _ _ _ _ _)
   | (with_reducible exact ih2 _ _ _ _ _ _ _ _ _ _ _ _ _)
   | (with_reducible exact ih3 _ _ _ _ _ _ _ _ _ _)
   | (with_reducible exact ih4 _ _ _ _ _ _ _ _ _ _ _)
   | (with_reducible exact ih5 _ _ _ _ _ _ _ _ _ _ _ _ _ _ _ _)
   | (with_reducible exact interval_two.mono _ _ _ _ _ _ _ _ _)
   | (with_reducible exact LeO.refl _)
   | (with_reducible exact LeO.none _)
   | (with_reducible refine LeO.ite ?_ ?_)
   | (with_reducible refine LeO.bind ?_ (fun _ => ?_))
   | exact ih0 _ _ _ _ _ _ _ _ _ _ _ _
   | exact ih1 _ _ _ _ _ _ _ _ _ _ _ _ _ _
   | exact ih2 _ _ _ _ _ _ _ _ _ _ _ _ _
   | exact ih3 _ _ _ _ _ _ _ _ _ _
   | exact ih4 _ _ _ _ _ _ _ _ _ _ _
   | exact ih5 _ _ _ _ _ _ _ _ _ _ _ _ _ _ _ _
   | exact interval_two.mono _ _ _ _ _ _ _ _ _
   | exact LeO.none _
   | refine LeO.ite ?_ ?_
   | refine LeO.bind ?_ (fun _ => ?_)
  ·intro y0 y1 y2 y3 y4 y5 y6 y7 y8 y9
   unfold interval_Widen.j4
   repeat' first
   | (with_reducible exact ih0 _ _ _ _ _ _ _ _ _ _ _ _)
   | (with_reducible exact ih1 _ _ _ _ _ _ _ _ _ _ _ _ _ _)
   | (with_reducible exact ih2 _ _ _ _ _ _ _ _ _ _ _ _ _)
   | (with_reducible exact ih3 _ _ _ _ _ _ _ _ _ _)
   | (with_reducible exact ih4 _ _ _ _ _ _ _ _ _ _ _)
   | (with_reducible exact ih5 _ _ _ _ _ _ _ _ _ _ _ _ _ _ _ _)
   | (with_reducible exact interval_two.mono _ _ _ _ _ _ _ _ _)
   | (with_reducible exact LeO.refl _)
   | (with_reducible exact LeO.none _)
   | (with_reducible refine LeO.ite ?_ ?_)
   | (with_reducible refine LeO.bind ?_ (fun _ => ?_))
   | exact ih0 _ _ _ _ _ _ _ _ _ _ _ _
   | exact ih1 _ _ _ _ _ _ _ _ _ _ _ _ _ _
   | exact ih2 _ _ _ _ _ _ _ _ _ _ _ _ _
   | exact ih3 _ _ _ _ _ _ _ _ _ _
   | exact ih4 _ _ _ _ _ _ _ _ _ _ _
   | exact ih5 _ _ _ _ _ _ _ _ _ _ _ _ _ _ _ _
   | exact interval_two.mono _ _ _ _ _ _ _ _ _
   | exact LeO.none _
   | refine LeO.ite ?_ ?_
   | refine LeO.bind ?_ (fun _ => ?_)
  ·intro y0 y1 y2 y3 y4 y5 y6 y7 y8 y9 y10
   unfold interval_Widen.l2
   repeat' first
   | (with_reducible exact ih0 _ _ _ _ _ _ _ _ _ _ _ _)
   | (with_reducible exact ih1 _ _ _ _ _ _ _ _ _ _ _ _ _ _)
   | (with_reducible exact ih2 _ _ _ _ _ _ _ _ _ _ _ _ _)
   | (with_reducible exact ih3 _ _ _ _ _ _ _ _ _ _)
   | (with_reducible exact ih4 _ _ _ _ _ _ _ _ _ _ _)
   | (with_reducible exact ih5 _ _ _ _ _ _ _ _ _ _ _ _ _ _ _ _)
   | (with_reducible exact interval_two.mono _ _ _ _ _ _ _ _ _)
   | (with_reducible exact LeO.refl _)
   | (with_reducible exact LeO.none _)
   | (with_reducible refine LeO.ite ?_ ?_)
   | (with_reducible refine LeO.bind ?_ (fun _ => ?_))
   | exact ih0 _ _ _ _ _ _ _ _ _ _ _ _
   | exact ih1 _ _ _ _ _ _ _ _ _ _ _ _ _ _
   | exact ih2 _ _ _ _ _ _ _ _ _ _ _ _ _
   | exact ih3 _ _ _ _ _ _ _ _ _ _
   | exact ih4 _ _ _ _ _ _ _ _ _ _ _
   | exact ih5 _ _ _ _ _ _ _ _ _ _ _ _ _ _ _ _
   | exact interval_two.mono _ _ _ _ _ _ _ _ _
   | exact LeO.none _
   | refine LeO.ite ?_ ?_
   | refine LeO.bind ?_ (fun _ => ?_)
  intro y0 y1 y2 y3 y4 y5 y6 y7 y8 y9 y10 y11 y12 y13 y14 y15
  unfold interval_Widen.l1
  repeat' first
  | (with_reducible exact ih0 _ _ _ _ _ _ _ _ _ _ _ _)
  | (with_reducible exact ih1 _ _ _ _ _ _ _ _ _ _ _ _ _ _)
  | (with_reducible exact ih2 _ _ _ _ _ _ _ _ _ _ _ _ _)
  | (with_reducible exact ih3 _ _ _ _ _ _ _ _ _ _)
  | (with_reducible exact ih4 _ _ _ _ _ _ _ _ _ _ _)
  | (with_reducible exact ih5 _ _ _ _ _ _ _ _ _ _ _ _ _ _ _ _)
  | (with_reducible exact interval_two.mono _ _ _ _ _ _ _ _ _)
  | (with_reducible exact LeO.refl _)
  | (with_reducible exact LeO.none _)
  | (with_reducible refine LeO.ite ?_ ?_)
  | (with_reducible refine LeO.bind ?_ (fun _ => ?_))
  | exact ih0 _ _ _ _ _ _ _ _ _ _ _ _
  | exact ih1 _ _ _ _ _ _ _ _ _ _ _ _ _ _
  | exact ih2 _ _ _ _ _ _ _ _ _ _ _ _ _
  | exact ih3 _ _ _ _ _ _ _ _ _ _
  | exact ih4 _ _ _ _ _ _ _ _ _ _ _
  | exact ih5 _ _ _ _ _ _ _ _ _ _ _ _ _ _ _ _
  | exact interval_two.mono _ _ _ _ _ _ _ _ _
  | exact LeO.none _
  | refine LeO.ite ?_ ?_
  | refine LeO.bind ?_ (fun _ => ?_)
theorem interval_Widen.mono : ∀ a0 a1 a2 a3 a4 a5 a6 a7 a8 k, LeO (interval_Widen.f k a0 a1 a2 a3 a4 a5 a6 a7 a8) (interval_Widen.f (k + 1) a0 a1 a2 a3 a4 a5 a6 a7 a8) := by
 intro a0 a1 a2 a3 a4 a5 a6 a7 a8 k
 obtain ⟨ih0, ih1, ih2, ih3, ih4, ih5⟩ := interval_Widen.mono_l k
 unfold interval_Widen.f
 repeat' first
   | (with_reducible exact ih0 _ _ _ _ _ _ _ _ _ _ _ _)
   | (with_reducible exact ih1 _ _ _ _ _ _ _ _ _ _ _ _ _ _)
   | (with_reducible exact ih2 _ _ _ _ _ _ _ _ _ _ _ _ _)
   | (with_reducible exact ih3 _ _ _ _ _ _ _ _ _ _)
   | (with_reducible exact ih4 _ _ _ _ _ _ _ _ _ _ _)
   | (with_reducible exact ih5 _ _ _ _ _ _ _ _ _ _ _ _ _ _ _ _)
   | (with_reducible exact interval_two.mono _ _ _ _ _ _ _ _ _)
   | (with_reducible exact LeO.refl _)
   | (with_reducible exact LeO.none _)
   | (with_reducible refine LeO.ite ?_ ?_)
   | (with_reducible refine LeO.bind ?_ (fun _ => ?_))
   | exact ih0 _ _ _ _ _ _ _ _ _ _ _ _
   | exact ih1 _ _ _ _ _ _ _ _ _ _ _ _ _ _
   | exact ih2 _ _ _ _ _ _ _ _ _ _ _ _ _
   | exact ih3 _ _ _ _ _ _ _ _ _ _
   | exact ih4 _ _ _ _ _ _ _ _ _ _ _
   | exact ih5 _ _ _ _ _ _ _ _ _ _ _ _ _ _ _ _
   | exact interval_two.mono _ _ _ _ _ _ _ _ _
   | exact LeO.none _
   | refine LeO.ite ?_ ?_
   | refine LeO.bind ?_ (fun _ => ?_)
set_option maxHeartbeats 8000000 in
set_option maxRecDepth 100000 in
theorem interval_Widen.calls [EA] (k : Nat) (a0_0 : Bool) (a0_1 : Bool) (a0_2 : Int) (a0_3 : Int) (a1_0 : Bool) (a1_1 : Bool) (a1_2 : Int) (a1_3 : Int) (A2 : Option Addr) (c2 : Nat) (l2 : List Int) (r1 : Bool) (r2 : Bool) (r3 : Int) (r4 : Int) (r5 : Option Int) (w : World) (hr2 : Kd.C (Kd.int .i64) w A2 l2.length l2) (hc2 : l2.length ≤ c2) (h : interval_Widen.f k a0_0 a0_1 a0_2 a0_3 a1_0 a1_1 a1_2 a1_3 l2 = some (r1, r2, r3, r4, r5)) (h2_ : ErrAt 2 1 w) (h3_ : ErrAt 3 0 w) :
  Calls Tryd.prog 40 #[.agg #[.bool a0_0, .bool a0_1, .int .i64 a0_2, .int .i64 a0_3], .agg #[.bool a1_0, .bool a1_1, .int .i64 a1_2, .int .i64 a1_3], .slice A2 l2.length c2] w fun e w' => e = .returned (.tuple #[.agg #[.bool r1, .bool r2, .int .i64 r3, .int .i64 r4], errW r5]) ∧ Below w.heap.size w w' := by
 have hE2 := am h2_
 clear h2_
 have hE3 := am h3_
 clear h3_
 have hu23 := Tryd.underlying23
 have hu28 := Tryd.underlying28
 have HR2 := am hr2
 have HC2 := am hc2
 clear hr2 hc2
 have HB := am (Below.refl w.heap.size w)
 have H : ((interval_two.f k a0_0 a0_1 a0_2 a0_3 a1_0 a1_1 a1_2 a1_3).bind fun t149 => (if t149.isNone = true then (if (l2.length : Int) > 20 then (some (false, false, 0, 0, some 2)) else (interval_Widen.l0 k l2 l2 (l2.length : Int) 0 a0_0 a0_1 a0_2 a0_3 a1_0 a1_1 a1_2 a1_3)) else (some (false, false, 0, 0, some (t149.getD 0))))) = some (r1, r2, r3, r4, r5) := h
 clear h
 replace H := Option.bind_eq_some_iff.mp H
 obtain ⟨t149, A40, H⟩ := H
 replace H : (if t149.isNone = true then (if (l2.length : Int) > 20 then (some (false, false, 0, 0, some 2)) else (interval_Widen.l0 k l2 l2 (l2.length : Int) 0 a0_0 a0_1 a0_2 a0_3 a1_0 a1_1 a1_2 a1_3)) else (some (false, false, 0, 0, some (t149.getD 0)))) = some (r1, r2, r3, r4, r5) := H
 have A4 := am A40
 clear A40
 rcases t149 with _ | q150
 ·have H1 : (if (l2.length : Int) > 20 then (some (false, false, 0, 0, some 2)) else (interval_Widen.l0 k l2 l2 (l2.length : Int) 0 a0_0 a0_1 a0_2 a0_3 a1_0 a1_1 a1_2 a1_3)) = some (r1, r2, r3, r4, r5) := by rw [if_pos (show (none : Option Int).isNone = true by rfl)] at H; exact H
  clear H
  have H := H1
  clear H1
  try simp only [errW_none, errW_some]
  by_cases c5 : (l2.length : Int) > 20
  ·rw [if_pos c5] at H
   have c5b0 : decide (20 < (l2.length : Int)) = true := decide_eq_true c5
   have c5b1 : decide (20 < l2.length) = true := decide_eq_true (by omega)
   clear c5
   simp only [Option.some.injEq, Prod.mk.injEq] at H
   obtain ⟨rfl, rfl, rfl, rfl, rfl⟩ := H
   go_enter Tryd.func40, Tryd.ntmps40
   try go_wp2_with (first | ((with_reducible refine gate_dst (N := 3) rfl ?_); refine box_event ?hg (N := 3) ?hd (cs := #[.bool a0_0, .bool a0_1, .int .i64 a0_2, .int .i64 a0_3]) (t := 23) ?hr ?_; (case hd => rfl); (case hg => rfl); (case hr => first | (go_simp; done) | (go_simp; rfl)); intro gb146 hg w6 hbox hb; have n0_ := am (below_step pw hb); have n1_ := am (hbox); have n2_ := am ((by rw [hg]; exact (below_size pw) : w.heap.size ≤ gb146)); have n3_ := am ((by rw [hg]; exact (below_size pw) : w.heap.size ≤ gb146)); clear HB; have HB := n0_; have BK146 := n1_; have GW146 := n2_; have GE146 := n3_; clear n0_ n1_ n2_ n3_; clear hb hbox hg) | ((with_reducible refine gate_dst (N := 4) rfl ?_); refine box_event ?hg (N := 4) ?hd (cs := #[.bool a1_0, .bool a1_1, .int .i64 a1_2, .int .i64 a1_3]) (t := 23) ?hr ?_; (case hd => rfl); (case hg => rfl); (case hr => first | (go_simp; done) | (go_simp; rfl)); intro gb147 hg w7 hbox hb; have n0_ := bb BK146 hb; have n1_ := am (below_step pw hb); have n2_ := am (hbox); have n3_ := am ((by rw [hg]; exact (below_size pw) : w.heap.size ≤ gb147)); have n4_ := am ((by rw [hg]; exact (below_size pw) : w.heap.size ≤ gb147)); have n5_ := am ((by rw [hg]; exact Nat.ne_of_lt (blk_lt pk) : gb146 ≠ gb147)); have n6_ := am ((by rw [hg]; exact Nat.ne_of_gt (blk_lt pk) : gb147 ≠ gb146)); clear BK146; clear HB; have BK146 := n0_; have HB := n1_; have BK147 := n2_; have GW147 := n3_; have GE147 := n4_; have NB146_147 := n5_; have NB147_146 := n6_; clear n0_ n1_ n2_ n3_ n4_ n5_ n6_; clear hb hbox hg) | ((with_reducible refine gate_dst (N := 6) rfl ?_); refine box_event ?hg (N := 6) ?hd (cs := #[.bool false, .bool false, .int .i64 0, .int .i64 0]) (t := 23) ?hr ?_; (case hd => rfl); (case hg => rfl); (case hr => first | (go_simp; done) | (go_simp; rfl)); intro gb148 hg w8 hbox hb; have n0_ := bb BK146 hb; have n1_ := bb BK147 hb; have n2_ := am (below_step pw hb); have n3_ := am (hbox); have n4_ := am ((by rw [hg]; exact (below_size pw) : w.heap.size ≤ gb148)); have n5_ := am ((by rw [hg]; exact (below_size pw) : w.heap.size ≤ gb148)); have n6_ := am ((by rw [hg]; exact Nat.ne_of_lt (blk_lt pk) : gb146 ≠ gb148)); have n7_ := am ((by rw [hg]; exact Nat.ne_of_gt (blk_lt pk) : gb148 ≠ gb146)); have n8_ := am ((by rw [hg]; exact Nat.ne_of_lt (blk_lt pk) : gb147 ≠ gb148)); have n9_ := am ((by rw [hg]; exact Nat.ne_of_gt (blk_lt pk) : gb148 ≠ gb147)); clear BK146; clear BK147; clear HB; have BK146 := n0_; have BK147 := n1_; have HB := n2_; have BK148 := n3_; have GW148 := n4_; have GE148 := n5_; have NB146_148 := n6_; have NB148_146 := n7_; have NB147_148 := n8_; have NB148_147 := n9_; clear n0_ n1_ n2_ n3_ n4_ n5_ n6_ n7_ n8_ n9_; clear hb hbox hg; have hnb9 := NB146_147.out; have hnc9 := NB147_146.out; have hnb10 := NB146_148.out; have hnc10 := NB148_146.out; have hcz11_0 : w8.cell? ⟨gb146, 0, none⟩ = some (.bool a0_0) := bc BK146 0; have hcz11_1 : w8.cell? ⟨gb146, 1, none⟩ = some (.bool a0_1) := bc BK146 1; have hcz11_2 : w8.cell? ⟨gb146, 2, none⟩ = some (.int .i64 a0_2) := bc BK146 2; have hcz11_3 : w8.cell? ⟨gb146, 3, none⟩ = some (.int .i64 a0_3) := bc BK146 3; have hfz11_0 := blk_frozen BK146.out 0; have hfz11_1 := blk_frozen BK146.out 1; have hfz11_2 := blk_frozen BK146.out 2; have hfz11_3 := blk_frozen BK146.out 3; have hnb12 := NB147_148.out; have hnc12 := NB148_147.out; have hcz13_0 : w8.cell? ⟨gb147, 0, none⟩ = some (.bool a1_0) := bc BK147 0; have hcz13_1 : w8.cell? ⟨gb147, 1, none⟩ = some (.bool a1_1) := bc BK147 1; have hcz13_2 : w8.cell? ⟨gb147, 2, none⟩ = some (.int .i64 a1_2) := bc BK147 2; have hcz13_3 : w8.cell? ⟨gb147, 3, none⟩ = some (.int .i64 a1_3) := bc BK147 3; have hfz13_0 := blk_frozen BK147.out 0; have hfz13_1 := blk_frozen BK147.out 1; have hfz13_2 := blk_frozen BK147.out 2; have hfz13_3 := blk_frozen BK147.out 3) | ((with_reducible refine gate_callee (f := 62) rfl ?_); refine goesL_ (some 18) rfl rfl Tryd.func62 kk rfl #[.agg #[.bool a0_0, .bool a0_1, .int .i64 a0_2, .int .i64 a0_3], .agg #[.bool a1_0, .bool a1_1, .int .i64 a1_2, .int .i64 a1_3]] rfl (by (try simp only [List.map_toArray, List.map_cons, List.map_nil]); first | done | rfl | (simp only [List.length_drop, List.length_take]; rfl)) ?_; (with_reducible refine (interval_two.calls k a0_0 a0_1 a0_2 a0_3 a1_0 a1_1 a1_2 a1_3 none _ A4.out (am (ErrAt.below hE2.out pw)).out (am (ErrAt.below hE3.out pw)).out).mono ?_); rintro e w14 ⟨rfl, hb⟩; refine ⟨_, rfl, ?_⟩; have n0_ := bb BK146 hb; have n1_ := bb BK147 hb; have n2_ := bb BK148 hb; have n3_ := am (below_step pw hb); clear BK146; clear BK147; clear BK148; clear HB; have BK146 := n0_; have BK147 := n1_; have BK148 := n2_; have HB := n3_; clear n0_ n1_ n2_ n3_; (try clear hb); (try clear hb2); (try clear hk); (try clear hi); (try simp only [errW_none, errW_some])))
   have n0_ := am (blk_drew BK146.out)
   have n1_ := am (blk_drew BK147.out)
   have n2_ := am (blk_drew BK148.out)
   have n3_ := am (below_drew1 HB.out)
   clear BK146 BK147 BK148 HB
   revert n0_ n1_ n2_ n3_
   intro BK146 BK147 BK148 HB
   refine start_ (n := 4) (S := fun w' => w'.cell? ⟨1, 0, none⟩ = some (.iface 130 (.pointer (some (EA.adr 2))))) (ds := []) #[false, false, false, false] kk rfl rfl (((HB.out.cell (World.block_lt_of_cell? w _ hE2.out.cell)).trans hE2.out.cell)) (fun hHeld => ?_)
   generalize w14.drew = w15 at BK146 BK147 BK148 HB hHeld ⊢
   refine pure_ (i := 0) (N := some 26) (v := ?_) (a' := ?_) #[true, false, false, false] rfl rfl kk (fun _ _ _ h => h) (Or.inl ⟨by rfl, ?_⟩) ?_ ?_
   rotate_left
   ·intro w'
    go_simp
    with_reducible rfl
   rotate_left
   ·simp only [Act.put, List.setIfInBounds_toArray, List.set_cons_zero, List.set_cons_succ, i64_w, i32_w]
    rfl
   refine take_ (i := 1) (N := some 27) (v := ?_) (a' := ?_) #[true, true, false, false] rfl rfl kk (fun _ _ _ h => h) (Or.inl ⟨by rfl, ?_⟩) hHeld ?_ ?_
   rotate_left
   ·intro w' s0
    go_simp
    with_reducible rfl
   rotate_left
   ·simp only [Act.put, List.setIfInBounds_toArray, List.set_cons_zero, List.set_cons_succ, i64_w, i32_w]
    rfl
   refine one_ (i := 2) (N := none) #[true, true, true, false] rfl rfl kk (by decide) (fun K hK => ?_)
   have hs16 : w15.cell? ⟨gb148, 0, none⟩ = some (.bool false) := bc BK148 0
   have hfs16 := blk_frozen BK148.out 0
   have hns16_0 := NB146_148.out
   have hns16_1 := NB147_148.out
   have hms16_0 := NB148_146.out
   have hms16_1 := NB148_147.out
   have hs17 : w15.cell? ⟨gb148, 1, none⟩ = some (.bool false) := bc BK148 1
   have hfs17 := blk_frozen BK148.out 1
   have hns17_0 := NB146_148.out
   have hns17_1 := NB147_148.out
   have hms17_0 := NB148_146.out
   have hms17_1 := NB148_147.out
   have hs18 : w15.cell? ⟨gb148, 2, none⟩ = some (.int .i64 0) := bc BK148 2
   have hfs18 := blk_frozen BK148.out 2
   have hns18_0 := NB146_148.out
   have hns18_1 := NB147_148.out
   have hms18_0 := NB148_146.out
   have hms18_1 := NB148_147.out
   have hs19 : w15.cell? ⟨gb148, 3, none⟩ = some (.int .i64 0) := bc BK148 3
   have hfs19 := blk_frozen BK148.out 3
   have hns19_0 := NB146_148.out
   have hns19_1 := NB147_148.out
   have hms19_0 := NB148_146.out
   have hms19_1 := NB148_147.out
   refine skip_ (w1 := ?_) (by rfl) rfl ?_ ?_
   rotate_left
   ·go_simp
    rfl
   refine hK.out _ _ (((cell_far (p := ⟨gb148, _, none⟩) (by first | exact Nat.ne_of_lt (Nat.lt_of_lt_of_le (ErrAt.lt hE2.out) GW148.out) | (rw [add_block]; exact Nat.ne_of_lt (Nat.lt_of_lt_of_le (ErrAt.lt hE2.out) GW148.out)) | (show (Addr.add _ _).block ≠ _; rw [add_block]; exact Nat.ne_of_lt (Nat.lt_of_lt_of_le (ErrAt.lt hE2.out) GW148.out)) | (dsimp only; exact Nat.ne_of_lt (Nat.lt_of_lt_of_le (ErrAt.lt hE2.out) GW148.out))) _).trans (((cell_far (p := ⟨gb148, _, none⟩) (by first | exact Nat.ne_of_lt (Nat.lt_of_lt_of_le (ErrAt.lt hE2.out) GW148.out) | (rw [add_block]; exact Nat.ne_of_lt (Nat.lt_of_lt_of_le (ErrAt.lt hE2.out) GW148.out)) | (show (Addr.add _ _).block ≠ _; rw [add_block]; exact Nat.ne_of_lt (Nat.lt_of_lt_of_le (ErrAt.lt hE2.out) GW148.out)) | (dsimp only; exact Nat.ne_of_lt (Nat.lt_of_lt_of_le (ErrAt.lt hE2.out) GW148.out))) _).trans (((cell_far (p := ⟨gb148, _, none⟩) (by first | exact Nat.ne_of_lt (Nat.lt_of_lt_of_le (ErrAt.lt hE2.out) GW148.out) | (rw [add_block]; exact Nat.ne_of_lt (Nat.lt_of_lt_of_le (ErrAt.lt hE2.out) GW148.out)) | (show (Addr.add _ _).block ≠ _; rw [add_block]; exact Nat.ne_of_lt (Nat.lt_of_lt_of_le (ErrAt.lt hE2.out) GW148.out)) | (dsimp only; exact Nat.ne_of_lt (Nat.lt_of_lt_of_le (ErrAt.lt hE2.out) GW148.out))) _).trans (((cell_far (p := ⟨gb148, _, none⟩) (by first | exact Nat.ne_of_lt (Nat.lt_of_lt_of_le (ErrAt.lt hE2.out) GW148.out) | (rw [add_block]; exact Nat.ne_of_lt (Nat.lt_of_lt_of_le (ErrAt.lt hE2.out) GW148.out)) | (show (Addr.add _ _).block ≠ _; rw [add_block]; exact Nat.ne_of_lt (Nat.lt_of_lt_of_le (ErrAt.lt hE2.out) GW148.out)) | (dsimp only; exact Nat.ne_of_lt (Nat.lt_of_lt_of_le (ErrAt.lt hE2.out) GW148.out))) _).trans (hHeld))))))))) (fun hHeld => ?_)
   clear hK K
   refine pure_ (i := 3) (N := some 7) (v := ?_) (a' := ?_) #[true, true, true, true] rfl rfl kk (fun _ _ _ h => h) (Or.inl ⟨by rfl, ?_⟩) ?_ ?_
   rotate_left
   ·intro w'
    go_simp
    with_reducible rfl
   rotate_left
   ·simp only [Act.put, List.setIfInBounds_toArray, List.set_cons_zero, List.set_cons_succ, i64_w, i32_w]
    rfl
   refine done_ kk ?_
   try go_wp2
   refine bodyPost_ret (results_ct rfl _ _ gb148 23 #[.bool false, .bool false, .int .i64 0, .int .i64 0] (0, 0) _ rfl (by (with_reducible repeat (first | refine blk_drewN ?_ _ | refine blk_drew ?_ | refine blk_alloc ?_ _)); refine blk_put (cs := #[.bool false, .bool false, .int .i64 0, .int .i64 0]) ?_ 3 _ rfl; (with_reducible repeat (first | refine blk_drewN ?_ _ | refine blk_drew ?_ | refine blk_alloc ?_ _)); refine blk_put (cs := #[.bool false, .bool false, .int .i64 0, .int .i64 0]) ?_ 2 _ rfl; (with_reducible repeat (first | refine blk_drewN ?_ _ | refine blk_drew ?_ | refine blk_alloc ?_ _)); refine blk_put (cs := #[.bool false, .bool false, .int .i64 0, .int .i64 0]) ?_ 1 _ rfl; (with_reducible repeat (first | refine blk_drewN ?_ _ | refine blk_drew ?_ | refine blk_alloc ?_ _)); refine blk_put (cs := #[.bool false, .bool false, .int .i64 0, .int .i64 0]) ?_ 0 _ rfl; (with_reducible repeat (first | refine blk_drewN ?_ _ | refine blk_drew ?_ | refine blk_alloc ?_ _)); exact BK148.out) Tryd.underlying23 rfl kk) rfl ?_
   exact ⟨pe, pw⟩
  rw [if_neg c5] at H
  have c5b0 : decide (20 < (l2.length : Int)) = false := decide_eq_false c5
  have c5b1 : decide (20 < l2.length) = false := decide_eq_false (by omega)
  clear c5
  have H' := am H
  clear H
  go_enter Tryd.func40, Tryd.ntmps40
  go_wp2_with (first | ((with_reducible refine gate_dst (N := 3) rfl ?_); refine box_event ?hg (N := 3) ?hd (cs := #[.bool a0_0, .bool a0_1, .int .i64 a0_2, .int .i64 a0_3]) (t := 23) ?hr ?_; (case hd => rfl); (case hg => rfl); (case hr => first | (go_simp; done) | (go_simp; rfl)); intro gb146 hg w20 hbox hb; have n0_ := am (below_step pw hb); have n1_ := am (hbox); have n2_ := am ((by rw [hg]; exact (below_size pw) : w.heap.size ≤ gb146)); have n3_ := am ((by rw [hg]; exact (below_size pw) : w.heap.size ≤ gb146)); clear HB; have HB := n0_; have BK146 := n1_; have GW146 := n2_; have GE146 := n3_; clear n0_ n1_ n2_ n3_; clear hb hbox hg) | ((with_reducible refine gate_dst (N := 4) rfl ?_); refine box_event ?hg (N := 4) ?hd (cs := #[.bool a1_0, .bool a1_1, .int .i64 a1_2, .int .i64 a1_3]) (t := 23) ?hr ?_; (case hd => rfl); (case hg => rfl); (case hr => first | (go_simp; done) | (go_simp; rfl)); intro gb147 hg w21 hbox hb; have n0_ := bb BK146 hb; have n1_ := am (below_step pw hb); have n2_ := am (hbox); have n3_ := am ((by rw [hg]; exact (below_size pw) : w.heap.size ≤ gb147)); have n4_ := am ((by rw [hg]; exact (below_size pw) : w.heap.size ≤ gb147)); have n5_ := am ((by rw [hg]; exact Nat.ne_of_lt (blk_lt pk) : gb146 ≠ gb147)); have n6_ := am ((by rw [hg]; exact Nat.ne_of_gt (blk_lt pk) : gb147 ≠ gb146)); clear BK146; clear HB; have BK146 := n0_; have HB := n1_; have BK147 := n2_; have GW147 := n3_; have GE147 := n4_; have NB146_147 := n5_; have NB147_146 := n6_; clear n0_ n1_ n2_ n3_ n4_ n5_ n6_; clear hb hbox hg) | ((with_reducible refine gate_dst (N := 6) rfl ?_); refine box_event ?hg (N := 6) ?hd (cs := #[.bool false, .bool false, .int .i64 0, .int .i64 0]) (t := 23) ?hr ?_; (case hd => rfl); (case hg => rfl); (case hr => first | (go_simp; done) | (go_simp; rfl)); intro gb148 hg w22 hbox hb; have n0_ := bb BK146 hb; have n1_ := bb BK147 hb; have n2_ := am (below_step pw hb); have n3_ := am (hbox); have n4_ := am ((by rw [hg]; exact (below_size pw) : w.heap.size ≤ gb148)); have n5_ := am ((by rw [hg]; exact (below_size pw) : w.heap.size ≤ gb148)); have n6_ := am ((by rw [hg]; exact Nat.ne_of_lt (blk_lt pk) : gb146 ≠ gb148)); have n7_ := am ((by rw [hg]; exact Nat.ne_of_gt (blk_lt pk) : gb148 ≠ gb146)); have n8_ := am ((by rw [hg]; exact Nat.ne_of_lt (blk_lt pk) : gb147 ≠ gb148)); have n9_ := am ((by rw [hg]; exact Nat.ne_of_gt (blk_lt pk) : gb148 ≠ gb147)); clear BK146; clear BK147; clear HB; have BK146 := n0_; have BK147 := n1_; have HB := n2_; have BK148 := n3_; have GW148 := n4_; have GE148 := n5_; have NB146_148 := n6_; have NB148_146 := n7_; have NB147_148 := n8_; have NB148_147 := n9_; clear n0_ n1_ n2_ n3_ n4_ n5_ n6_ n7_ n8_ n9_; clear hb hbox hg; have hnb23 := NB146_147.out; have hnc23 := NB147_146.out; have hnb24 := NB146_148.out; have hnc24 := NB148_146.out; have hcz25_0 : w22.cell? ⟨gb146, 0, none⟩ = some (.bool a0_0) := bc BK146 0; have hcz25_1 : w22.cell? ⟨gb146, 1, none⟩ = some (.bool a0_1) := bc BK146 1; have hcz25_2 : w22.cell? ⟨gb146, 2, none⟩ = some (.int .i64 a0_2) := bc BK146 2; have hcz25_3 : w22.cell? ⟨gb146, 3, none⟩ = some (.int .i64 a0_3) := bc BK146 3; have hfz25_0 := blk_frozen BK146.out 0; have hfz25_1 := blk_frozen BK146.out 1; have hfz25_2 := blk_frozen BK146.out 2; have hfz25_3 := blk_frozen BK146.out 3; have hnb26 := NB147_148.out; have hnc26 := NB148_147.out; have hcz27_0 : w22.cell? ⟨gb147, 0, none⟩ = some (.bool a1_0) := bc BK147 0; have hcz27_1 : w22.cell? ⟨gb147, 1, none⟩ = some (.bool a1_1) := bc BK147 1; have hcz27_2 : w22.cell? ⟨gb147, 2, none⟩ = some (.int .i64 a1_2) := bc BK147 2; have hcz27_3 : w22.cell? ⟨gb147, 3, none⟩ = some (.int .i64 a1_3) := bc BK147 3; have hfz27_0 := blk_frozen BK147.out 0; have hfz27_1 := blk_frozen BK147.out 1; have hfz27_2 := blk_frozen BK147.out 2; have hfz27_3 := blk_frozen BK147.out 3) | ((with_reducible refine gate_callee (f := 62) rfl ?_); refine goesL_ (some 18) rfl rfl Tryd.func62 kk rfl #[.agg #[.bool a0_0, .bool a0_1, .int .i64 a0_2, .int .i64 a0_3], .agg #[.bool a1_0, .bool a1_1, .int .i64 a1_2, .int .i64 a1_3]] rfl (by (try simp only [List.map_toArray, List.map_cons, List.map_nil]); first | done | rfl | (simp only [List.length_drop, List.length_take]; rfl)) ?_; (with_reducible refine (interval_two.calls k a0_0 a0_1 a0_2 a0_3 a1_0 a1_1 a1_2 a1_3 none _ A4.out (am (ErrAt.below hE2.out pw)).out (am (ErrAt.below hE3.out pw)).out).mono ?_); rintro e w28 ⟨rfl, hb⟩; refine ⟨_, rfl, ?_⟩; have n0_ := bb BK146 hb; have n1_ := bb BK147 hb; have n2_ := bb BK148 hb; have n3_ := am (below_step pw hb); clear BK146; clear BK147; clear BK148; clear HB; have BK146 := n0_; have BK147 := n1_; have BK148 := n2_; have HB := n3_; clear n0_ n1_ n2_ n3_; (try clear hb); (try clear hb2); (try clear hk); (try clear hi); (try simp only [errW_none, errW_some])))
  go_loopg [30] k (fun kq v30 w' => ∃ (x30_1 : Int) (x149000_1 : Bool) (x149001_1 : Bool) (x149002_1 : Int) (x149003_1 : Int), v30 = .int .i64 x30_1 ∧ Aside0 (interval_Widen.l0 kq l2 l2 (l2.length : Int) x30_1 a0_0 a0_1 a0_2 a0_3 a1_0 a1_1 a1_2 a1_3 = some (r1, r2, r3, r4, r5)) ∧ Aside0 (kq ≤ k) ∧ Aside0 (w'.heap[gb146]? = some (.cells #[.bool a0_0, .bool a0_1, .int .i64 a0_2, .int .i64 a0_3] 23 (0, 0))) ∧ Aside0 (w'.heap[gb147]? = some (.cells #[.bool a1_0, .bool a1_1, .int .i64 a1_2, .int .i64 a1_3] 23 (0, 0))) ∧ Aside0 (w'.heap[gb148]? = some (.cells #[.bool x149000_1, .bool x149001_1, .int .i64 x149002_1, .int .i64 x149003_1] 23 (0, 0))) ∧ Aside0 (Below w.heap.size w w'))
  case atStart => exact ⟨(0), (false), (false), (0), (0), pr, H', ⟨Nat.le_refl _⟩, ⟨pk⟩, ⟨pk⟩, ⟨pk⟩, ⟨pw⟩⟩
  case round =>
   clear H'
   try clear c1
   try clear q1
   try clear c2
   try clear p2
   try clear c4
   try clear c5
   try clear c5b0
   try clear c5b1
   try clear c6
   try clear c9
   try clear c10
   try clear c12
   try clear q15
   try clear c23
   try clear c24
   try clear c26
   try clear hcz11_0
   try clear hcz11_1
   try clear hcz11_2
   try clear hcz11_3
   try clear hcz13_0
   try clear hcz13_1
   try clear hcz13_2
   try clear hcz13_3
   try clear hcz25_0
   try clear hcz25_1
   try clear hcz25_2
   try clear hcz25_3
   try clear hcz27_0
   try clear hcz27_1
   try clear hcz27_2
   try clear hcz27_3
   try clear hfz11_0
   try clear hfz11_1
   try clear hfz11_2
   try clear hfz11_3
   try clear hfz13_0
   try clear hfz13_1
   try clear hfz13_2
   try clear hfz13_3
   try clear hfz25_0
   try clear hfz25_1
   try clear hfz25_2
   try clear hfz25_3
   try clear hfz27_0
   try clear hfz27_1
   try clear hfz27_2
   try clear hfz27_3
   try clear q150
   obtain ⟨x30_1, x149000_1, x149001_1, x149002_1, x149003_1, rfl, HA, HK1, BK146, BK147, BK148, HB⟩ := hrel
   cases gk with
   | zero => exact absurd HA.out (by simp [interval_Widen.l0])
   | succ k1 =>
    have H := HA.out
    clear HA
    simp only [interval_Widen.l0] at H
    by_cases c29 : x30_1 < (l2.length : Int)
    ·rw [if_pos c29] at H
     have c29b0 : decide (x30_1 < (l2.length : Int)) = true := decide_eq_true c29
     clear c29
     by_cases c30 : 0 ≤ x30_1
     ·rw [if_pos c30] at H
      have c30b0 : decide (0 ≤ x30_1) = true := decide_eq_true c30
      clear c30
      by_cases c31 : x30_1 < (l2.length : Int)
      ·rw [if_pos c31] at H
       have c31b0 : decide (x30_1 < (l2.length : Int)) = true := decide_eq_true c31
       clear c31
       replace H := Option.bind_eq_some_iff.mp H
       obtain ⟨t152, A320, H⟩ := H
       replace H : (if t152 = true then (some (false, false, 0, 0, some 2)) else (interval_Widen.l0 k1 l2 l2 (l2.length : Int) (wrap64 (x30_1 + 1)) a0_0 a0_1 a0_2 a0_3 a1_0 a1_1 a1_2 a1_3)) = some (r1, r2, r3, r4, r5) := H
       have A32 := am A320
       clear A320
       by_cases c33 : t152 = true
       ·subst c33
        have H1 : (some (false, false, 0, 0, some 2)) = some (r1, r2, r3, r4, r5) := by rw [if_pos rfl] at H; exact H
        clear H
        have H := H1
        clear H1
        simp only [Option.some.injEq, Prod.mk.injEq] at H
        obtain ⟨rfl, rfl, rfl, rfl, rfl⟩ := H
        have p151 : 0 ≤ (x30_1 : Int) := of_decide_eq_true (by first | (with_reducible assumption) | assumption)
        have q151 : x30_1 < (l2.length : Int) := of_decide_eq_true (by first | (with_reducible assumption) | assumption)
        obtain ⟨ad151, e151, hx151_0⟩ := Kd.at_int HR2.out x30_1 p151 q151
        cases e151
        replace hx151_0 := (HB.out.cell (World.block_lt_of_cell? w _ hx151_0)).trans hx151_0
        replace p151 := eq_true p151
        replace q151 := eq_true q151
        try go_wp2_with (first | ((with_reducible refine gate_callee (f := 55) rfl ?_); refine goesL_ (some 35) rfl rfl Tryd.func55 kk rfl #[.int .i64 (rd l2 x30_1)] rfl (by (try simp only [List.map_toArray, List.map_cons, List.map_nil]); first | done | rfl | (simp only [List.length_drop, List.length_take]; rfl)) ?_; (with_reducible refine (interval_far.calls (rd l2 x30_1) true _ A32.out).mono ?_); rintro e w' ⟨rfl, ⟨nd, rfl⟩⟩; refine ⟨_, rfl, ?_⟩; (try (rw [drewN_self wr]; generalize hq_ : World.drewN wr _ = wr; have n0_ : Aside0 (wr.heap[gb146]? = some (.cells #[.bool a0_0, .bool a0_1, .int .i64 a0_2, .int .i64 a0_3] 23 (0, 0))) := ⟨by rw [← hq_]; exact pk⟩; have n1_ : Aside0 (wr.heap[gb147]? = some (.cells #[.bool a1_0, .bool a1_1, .int .i64 a1_2, .int .i64 a1_3] 23 (0, 0))) := ⟨by rw [← hq_]; exact pk⟩; have n2_ : Aside0 (wr.heap[gb148]? = some (.cells #[.bool x149000_1, .bool x149001_1, .int .i64 x149002_1, .int .i64 x149003_1] 23 (0, 0))) := ⟨by rw [← hq_]; exact pk⟩; have n3_ : Aside0 (Below w.heap.size w wr) := ⟨by rw [← hq_]; exact pw⟩; clear BK146 BK147 BK148 HB hq_; have BK146 := n0_; have BK147 := n1_; have BK148 := n2_; have HB := n3_; clear n0_ n1_ n2_ n3_))))
        have n0_ := am (blk_drew BK146.out)
        have n1_ := am (blk_drew BK147.out)
        have n2_ := am (blk_drew BK148.out)
        have n3_ := am (below_drew1 HB.out)
        clear BK146 BK147 BK148 HB
        revert n0_ n1_ n2_ n3_
        intro BK146 BK147 BK148 HB
        refine start_ (n := 4) (S := fun w' => w'.cell? ⟨1, 0, none⟩ = some (.iface 130 (.pointer (some (EA.adr 2))))) (ds := []) #[false, false, false, false] kk rfl rfl (((HB.out.cell (World.block_lt_of_cell? w _ hE2.out.cell)).trans hE2.out.cell)) (fun hHeld => ?_)
        generalize wr.drew = w34 at BK146 BK147 BK148 HB hHeld ⊢
        refine pure_ (i := 0) (N := some 36) (v := ?_) (a' := ?_) #[true, false, false, false] rfl rfl kk (fun _ _ _ h => h) (Or.inl ⟨by rfl, ?_⟩) ?_ ?_
        rotate_left
        ·intro w'
         go_simp
         with_reducible rfl
        rotate_left
        ·simp only [Act.put, List.setIfInBounds_toArray, List.set_cons_zero, List.set_cons_succ, i64_w, i32_w]
         rfl
        refine take_ (i := 1) (N := some 37) (v := ?_) (a' := ?_) #[true, true, false, false] rfl rfl kk (fun _ _ _ h => h) (Or.inl ⟨by rfl, ?_⟩) hHeld ?_ ?_
        rotate_left
        ·intro w' s0
         go_simp
         with_reducible rfl
        rotate_left
        ·simp only [Act.put, List.setIfInBounds_toArray, List.set_cons_zero, List.set_cons_succ, i64_w, i32_w]
         rfl
        refine one_ (i := 2) (N := none) #[true, true, true, false] rfl rfl kk (by decide) (fun K hK => ?_)
        have hs35 : w34.cell? ⟨gb148, 0, none⟩ = some (.bool x149000_1) := bc BK148 0
        have hfs35 := blk_frozen BK148.out 0
        have hns35_0 := NB146_148.out
        have hns35_1 := NB147_148.out
        have hms35_0 := NB148_146.out
        have hms35_1 := NB148_147.out
        have hs36 : w34.cell? ⟨gb148, 1, none⟩ = some (.bool x149001_1) := bc BK148 1
        have hfs36 := blk_frozen BK148.out 1
        have hns36_0 := NB146_148.out
        have hns36_1 := NB147_148.out
        have hms36_0 := NB148_146.out
        have hms36_1 := NB148_147.out
        have hs37 : w34.cell? ⟨gb148, 2, none⟩ = some (.int .i64 x149002_1) := bc BK148 2
        have hfs37 := blk_frozen BK148.out 2
        have hns37_0 := NB146_148.out
        have hns37_1 := NB147_148.out
        have hms37_0 := NB148_146.out
        have hms37_1 := NB148_147.out
        have hs38 : w34.cell? ⟨gb148, 3, none⟩ = some (.int .i64 x149003_1) := bc BK148 3
        have hfs38 := blk_frozen BK148.out 3
        have hns38_0 := NB146_148.out
        have hns38_1 := NB147_148.out
        have hms38_0 := NB148_146.out
        have hms38_1 := NB148_147.out
        refine skip_ (w1 := ?_) (by rfl) rfl ?_ ?_
        rotate_left
        ·go_simp
         rfl
        refine hK.out _ _ (((cell_far (p := ⟨gb148, _, none⟩) (by first | exact Nat.ne_of_lt (Nat.lt_of_lt_of_le (ErrAt.lt hE2.out) GW148.out) | (rw [add_block]; exact Nat.ne_of_lt (Nat.lt_of_lt_of_le (ErrAt.lt hE2.out) GW148.out)) | (show (Addr.add _ _).block ≠ _; rw [add_block]; exact Nat.ne_of_lt (Nat.lt_of_lt_of_le (ErrAt.lt hE2.out) GW148.out)) | (dsimp only; exact Nat.ne_of_lt (Nat.lt_of_lt_of_le (ErrAt.lt hE2.out) GW148.out))) _).trans (((cell_far (p := ⟨gb148, _, none⟩) (by first | exact Nat.ne_of_lt (Nat.lt_of_lt_of_le (ErrAt.lt hE2.out) GW148.out) | (rw [add_block]; exact Nat.ne_of_lt (Nat.lt_of_lt_of_le (ErrAt.lt hE2.out) GW148.out)) | (show (Addr.add _ _).block ≠ _; rw [add_block]; exact Nat.ne_of_lt (Nat.lt_of_lt_of_le (ErrAt.lt hE2.out) GW148.out)) | (dsimp only; exact Nat.ne_of_lt (Nat.lt_of_lt_of_le (ErrAt.lt hE2.out) GW148.out))) _).trans (((cell_far (p := ⟨gb148, _, none⟩) (by first | exact Nat.ne_of_lt (Nat.lt_of_lt_of_le (ErrAt.lt hE2.out) GW148.out) | (rw [add_block]; exact Nat.ne_of_lt (Nat.lt_of_lt_of_le (ErrAt.lt hE2.out) GW148.out)) | (show (Addr.add _ _).block ≠ _; rw [add_block]; exact Nat.ne_of_lt (Nat.lt_of_lt_of_le (ErrAt.lt hE2.out) GW148.out)) | (dsimp only; exact Nat.ne_of_lt (Nat.lt_of_lt_of_le (ErrAt.lt hE2.out) GW148.out))) _).trans (((cell_far (p := ⟨gb148, _, none⟩) (by first | exact Nat.ne_of_lt (Nat.lt_of_lt_of_le (ErrAt.lt hE2.out) GW148.out) | (rw [add_block]; exact Nat.ne_of_lt (Nat.lt_of_lt_of_le (ErrAt.lt hE2.out) GW148.out)) | (show (Addr.add _ _).block ≠ _; rw [add_block]; exact Nat.ne_of_lt (Nat.lt_of_lt_of_le (ErrAt.lt hE2.out) GW148.out)) | (dsimp only; exact Nat.ne_of_lt (Nat.lt_of_lt_of_le (ErrAt.lt hE2.out) GW148.out))) _).trans (hHeld))))))))) (fun hHeld => ?_)
        clear hK K
        refine pure_ (i := 3) (N := some 7) (v := ?_) (a' := ?_) #[true, true, true, true] rfl rfl kk (fun _ _ _ h => h) (Or.inl ⟨by rfl, ?_⟩) ?_ ?_
        rotate_left
        ·intro w'
         go_simp
         with_reducible rfl
        rotate_left
        ·simp only [Act.put, List.setIfInBounds_toArray, List.set_cons_zero, List.set_cons_succ, i64_w, i32_w]
         rfl
        refine done_ kk ?_
        try go_wp2
        refine bodyPost_ret (results_ct rfl _ _ gb148 23 #[.bool false, .bool false, .int .i64 0, .int .i64 0] (0, 0) _ rfl (by (with_reducible repeat (first | refine blk_drewN ?_ _ | refine blk_drew ?_ | refine blk_alloc ?_ _)); refine blk_put (cs := #[.bool false, .bool false, .int .i64 0, .int .i64 x149003_1]) ?_ 3 _ rfl; (with_reducible repeat (first | refine blk_drewN ?_ _ | refine blk_drew ?_ | refine blk_alloc ?_ _)); refine blk_put (cs := #[.bool false, .bool false, .int .i64 x149002_1, .int .i64 x149003_1]) ?_ 2 _ rfl; (with_reducible repeat (first | refine blk_drewN ?_ _ | refine blk_drew ?_ | refine blk_alloc ?_ _)); refine blk_put (cs := #[.bool false, .bool x149001_1, .int .i64 x149002_1, .int .i64 x149003_1]) ?_ 1 _ rfl; (with_reducible repeat (first | refine blk_drewN ?_ _ | refine blk_drew ?_ | refine blk_alloc ?_ _)); refine blk_put (cs := #[.bool x149000_1, .bool x149001_1, .int .i64 x149002_1, .int .i64 x149003_1]) ?_ 0 _ rfl; (with_reducible repeat (first | refine blk_drewN ?_ _ | refine blk_drew ?_ | refine blk_alloc ?_ _)); exact BK148.out) Tryd.underlying23 rfl kk) rfl ?_
        exact ⟨pe, pw⟩
       replace c33 := Bool.eq_false_iff.mpr c33
       subst c33
       have H1 : (interval_Widen.l0 k1 l2 l2 (l2.length : Int) (wrap64 (x30_1 + 1)) a0_0 a0_1 a0_2 a0_3 a1_0 a1_1 a1_2 a1_3) = some (r1, r2, r3, r4, r5) := by rw [if_neg (show ¬ (false = true) by decide)] at H; exact H
       clear H
       have H := H1
       clear H1
       have H' := am H
       clear H
       have p151 : 0 ≤ (x30_1 : Int) := of_decide_eq_true (by first | (with_reducible assumption) | assumption)
       have q151 : x30_1 < (l2.length : Int) := of_decide_eq_true (by first | (with_reducible assumption) | assumption)
       obtain ⟨ad151, e151, hx151_0⟩ := Kd.at_int HR2.out x30_1 p151 q151
       cases e151
       replace hx151_0 := (HB.out.cell (World.block_lt_of_cell? w _ hx151_0)).trans hx151_0
       replace p151 := eq_true p151
       replace q151 := eq_true q151
       go_wp2_with (first | ((with_reducible refine gate_callee (f := 55) rfl ?_); refine goesL_ (some 35) rfl rfl Tryd.func55 kk rfl #[.int .i64 (rd l2 x30_1)] rfl (by (try simp only [List.map_toArray, List.map_cons, List.map_nil]); first | done | rfl | (simp only [List.length_drop, List.length_take]; rfl)) ?_; (with_reducible refine (interval_far.calls (rd l2 x30_1) false _ A32.out).mono ?_); rintro e w' ⟨rfl, ⟨nd, rfl⟩⟩; refine ⟨_, rfl, ?_⟩))
       go_roundg k1
       case measure => have := HK1.out; omega
       case rel => exact ⟨(wrap64 (x30_1 + 1)), (x149000_1), (x149001_1), (x149002_1), (x149003_1), pr, H', ⟨by have := HK1.out; omega⟩, ⟨pk⟩, ⟨pk⟩, ⟨pk⟩, ⟨pw⟩⟩
      rw [if_neg c31] at H
      exact absurd H (by simp)
     rw [if_neg c30] at H
     exact absurd H (by simp)
    rw [if_neg c29] at H
    have c29b0 : decide (x30_1 < (l2.length : Int)) = false := decide_eq_false c29
    clear c29
    have HC39 := am H
    clear H
    have hnb40 := NB146_147.out
    have hnc40 := NB147_146.out
    have hnb41 := NB146_148.out
    have hnc41 := NB148_146.out
    have hcz42_0 : wr.cell? ⟨gb146, 0, none⟩ = some (.bool a0_0) := bc BK146 0
    have hcz42_1 : wr.cell? ⟨gb146, 1, none⟩ = some (.bool a0_1) := bc BK146 1
    have hcz42_2 : wr.cell? ⟨gb146, 2, none⟩ = some (.int .i64 a0_2) := bc BK146 2
    have hcz42_3 : wr.cell? ⟨gb146, 3, none⟩ = some (.int .i64 a0_3) := bc BK146 3
    have hfz42_0 := blk_frozen BK146.out 0
    have hfz42_1 := blk_frozen BK146.out 1
    have hfz42_2 := blk_frozen BK146.out 2
    have hfz42_3 := blk_frozen BK146.out 3
    go_upto_region 13 with (first | ((with_reducible refine gate_dst (N := 11) rfl ?_); refine box_event ?hg (N := 11) ?hd (cs := #[.bool false, .bool false, .int .i64 0, .int .i64 0]) (t := 23) ?hr ?_; (case hd => rfl); (case hg => rfl); (case hr => first | (go_simp; done) | (go_simp; rfl)); intro gb153 hg w43 hbox hb; have n0_ := bb BK146 hb; have n1_ := bb BK147 hb; have n2_ := bb BK148 hb; have n3_ := am (below_step pw hb); have n4_ := am (hbox); have n5_ := am ((by rw [hg]; exact (below_size pw) : w.heap.size ≤ gb153)); have n6_ := am ((by rw [hg]; exact (below_size pw) : w.heap.size ≤ gb153)); have n7_ := am ((by rw [hg]; exact Nat.ne_of_lt (blk_lt pk) : gb146 ≠ gb153)); have n8_ := am ((by rw [hg]; exact Nat.ne_of_gt (blk_lt pk) : gb153 ≠ gb146)); have n9_ := am ((by rw [hg]; exact Nat.ne_of_lt (blk_lt pk) : gb147 ≠ gb153)); have n10_ := am ((by rw [hg]; exact Nat.ne_of_gt (blk_lt pk) : gb153 ≠ gb147)); have n11_ := am ((by rw [hg]; exact Nat.ne_of_lt (blk_lt pk) : gb148 ≠ gb153)); have n12_ := am ((by rw [hg]; exact Nat.ne_of_gt (blk_lt pk) : gb153 ≠ gb148)); clear BK146; clear BK147; clear BK148; clear HB; have BK146 := n0_; have BK147 := n1_; have BK148 := n2_; have HB := n3_; have BK153 := n4_; have GW153 := n5_; have GE153 := n6_; have NB146_153 := n7_; have NB153_146 := n8_; have NB147_153 := n9_; have NB153_147 := n10_; have NB148_153 := n11_; have NB153_148 := n12_; clear n0_ n1_ n2_ n3_ n4_ n5_ n6_ n7_ n8_ n9_ n10_ n11_ n12_; clear hb hbox hg; have hnb44 := NB153_146.out; have hnc44 := NB146_153.out; have hnb45 := NB153_147.out; have hnc45 := NB147_153.out; have hnb46 := NB153_148.out; have hnc46 := NB148_153.out; have hcz47_0 : w43.cell? ⟨gb153, 0, none⟩ = some (.bool false) := bc BK153 0; have hcz47_1 : w43.cell? ⟨gb153, 1, none⟩ = some (.bool false) := bc BK153 1; have hcz47_2 : w43.cell? ⟨gb153, 2, none⟩ = some (.int .i64 0) := bc BK153 2; have hcz47_3 : w43.cell? ⟨gb153, 3, none⟩ = some (.int .i64 0) := bc BK153 3; have hfz47_0 := blk_frozen BK153.out 0; have hfz47_1 := blk_frozen BK153.out 1; have hfz47_2 := blk_frozen BK153.out 2; have hfz47_3 := blk_frozen BK153.out 3))
    (try simp only [Act.put, List.setIfInBounds_toArray, List.set_cons_zero, List.set_cons_succ])
    go_cut [53] (fun v53 wc => ∃ (kq : Nat) (x53_38 : Bool), v53 = .bool x53_38 ∧ Aside0 (interval_Widen.j1 kq l2 x53_38 a0_0 a0_1 a0_2 a0_3 a1_0 a1_1 a1_2 a1_3 a0_0 a0_1 a0_2 a0_3 = some (r1, r2, r3, r4, r5)) ∧ Aside0 (kq ≤ k1) ∧ Aside0 (wc.heap[gb146]? = some (.cells #[.bool a0_0, .bool a0_1, .int .i64 a0_2, .int .i64 a0_3] 23 (0, 0))) ∧ Aside0 (wc.heap[gb147]? = some (.cells #[.bool a1_0, .bool a1_1, .int .i64 a1_2, .int .i64 a1_3] 23 (0, 0))) ∧ Aside0 (wc.heap[gb148]? = some (.cells #[.bool x149000_1, .bool x149001_1, .int .i64 x149002_1, .int .i64 x149003_1] 23 (0, 0))) ∧ Aside0 (wc.heap[gb153]? = some (.cells #[.bool a0_0, .bool a0_1, .int .i64 a0_2, .int .i64 a0_3] 23 (0, 0))) ∧ Aside0 (Below w.heap.size w wc))
    case first =>
     have H := HC39.out
     clear HC39
     by_cases c48 : a0_0 = true
     ·subst c48
      have H1 : (interval_Widen.j1 k1 l2 false true a0_1 a0_2 a0_3 a1_0 a1_1 a1_2 a1_3 true a0_1 a0_2 a0_3) = some (r1, r2, r3, r4, r5) := by rw [if_pos rfl] at H; exact H
      clear H
      have H := H1
      clear H1
      have H' := am H
      clear H
      have hnb49 := NB146_147.out
      have hnc49 := NB147_146.out
      have hnb50 := NB146_148.out
      have hnc50 := NB148_146.out
      have hnb51 := NB146_153.out
      have hnc51 := NB153_146.out
      have hcz52_0 : w43.cell? ⟨gb146, 0, none⟩ = some (.bool true) := bc BK146 0
      have hcz52_1 : w43.cell? ⟨gb146, 1, none⟩ = some (.bool a0_1) := bc BK146 1
      have hcz52_2 : w43.cell? ⟨gb146, 2, none⟩ = some (.int .i64 a0_2) := bc BK146 2
      have hcz52_3 : w43.cell? ⟨gb146, 3, none⟩ = some (.int .i64 a0_3) := bc BK146 3
      have hfz52_0 := blk_frozen BK146.out 0
      have hfz52_1 := blk_frozen BK146.out 1
      have hfz52_2 := blk_frozen BK146.out 2
      have hfz52_3 := blk_frozen BK146.out 3
      go_wp2
      go_meet
      case rel => exact ⟨_, (false), pr, H', ⟨by have := HK1.out; first | omega | exact Nat.le_refl _⟩, ⟨by (with_reducible repeat (first | refine blk_drewN ?_ _ | refine blk_drew ?_ | refine blk_alloc ?_ _)); refine blk_far ?_ NB146_153.out _; (with_reducible repeat (first | refine blk_drewN ?_ _ | refine blk_drew ?_ | refine blk_alloc ?_ _)); refine blk_far ?_ NB146_153.out _; (with_reducible repeat (first | refine blk_drewN ?_ _ | refine blk_drew ?_ | refine blk_alloc ?_ _)); refine blk_far ?_ NB146_153.out _; (with_reducible repeat (first | refine blk_drewN ?_ _ | refine blk_drew ?_ | refine blk_alloc ?_ _)); refine blk_far ?_ NB146_153.out _; (with_reducible repeat (first | refine blk_drewN ?_ _ | refine blk_drew ?_ | refine blk_alloc ?_ _)); exact BK146.out⟩, ⟨by (with_reducible repeat (first | refine blk_drewN ?_ _ | refine blk_drew ?_ | refine blk_alloc ?_ _)); refine blk_far ?_ NB147_153.out _; (with_reducible repeat (first | refine blk_drewN ?_ _ | refine blk_drew ?_ | refine blk_alloc ?_ _)); refine blk_far ?_ NB147_153.out _; (with_reducible repeat (first | refine blk_drewN ?_ _ | refine blk_drew ?_ | refine blk_alloc ?_ _)); refine blk_far ?_ NB147_153.out _; (with_reducible repeat (first | refine blk_drewN ?_ _ | refine blk_drew ?_ | refine blk_alloc ?_ _)); refine blk_far ?_ NB147_153.out _; (with_reducible repeat (first | refine blk_drewN ?_ _ | refine blk_drew ?_ | refine blk_alloc ?_ _)); exact BK147.out⟩, ⟨by (with_reducible repeat (first | refine blk_drewN ?_ _ | refine blk_drew ?_ | refine blk_alloc ?_ _)); refine blk_far ?_ NB148_153.out _; (with_reducible repeat (first | refine blk_drewN ?_ _ | refine blk_drew ?_ | refine blk_alloc ?_ _)); refine blk_far ?_ NB148_153.out _; (with_reducible repeat (first | refine blk_drewN ?_ _ | refine blk_drew ?_ | refine blk_alloc ?_ _)); refine blk_far ?_ NB148_153.out _; (with_reducible repeat (first | refine blk_drewN ?_ _ | refine blk_drew ?_ | refine blk_alloc ?_ _)); refine blk_far ?_ NB148_153.out _; (with_reducible repeat (first | refine blk_drewN ?_ _ | refine blk_drew ?_ | refine blk_alloc ?_ _)); exact BK148.out⟩, ⟨by (with_reducible repeat (first | refine blk_drewN ?_ _ | refine blk_drew ?_ | refine blk_alloc ?_ _)); refine blk_put (cs := #[.bool true, .bool a0_1, .int .i64 a0_2, .int .i64 0]) ?_ 3 _ rfl; (with_reducible repeat (first | refine blk_drewN ?_ _ | refine blk_drew ?_ | refine blk_alloc ?_ _)); refine blk_put (cs := #[.bool true, .bool a0_1, .int .i64 0, .int .i64 0]) ?_ 2 _ rfl; (with_reducible repeat (first | refine blk_drewN ?_ _ | refine blk_drew ?_ | refine blk_alloc ?_ _)); refine blk_put (cs := #[.bool true, .bool false, .int .i64 0, .int .i64 0]) ?_ 1 _ rfl; (with_reducible repeat (first | refine blk_drewN ?_ _ | refine blk_drew ?_ | refine blk_alloc ?_ _)); refine blk_put (cs := #[.bool false, .bool false, .int .i64 0, .int .i64 0]) ?_ 0 _ rfl; (with_reducible repeat (first | refine blk_drewN ?_ _ | refine blk_drew ?_ | refine blk_alloc ?_ _)); exact BK153.out⟩, ⟨pw⟩⟩
     replace c48 := Bool.eq_false_iff.mpr c48
     subst c48
     have H1 : (if a1_0 = true then (interval_Widen.j1 k1 l2 true false a0_1 a0_2 a0_3 a1_0 a1_1 a1_2 a1_3 false a0_1 a0_2 a0_3) else (interval_Widen.j1 k1 l2 (decide (a1_2 < a0_2)) false a0_1 a0_2 a0_3 a1_0 a1_1 a1_2 a1_3 false a0_1 a0_2 a0_3)) = some (r1, r2, r3, r4, r5) := by rw [if_neg (show ¬ (false = true) by decide)] at H; exact H
     clear H
     have H := H1
     clear H1
     by_cases c53 : a1_0 = true
     ·subst c53
      have H1 : (interval_Widen.j1 k1 l2 true false a0_1 a0_2 a0_3 true a1_1 a1_2 a1_3 false a0_1 a0_2 a0_3) = some (r1, r2, r3, r4, r5) := by rw [if_pos rfl] at H; exact H
      clear H
      have H := H1
      clear H1
      have H' := am H
      clear H
      have hnb54 := NB146_147.out
      have hnc54 := NB147_146.out
      have hnb55 := NB146_148.out
      have hnc55 := NB148_146.out
      have hnb56 := NB146_153.out
      have hnc56 := NB153_146.out
      have hcz57_0 : w43.cell? ⟨gb146, 0, none⟩ = some (.bool false) := bc BK146 0
      have hcz57_1 : w43.cell? ⟨gb146, 1, none⟩ = some (.bool a0_1) := bc BK146 1
      have hcz57_2 : w43.cell? ⟨gb146, 2, none⟩ = some (.int .i64 a0_2) := bc BK146 2
      have hcz57_3 : w43.cell? ⟨gb146, 3, none⟩ = some (.int .i64 a0_3) := bc BK146 3
      have hfz57_0 := blk_frozen BK146.out 0
      have hfz57_1 := blk_frozen BK146.out 1
      have hfz57_2 := blk_frozen BK146.out 2
      have hfz57_3 := blk_frozen BK146.out 3
      have hnb58 := NB147_148.out
      have hnc58 := NB148_147.out
      have hnb59 := NB147_153.out
      have hnc59 := NB153_147.out
      have hcz60_0 : w43.cell? ⟨gb147, 0, none⟩ = some (.bool true) := bc BK147 0
      have hcz60_1 : w43.cell? ⟨gb147, 1, none⟩ = some (.bool a1_1) := bc BK147 1
      have hcz60_2 : w43.cell? ⟨gb147, 2, none⟩ = some (.int .i64 a1_2) := bc BK147 2
      have hcz60_3 : w43.cell? ⟨gb147, 3, none⟩ = some (.int .i64 a1_3) := bc BK147 3
      have hfz60_0 := blk_frozen BK147.out 0
      have hfz60_1 := blk_frozen BK147.out 1
      have hfz60_2 := blk_frozen BK147.out 2
      have hfz60_3 := blk_frozen BK147.out 3
      go_wp2
      go_meet
      case rel => exact ⟨_, (true), pr, H', ⟨by have := HK1.out; first | omega | exact Nat.le_refl _⟩, ⟨by (with_reducible repeat (first | refine blk_drewN ?_ _ | refine blk_drew ?_ | refine blk_alloc ?_ _)); refine blk_far ?_ NB146_153.out _; (with_reducible repeat (first | refine blk_drewN ?_ _ | refine blk_drew ?_ | refine blk_alloc ?_ _)); refine blk_far ?_ NB146_153.out _; (with_reducible repeat (first | refine blk_drewN ?_ _ | refine blk_drew ?_ | refine blk_alloc ?_ _)); refine blk_far ?_ NB146_153.out _; (with_reducible repeat (first | refine blk_drewN ?_ _ | refine blk_drew ?_ | refine blk_alloc ?_ _)); refine blk_far ?_ NB146_153.out _; (with_reducible repeat (first | refine blk_drewN ?_ _ | refine blk_drew ?_ | refine blk_alloc ?_ _)); exact BK146.out⟩, ⟨by (with_reducible repeat (first | refine blk_drewN ?_ _ | refine blk_drew ?_ | refine blk_alloc ?_ _)); refine blk_far ?_ NB147_153.out _; (with_reducible repeat (first | refine blk_drewN ?_ _ | refine blk_drew ?_ | refine blk_alloc ?_ _)); refine blk_far ?_ NB147_153.out _; (with_reducible repeat (first | refine blk_drewN ?_ _ | refine blk_drew ?_ | refine blk_alloc ?_ _)); refine blk_far ?_ NB147_153.out _; (with_reducible repeat (first | refine blk_drewN ?_ _ | refine blk_drew ?_ | refine blk_alloc ?_ _)); refine blk_far ?_ NB147_153.out _; (with_reducible repeat (first | refine blk_drewN ?_ _ | refine blk_drew ?_ | refine blk_alloc ?_ _)); exact BK147.out⟩, ⟨by (with_reducible repeat (first | refine blk_drewN ?_ _ | refine blk_drew ?_ | refine blk_alloc ?_ _)); refine blk_far ?_ NB148_153.out _; (with_reducible repeat (first | refine blk_drewN ?_ _ | refine blk_drew ?_ | refine blk_alloc ?_ _)); refine blk_far ?_ NB148_153.out _; (with_reducible repeat (first | refine blk_drewN ?_ _ | refine blk_drew ?_ | refine blk_alloc ?_ _)); refine blk_far ?_ NB148_153.out _; (with_reducible repeat (first | refine blk_drewN ?_ _ | refine blk_drew ?_ | refine blk_alloc ?_ _)); refine blk_far ?_ NB148_153.out _; (with_reducible repeat (first | refine blk_drewN ?_ _ | refine blk_drew ?_ | refine blk_alloc ?_ _)); exact BK148.out⟩, ⟨by (with_reducible repeat (first | refine blk_drewN ?_ _ | refine blk_drew ?_ | refine blk_alloc ?_ _)); refine blk_put (cs := #[.bool false, .bool a0_1, .int .i64 a0_2, .int .i64 0]) ?_ 3 _ rfl; (with_reducible repeat (first | refine blk_drewN ?_ _ | refine blk_drew ?_ | refine blk_alloc ?_ _)); refine blk_put (cs := #[.bool false, .bool a0_1, .int .i64 0, .int .i64 0]) ?_ 2 _ rfl; (with_reducible repeat (first | refine blk_drewN ?_ _ | refine blk_drew ?_ | refine blk_alloc ?_ _)); refine blk_put (cs := #[.bool false, .bool false, .int .i64 0, .int .i64 0]) ?_ 1 _ rfl; (with_reducible repeat (first | refine blk_drewN ?_ _ | refine blk_drew ?_ | refine blk_alloc ?_ _)); refine blk_put (cs := #[.bool false, .bool false, .int .i64 0, .int .i64 0]) ?_ 0 _ rfl; (with_reducible repeat (first | refine blk_drewN ?_ _ | refine blk_drew ?_ | refine blk_alloc ?_ _)); exact BK153.out⟩, ⟨pw⟩⟩
     replace c53 := Bool.eq_false_iff.mpr c53
     subst c53
     have H1 : (interval_Widen.j1 k1 l2 (decide (a1_2 < a0_2)) false a0_1 a0_2 a0_3 false a1_1 a1_2 a1_3 false a0_1 a0_2 a0_3) = some (r1, r2, r3, r4, r5) := by rw [if_neg (show ¬ (false = true) by decide)] at H; exact H
     clear H
     have H := H1
     clear H1
     have H' := am H
     clear H
     have hnb61 := NB146_147.out
     have hnc61 := NB147_146.out
     have hnb62 := NB146_148.out
     have hnc62 := NB148_146.out
     have hnb63 := NB146_153.out
     have hnc63 := NB153_146.out
     have hcz64_0 : w43.cell? ⟨gb146, 0, none⟩ = some (.bool false) := bc BK146 0
     have hcz64_1 : w43.cell? ⟨gb146, 1, none⟩ = some (.bool a0_1) := bc BK146 1
     have hcz64_2 : w43.cell? ⟨gb146, 2, none⟩ = some (.int .i64 a0_2) := bc BK146 2
     have hcz64_3 : w43.cell? ⟨gb146, 3, none⟩ = some (.int .i64 a0_3) := bc BK146 3
     have hfz64_0 := blk_frozen BK146.out 0
     have hfz64_1 := blk_frozen BK146.out 1
     have hfz64_2 := blk_frozen BK146.out 2
     have hfz64_3 := blk_frozen BK146.out 3
     have hnb65 := NB147_148.out
     have hnc65 := NB148_147.out
     have hnb66 := NB147_153.out
     have hnc66 := NB153_147.out
     have hcz67_0 : w43.cell? ⟨gb147, 0, none⟩ = some (.bool false) := bc BK147 0
     have hcz67_1 : w43.cell? ⟨gb147, 1, none⟩ = some (.bool a1_1) := bc BK147 1
     have hcz67_2 : w43.cell? ⟨gb147, 2, none⟩ = some (.int .i64 a1_2) := bc BK147 2
     have hcz67_3 : w43.cell? ⟨gb147, 3, none⟩ = some (.int .i64 a1_3) := bc BK147 3
     have hfz67_0 := blk_frozen BK147.out 0
     have hfz67_1 := blk_frozen BK147.out 1
     have hfz67_2 := blk_frozen BK147.out 2
     have hfz67_3 := blk_frozen BK147.out 3
     go_wp2
     go_meet
     case rel => exact ⟨_, (decide (a1_2 < a0_2)), pr, H', ⟨by have := HK1.out; first | omega | exact Nat.le_refl _⟩, ⟨by (with_reducible repeat (first | refine blk_drewN ?_ _ | refine blk_drew ?_ | refine blk_alloc ?_ _)); refine blk_far ?_ NB146_153.out _; (with_reducible repeat (first | refine blk_drewN ?_ _ | refine blk_drew ?_ | refine blk_alloc ?_ _)); refine blk_far ?_ NB146_153.out _; (with_reducible repeat (first | refine blk_drewN ?_ _ | refine blk_drew ?_ | refine blk_alloc ?_ _)); refine blk_far ?_ NB146_153.out _; (with_reducible repeat (first | refine blk_drewN ?_ _ | refine blk_drew ?_ | refine blk_alloc ?_ _)); refine blk_far ?_ NB146_153.out _; (with_reducible repeat (first | refine blk_drewN ?_ _ | refine blk_drew ?_ | refine blk_alloc ?_ _)); exact BK146.out⟩, ⟨by (with_reducible repeat (first | refine blk_drewN ?_ _ | refine blk_drew ?_ | refine blk_alloc ?_ _)); refine blk_far ?_ NB147_153.out _; (with_reducible repeat (first | refine blk_drewN ?_ _ | refine blk_drew ?_ | refine blk_alloc ?_ _)); refine blk_far ?_ NB147_153.out _; (with_reducible repeat (first | refine blk_drewN ?_ _ | refine blk_drew ?_ | refine blk_alloc ?_ _)); refine blk_far ?_ NB147_153.out _; (with_reducible repeat (first | refine blk_drewN ?_ _ | refine blk_drew ?_ | refine blk_alloc ?_ _)); refine blk_far ?_ NB147_153.out _; (with_reducible repeat (first | refine blk_drewN ?_ _ | refine blk_drew ?_ | refine blk_alloc ?_ _)); exact BK147.out⟩, ⟨by (with_reducible repeat (first | refine blk_drewN ?_ _ | refine blk_drew ?_ | refine blk_alloc ?_ _)); refine blk_far ?_ NB148_153.out _; (with_reducible repeat (first | refine blk_drewN ?_ _ | refine blk_drew ?_ | refine blk_alloc ?_ _)); refine blk_far ?_ NB148_153.out _; (with_reducible repeat (first | refine blk_drewN ?_ _ | refine blk_drew ?_ | refine blk_alloc ?_ _)); refine blk_far ?_ NB148_153.out _; (with_reducible repeat (first | refine blk_drewN ?_ _ | refine blk_drew ?_ | refine blk_alloc ?_ _)); refine blk_far ?_ NB148_153.out _; (with_reducible repeat (first | refine blk_drewN ?_ _ | refine blk_drew ?_ | refine blk_alloc ?_ _)); exact BK148.out⟩, ⟨by (with_reducible repeat (first | refine blk_drewN ?_ _ | refine blk_drew ?_ | refine blk_alloc ?_ _)); refine blk_put (cs := #[.bool false, .bool a0_1, .int .i64 a0_2, .int .i64 0]) ?_ 3 _ rfl; (with_reducible repeat (first | refine blk_drewN ?_ _ | refine blk_drew ?_ | refine blk_alloc ?_ _)); refine blk_put (cs := #[.bool false, .bool a0_1, .int .i64 0, .int .i64 0]) ?_ 2 _ rfl; (with_reducible repeat (first | refine blk_drewN ?_ _ | refine blk_drew ?_ | refine blk_alloc ?_ _)); refine blk_put (cs := #[.bool false, .bool false, .int .i64 0, .int .i64 0]) ?_ 1 _ rfl; (with_reducible repeat (first | refine blk_drewN ?_ _ | refine blk_drew ?_ | refine blk_alloc ?_ _)); refine blk_put (cs := #[.bool false, .bool false, .int .i64 0, .int .i64 0]) ?_ 0 _ rfl; (with_reducible repeat (first | refine blk_drewN ?_ _ | refine blk_drew ?_ | refine blk_alloc ?_ _)); exact BK153.out⟩, ⟨pw⟩⟩
    clear HC39
    try clear c1
    try clear p1
    try clear q1
    try clear hx1
    try clear c2
    try clear p2
    try clear c3
    try clear c4
    try clear c5
    try clear c5b0
    try clear c5b1
    try clear c6
    try clear p6
    try clear c9
    try clear c10
    try clear c12
    try clear p15
    try clear q15
    try clear hx15
    try clear c23
    try clear c24
    try clear c26
    try clear c29
    try clear c29b0
    try clear c30
    try clear c30b0
    try clear c31
    try clear c31b0
    try clear c33
    try clear c40
    try clear c41
    try clear c44
    try clear c45
    try clear c46
    try clear c48
    try clear c49
    try clear c50
    try clear c51
    try clear c53
    try clear c54
    try clear c55
    try clear c56
    try clear c58
    try clear c59
    try clear c61
    try clear c62
    try clear c63
    try clear p64
    try clear c65
    try clear c66
    try clear hcz11_0
    try clear hcz11_1
    try clear hcz11_2
    try clear hcz11_3
    try clear hcz13_0
    try clear hcz13_1
    try clear hcz13_2
    try clear hcz13_3
    try clear hcz25_0
    try clear hcz25_1
    try clear hcz25_2
    try clear hcz25_3
    try clear hcz27_0
    try clear hcz27_1
    try clear hcz27_2
    try clear hcz27_3
    try clear hcz42_0
    try clear hcz42_1
    try clear hcz42_2
    try clear hcz42_3
    try clear hcz47_0
    try clear hcz47_1
    try clear hcz47_2
    try clear hcz47_3
    try clear hcz52_0
    try clear hcz52_1
    try clear hcz52_2
    try clear hcz52_3
    try clear hcz57_0
    try clear hcz57_1
    try clear hcz57_2
    try clear hcz57_3
    try clear hcz60_0
    try clear hcz60_1
    try clear hcz60_2
    try clear hcz60_3
    try clear hcz64_0
    try clear hcz64_1
    try clear hcz64_2
    try clear hcz64_3
    try clear hcz67_0
    try clear hcz67_1
    try clear hcz67_2
    try clear hcz67_3
    try clear hfz11_0
    try clear hfz11_1
    try clear hfz11_2
    try clear hfz11_3
    try clear hfz13_0
    try clear hfz13_1
    try clear hfz13_2
    try clear hfz13_3
    try clear hfz25_0
    try clear hfz25_1
    try clear hfz25_2
    try clear hfz25_3
    try clear hfz27_0
    try clear hfz27_1
    try clear hfz27_2
    try clear hfz27_3
    try clear hfz42_0
    try clear hfz42_1
    try clear hfz42_2
    try clear hfz42_3
    try clear hfz47_0
    try clear hfz47_1
    try clear hfz47_2
    try clear hfz47_3
    try clear hfz52_0
    try clear hfz52_1
    try clear hfz52_2
    try clear hfz52_3
    try clear hfz57_0
    try clear hfz57_1
    try clear hfz57_2
    try clear hfz57_3
    try clear hfz60_0
    try clear hfz60_1
    try clear hfz60_2
    try clear hfz60_3
    try clear hfz64_0
    try clear hfz64_1
    try clear hfz64_2
    try clear hfz64_3
    try clear hfz67_0
    try clear hfz67_1
    try clear hfz67_2
    try clear hfz67_3
    try clear hx151_0
    try clear p151
    try clear p2
    try clear q1
    try clear q15
    try clear q150
    try clear q151
    obtain ⟨kq, x53_38, rfl, HA, HJ38, BK146, BK147, BK148, BK153, HB⟩ := hcut
    cases kq with
    | zero => exact absurd HA.out (by simp [interval_Widen.j1])
    | succ kj38 =>
     have H := HA.out
     clear HA
     simp only [interval_Widen.j1] at H
     have HC68 := am H
     clear H
     go_upto_if 53 with (fail)
     go_cut [] (fun wc => ∃ (kq : Nat) (x154000_67 : Bool) (x154002_67 : Int), Aside0 (interval_Widen.j3 kq l2 a0_0 a0_1 a0_2 a0_3 a1_0 a1_1 a1_2 a1_3 x154000_67 a0_1 x154002_67 a0_3 = some (r1, r2, r3, r4, r5)) ∧ Aside0 (kq ≤ kj38) ∧ Aside0 (wc.heap[gb146]? = some (.cells #[.bool a0_0, .bool a0_1, .int .i64 a0_2, .int .i64 a0_3] 23 (0, 0))) ∧ Aside0 (wc.heap[gb147]? = some (.cells #[.bool a1_0, .bool a1_1, .int .i64 a1_2, .int .i64 a1_3] 23 (0, 0))) ∧ Aside0 (wc.heap[gb148]? = some (.cells #[.bool x149000_1, .bool x149001_1, .int .i64 x149002_1, .int .i64 x149003_1] 23 (0, 0))) ∧ Aside0 (wc.heap[gb153]? = some (.cells #[.bool x154000_67, .bool a0_1, .int .i64 x154002_67, .int .i64 a0_3] 23 (0, 0))) ∧ Aside0 (Below w.heap.size w wc))
     case first =>
      have H := HC68.out
      clear HC68
      by_cases c69 : x53_38 = true
      ·subst c69
       have H1 : (interval_Widen.l1 kj38 l2 l2 (l2.length : Int) 0 a0_0 a0_1 a0_2 a0_3 a1_0 a1_1 a1_2 a1_3 true a0_1 0 a0_3) = some (r1, r2, r3, r4, r5) := by rw [if_pos rfl] at H; exact H
       clear H
       have H := H1
       clear H1
       have H' := am H
       clear H
       have hnb70 := NB153_146.out
       have hnc70 := NB146_153.out
       have hnb71 := NB153_147.out
       have hnc71 := NB147_153.out
       have hnb72 := NB153_148.out
       have hnc72 := NB148_153.out
       have hcz73_0 : wc.cell? ⟨gb153, 0, none⟩ = some (.bool a0_0) := bc BK153 0
       have hcz73_1 : wc.cell? ⟨gb153, 1, none⟩ = some (.bool a0_1) := bc BK153 1
       have hcz73_2 : wc.cell? ⟨gb153, 2, none⟩ = some (.int .i64 a0_2) := bc BK153 2
       have hcz73_3 : wc.cell? ⟨gb153, 3, none⟩ = some (.int .i64 a0_3) := bc BK153 3
       have hfz73_0 := blk_frozen BK153.out 0
       have hfz73_1 := blk_frozen BK153.out 1
       have hfz73_2 := blk_frozen BK153.out 2
       have hfz73_3 := blk_frozen BK153.out 3
       go_wp2
       go_loopg [58] kj38 (fun kq v58 w' => ∃ (x58_3 : Int) (x154000_3 : Bool) (x154002_3 : Int), v58 = .int .i64 x58_3 ∧ Aside0 (interval_Widen.l1 kq l2 l2 (l2.length : Int) x58_3 a0_0 a0_1 a0_2 a0_3 a1_0 a1_1 a1_2 a1_3 x154000_3 a0_1 x154002_3 a0_3 = some (r1, r2, r3, r4, r5)) ∧ Aside0 (kq ≤ kj38) ∧ Aside0 (w'.heap[gb146]? = some (.cells #[.bool a0_0, .bool a0_1, .int .i64 a0_2, .int .i64 a0_3] 23 (0, 0))) ∧ Aside0 (w'.heap[gb147]? = some (.cells #[.bool a1_0, .bool a1_1, .int .i64 a1_2, .int .i64 a1_3] 23 (0, 0))) ∧ Aside0 (w'.heap[gb148]? = some (.cells #[.bool x149000_1, .bool x149001_1, .int .i64 x149002_1, .int .i64 x149003_1] 23 (0, 0))) ∧ Aside0 (w'.heap[gb153]? = some (.cells #[.bool x154000_3, .bool a0_1, .int .i64 x154002_3, .int .i64 a0_3] 23 (0, 0))) ∧ Aside0 (Below w.heap.size w w'))
       case atStart => exact ⟨(0), (true), (0), pr, H', ⟨Nat.le_refl _⟩, ⟨by (with_reducible repeat (first | refine blk_drewN ?_ _ | refine blk_drew ?_ | refine blk_alloc ?_ _)); refine blk_far ?_ NB146_153.out _; (with_reducible repeat (first | refine blk_drewN ?_ _ | refine blk_drew ?_ | refine blk_alloc ?_ _)); refine blk_far ?_ NB146_153.out _; (with_reducible repeat (first | refine blk_drewN ?_ _ | refine blk_drew ?_ | refine blk_alloc ?_ _)); exact BK146.out⟩, ⟨by (with_reducible repeat (first | refine blk_drewN ?_ _ | refine blk_drew ?_ | refine blk_alloc ?_ _)); refine blk_far ?_ NB147_153.out _; (with_reducible repeat (first | refine blk_drewN ?_ _ | refine blk_drew ?_ | refine blk_alloc ?_ _)); refine blk_far ?_ NB147_153.out _; (with_reducible repeat (first | refine blk_drewN ?_ _ | refine blk_drew ?_ | refine blk_alloc ?_ _)); exact BK147.out⟩, ⟨by (with_reducible repeat (first | refine blk_drewN ?_ _ | refine blk_drew ?_ | refine blk_alloc ?_ _)); refine blk_far ?_ NB148_153.out _; (with_reducible repeat (first | refine blk_drewN ?_ _ | refine blk_drew ?_ | refine blk_alloc ?_ _)); refine blk_far ?_ NB148_153.out _; (with_reducible repeat (first | refine blk_drewN ?_ _ | refine blk_drew ?_ | refine blk_alloc ?_ _)); exact BK148.out⟩, ⟨by (with_reducible repeat (first | refine blk_drewN ?_ _ | refine blk_drew ?_ | refine blk_alloc ?_ _)); refine blk_put (cs := #[.bool true, .bool a0_1, .int .i64 a0_2, .int .i64 a0_3]) ?_ 2 _ rfl; (with_reducible repeat (first | refine blk_drewN ?_ _ | refine blk_drew ?_ | refine blk_alloc ?_ _)); refine blk_put (cs := #[.bool a0_0, .bool a0_1, .int .i64 a0_2, .int .i64 a0_3]) ?_ 0 _ rfl; (with_reducible repeat (first | refine blk_drewN ?_ _ | refine blk_drew ?_ | refine blk_alloc ?_ _)); exact BK153.out⟩, ⟨pw⟩⟩
       case round =>
        clear H'
        try clear c1
        try clear p1
        try clear q1
        try clear hx1
        try clear c2
        try clear p2
        try clear c3
        try clear c4
        try clear c5
        try clear c5b0
        try clear c5b1
        try clear c6
        try clear p6
        try clear c7
        try clear c9
        try clear c10
        try clear c12
        try clear p15
        try clear q15
        try clear hx15
        try clear c23
        try clear c24
        try clear c26
        try clear c29
        try clear c29b0
        try clear c30
        try clear c30b0
        try clear c31
        try clear c31b0
        try clear c33
        try clear c40
        try clear c41
        try clear c44
        try clear c45
        try clear c46
        try clear c48
        try clear c49
        try clear c50
        try clear c51
        try clear c53
        try clear c54
        try clear c55
        try clear c56
        try clear c58
        try clear c59
        try clear c61
        try clear c62
        try clear c63
        try clear p64
        try clear c65
        try clear c66
        try clear c69
        try clear c70
        try clear c71
        try clear c72
        try clear hcz11_0
        try clear hcz11_1
        try clear hcz11_2
        try clear hcz11_3
        try clear hcz13_0
        try clear hcz13_1
        try clear hcz13_2
        try clear hcz13_3
        try clear hcz25_0
        try clear hcz25_1
        try clear hcz25_2
        try clear hcz25_3
        try clear hcz27_0
        try clear hcz27_1
        try clear hcz27_2
        try clear hcz27_3
        try clear hcz42_0
        try clear hcz42_1
        try clear hcz42_2
        try clear hcz42_3
        try clear hcz47_0
        try clear hcz47_1
        try clear hcz47_2
        try clear hcz47_3
        try clear hcz52_0
        try clear hcz52_1
        try clear hcz52_2
        try clear hcz52_3
        try clear hcz57_0
        try clear hcz57_1
        try clear hcz57_2
        try clear hcz57_3
        try clear hcz60_0
        try clear hcz60_1
        try clear hcz60_2
        try clear hcz60_3
        try clear hcz64_0
        try clear hcz64_1
        try clear hcz64_2
        try clear hcz64_3
        try clear hcz67_0
        try clear hcz67_1
        try clear hcz67_2
        try clear hcz67_3
        try clear hcz73_0
        try clear hcz73_1
        try clear hcz73_2
        try clear hcz73_3
        try clear hfz11_0
        try clear hfz11_1
        try clear hfz11_2
        try clear hfz11_3
        try clear hfz13_0
        try clear hfz13_1
        try clear hfz13_2
        try clear hfz13_3
        try clear hfz25_0
        try clear hfz25_1
        try clear hfz25_2
        try clear hfz25_3
        try clear hfz27_0
        try clear hfz27_1
        try clear hfz27_2
        try clear hfz27_3
        try clear hfz42_0
        try clear hfz42_1
        try clear hfz42_2
        try clear hfz42_3
        try clear hfz47_0
        try clear hfz47_1
        try clear hfz47_2
        try clear hfz47_3
        try clear hfz52_0
        try clear hfz52_1
        try clear hfz52_2
        try clear hfz52_3
        try clear hfz57_0
        try clear hfz57_1
        try clear hfz57_2
        try clear hfz57_3
        try clear hfz60_0
        try clear hfz60_1
        try clear hfz60_2
        try clear hfz60_3
        try clear hfz64_0
        try clear hfz64_1
        try clear hfz64_2
        try clear hfz64_3
        try clear hfz67_0
        try clear hfz67_1
        try clear hfz67_2
        try clear hfz67_3
        try clear hfz73_0
        try clear hfz73_1
        try clear hfz73_2
        try clear hfz73_3
        try clear hx151_0
        try clear p1
        try clear p15
        try clear p151
        try clear p2
        try clear p6
        try clear p64
        try clear q1
        try clear q15
        try clear q150
        try clear q151
        obtain ⟨x58_3, x154000_3, x154002_3, rfl, HA, HK3, BK146, BK147, BK148, BK153, HB⟩ := hrel
        cases gk with
        | zero => exact absurd HA.out (by simp [interval_Widen.l1])
        | succ k3 =>
         have H := HA.out
         clear HA
         simp only [interval_Widen.l1] at H
         by_cases c74 : x58_3 < (l2.length : Int)
         ·rw [if_pos c74] at H
          have c74b0 : decide (x58_3 < (l2.length : Int)) = true := decide_eq_true c74
          clear c74
          (first | rw [c74b0] | (simp only [i64_w, i32_w]; rw [c74b0]) | skip)
          by_cases c75 : 0 ≤ x58_3
          ·rw [if_pos c75] at H
           have c75b0 : decide (0 ≤ x58_3) = true := decide_eq_true c75
           clear c75
           by_cases c76 : x58_3 < (l2.length : Int)
           ·rw [if_pos c76] at H
            have c76b0 : decide (x58_3 < (l2.length : Int)) = true := decide_eq_true c76
            clear c76
            by_cases c77 : a1_0 = true
            ·subst c77
             have H1 : (interval_Widen.l1 k3 l2 l2 (l2.length : Int) (wrap64 (x58_3 + 1)) a0_0 a0_1 a0_2 a0_3 true a1_1 a1_2 a1_3 x154000_3 a0_1 x154002_3 a0_3) = some (r1, r2, r3, r4, r5) := by rw [if_pos rfl] at H; exact H
             clear H
             have H := H1
             clear H1
             have H' := am H
             clear H
             have p154 : 0 ≤ (x58_3 : Int) := of_decide_eq_true (by first | (with_reducible assumption) | assumption)
             have q154 : x58_3 < (l2.length : Int) := of_decide_eq_true (by first | (with_reducible assumption) | assumption)
             obtain ⟨ad154, e154, hx154_0⟩ := Kd.at_int HR2.out x58_3 p154 q154
             cases e154
             replace hx154_0 := (HB.out.cell (World.block_lt_of_cell? w _ hx154_0)).trans hx154_0
             replace p154 := eq_true p154
             replace q154 := eq_true q154
             have hnb78 := NB147_146.out
             have hnc78 := NB146_147.out
             have hnb79 := NB147_148.out
             have hnc79 := NB148_147.out
             have hnb80 := NB147_153.out
             have hnc80 := NB153_147.out
             have hcz81_0 : wr.cell? ⟨gb147, 0, none⟩ = some (.bool true) := bc BK147 0
             have hcz81_1 : wr.cell? ⟨gb147, 1, none⟩ = some (.bool a1_1) := bc BK147 1
             have hcz81_2 : wr.cell? ⟨gb147, 2, none⟩ = some (.int .i64 a1_2) := bc BK147 2
             have hcz81_3 : wr.cell? ⟨gb147, 3, none⟩ = some (.int .i64 a1_3) := bc BK147 3
             have hfz81_0 := blk_frozen BK147.out 0
             have hfz81_1 := blk_frozen BK147.out 1
             have hfz81_2 := blk_frozen BK147.out 2
             have hfz81_3 := blk_frozen BK147.out 3
             go_wp2
             go_roundg k3
             case measure => have := HK1.out; have := HJ38.out; have := HK3.out; omega
             case rel => exact ⟨(wrap64 (x58_3 + 1)), (x154000_3), (x154002_3), pr, H', ⟨by have := HK1.out; have := HJ38.out; have := HK3.out; omega⟩, ⟨pk⟩, ⟨pk⟩, ⟨pk⟩, ⟨pk⟩, ⟨pw⟩⟩
            replace c77 := Bool.eq_false_iff.mpr c77
            subst c77
            have H1 : (if (rd l2 x58_3) ≤ a1_2 then (if x154000_3 = true then (interval_Widen.l1 k3 l2 l2 (l2.length : Int) (wrap64 (x58_3 + 1)) a0_0 a0_1 a0_2 a0_3 false a1_1 a1_2 a1_3 false a0_1 (rd l2 x58_3) a0_3) else (if (rd l2 x58_3) > x154002_3 then (interval_Widen.l1 k3 l2 l2 (l2.length : Int) (wrap64 (x58_3 + 1)) a0_0 a0_1 a0_2 a0_3 false a1_1 a1_2 a1_3 false a0_1 (rd l2 x58_3) a0_3) else (interval_Widen.l1 k3 l2 l2 (l2.length : Int) (wrap64 (x58_3 + 1)) a0_0 a0_1 a0_2 a0_3 false a1_1 a1_2 a1_3 x154000_3 a0_1 x154002_3 a0_3))) else (interval_Widen.l1 k3 l2 l2 (l2.length : Int) (wrap64 (x58_3 + 1)) a0_0 a0_1 a0_2 a0_3 false a1_1 a1_2 a1_3 x154000_3 a0_1 x154002_3 a0_3)) = some (r1, r2, r3, r4, r5) := by rw [if_neg (show ¬ (false = true) by decide)] at H; exact H
            clear H
            have H := H1
            clear H1
            by_cases c82 : (rd l2 x58_3) ≤ a1_2
            ·rw [if_pos c82] at H
             have c82b0 : decide ((rd l2 x58_3) ≤ a1_2) = true := decide_eq_true c82
             clear c82
             by_cases c83 : x154000_3 = true
             ·subst c83
              have H1 : (interval_Widen.l1 k3 l2 l2 (l2.length : Int) (wrap64 (x58_3 + 1)) a0_0 a0_1 a0_2 a0_3 false a1_1 a1_2 a1_3 false a0_1 (rd l2 x58_3) a0_3) = some (r1, r2, r3, r4, r5) := by rw [if_pos rfl] at H; exact H
              clear H
              have H := H1
              clear H1
              have H' := am H
              clear H
              have p154 : 0 ≤ (x58_3 : Int) := of_decide_eq_true (by first | (with_reducible assumption) | assumption)
              have q154 : x58_3 < (l2.length : Int) := of_decide_eq_true (by first | (with_reducible assumption) | assumption)
              obtain ⟨ad154, e154, hx154_0⟩ := Kd.at_int HR2.out x58_3 p154 q154
              cases e154
              replace hx154_0 := (HB.out.cell (World.block_lt_of_cell? w _ hx154_0)).trans hx154_0
              replace p154 := eq_true p154
              replace q154 := eq_true q154
              have hnb84 := NB147_146.out
              have hnc84 := NB146_147.out
              have hnb85 := NB147_148.out
              have hnc85 := NB148_147.out
              have hnb86 := NB147_153.out
              have hnc86 := NB153_147.out
              have hcz87_0 : wr.cell? ⟨gb147, 0, none⟩ = some (.bool false) := bc BK147 0
              have hcz87_1 : wr.cell? ⟨gb147, 1, none⟩ = some (.bool a1_1) := bc BK147 1
              have hcz87_2 : wr.cell? ⟨gb147, 2, none⟩ = some (.int .i64 a1_2) := bc BK147 2
              have hcz87_3 : wr.cell? ⟨gb147, 3, none⟩ = some (.int .i64 a1_3) := bc BK147 3
              have hfz87_0 := blk_frozen BK147.out 0
              have hfz87_1 := blk_frozen BK147.out 1
              have hfz87_2 := blk_frozen BK147.out 2
              have hfz87_3 := blk_frozen BK147.out 3
              have hnb88 := NB153_146.out
              have hnc88 := NB146_153.out
              have hnb89 := NB153_148.out
              have hnc89 := NB148_153.out
              have hcz90_0 : wr.cell? ⟨gb153, 0, none⟩ = some (.bool true) := bc BK153 0
              have hcz90_1 : wr.cell? ⟨gb153, 1, none⟩ = some (.bool a0_1) := bc BK153 1
              have hcz90_2 : wr.cell? ⟨gb153, 2, none⟩ = some (.int .i64 x154002_3) := bc BK153 2
              have hcz90_3 : wr.cell? ⟨gb153, 3, none⟩ = some (.int .i64 a0_3) := bc BK153 3
              have hfz90_0 := blk_frozen BK153.out 0
              have hfz90_1 := blk_frozen BK153.out 1
              have hfz90_2 := blk_frozen BK153.out 2
              have hfz90_3 := blk_frozen BK153.out 3
              go_wp2
              go_roundg k3
              case measure => have := HK1.out; have := HJ38.out; have := HK3.out; omega
              case rel => exact ⟨(wrap64 (x58_3 + 1)), (false), (rd l2 x58_3), pr, H', ⟨by have := HK1.out; have := HJ38.out; have := HK3.out; omega⟩, ⟨by (with_reducible repeat (first | refine blk_drewN ?_ _ | refine blk_drew ?_ | refine blk_alloc ?_ _)); refine blk_far ?_ NB146_153.out _; (with_reducible repeat (first | refine blk_drewN ?_ _ | refine blk_drew ?_ | refine blk_alloc ?_ _)); refine blk_far ?_ NB146_153.out _; (with_reducible repeat (first | refine blk_drewN ?_ _ | refine blk_drew ?_ | refine blk_alloc ?_ _)); exact BK146.out⟩, ⟨by (with_reducible repeat (first | refine blk_drewN ?_ _ | refine blk_drew ?_ | refine blk_alloc ?_ _)); refine blk_far ?_ NB147_153.out _; (with_reducible repeat (first | refine blk_drewN ?_ _ | refine blk_drew ?_ | refine blk_alloc ?_ _)); refine blk_far ?_ NB147_153.out _; (with_reducible repeat (first | refine blk_drewN ?_ _ | refine blk_drew ?_ | refine blk_alloc ?_ _)); exact BK147.out⟩, ⟨by (with_reducible repeat (first | refine blk_drewN ?_ _ | refine blk_drew ?_ | refine blk_alloc ?_ _)); refine blk_far ?_ NB148_153.out _; (with_reducible repeat (first | refine blk_drewN ?_ _ | refine blk_drew ?_ | refine blk_alloc ?_ _)); refine blk_far ?_ NB148_153.out _; (with_reducible repeat (first | refine blk_drewN ?_ _ | refine blk_drew ?_ | refine blk_alloc ?_ _)); exact BK148.out⟩, ⟨by (with_reducible repeat (first | refine blk_drewN ?_ _ | refine blk_drew ?_ | refine blk_alloc ?_ _)); refine blk_put (cs := #[.bool false, .bool a0_1, .int .i64 x154002_3, .int .i64 a0_3]) ?_ 2 _ rfl; (with_reducible repeat (first | refine blk_drewN ?_ _ | refine blk_drew ?_ | refine blk_alloc ?_ _)); refine blk_put (cs := #[.bool true, .bool a0_1, .int .i64 x154002_3, .int .i64 a0_3]) ?_ 0 _ rfl; (with_reducible repeat (first | refine blk_drewN ?_ _ | refine blk_drew ?_ | refine blk_alloc ?_ _)); exact BK153.out⟩, ⟨pw⟩⟩
             replace c83 := Bool.eq_false_iff.mpr c83
             subst c83
             have H1 : (if (rd l2 x58_3) > x154002_3 then (interval_Widen.l1 k3 l2 l2 (l2.length : Int) (wrap64 (x58_3 + 1)) a0_0 a0_1 a0_2 a0_3 false a1_1 a1_2 a1_3 false a0_1 (rd l2 x58_3) a0_3) else (interval_Widen.l1 k3 l2 l2 (l2.length : Int) (wrap64 (x58_3 + 1)) a0_0 a0_1 a0_2 a0_3 false a1_1 a1_2 a1_3 false a0_1 x154002_3 a0_3)) = some (r1, r2, r3, r4, r5) := by rw [if_neg (show ¬ (false = true) by decide)] at H; exact H
             clear H
             have H := H1
             clear H1
             by_cases c91 : (rd l2 x58_3) > x154002_3
             ·rw [if_pos c91] at H
              have c91b0 : decide (x154002_3 < (rd l2 x58_3)) = true := decide_eq_true c91
              clear c91
              have H' := am H
              clear H
              have p154 : 0 ≤ (x58_3 : Int) := of_decide_eq_true (by first | (with_reducible assumption) | assumption)
              have q154 : x58_3 < (l2.length : Int) := of_decide_eq_true (by first | (with_reducible assumption) | assumption)
              obtain ⟨ad154, e154, hx154_0⟩ := Kd.at_int HR2.out x58_3 p154 q154
              cases e154
              replace hx154_0 := (HB.out.cell (World.block_lt_of_cell? w _ hx154_0)).trans hx154_0
              replace p154 := eq_true p154
              replace q154 := eq_true q154
              have hnb92 := NB147_146.out
              have hnc92 := NB146_147.out
              have hnb93 := NB147_148.out
              have hnc93 := NB148_147.out
              have hnb94 := NB147_153.out
              have hnc94 := NB153_147.out
              have hcz95_0 : wr.cell? ⟨gb147, 0, none⟩ = some (.bool false) := bc BK147 0
              have hcz95_1 : wr.cell? ⟨gb147, 1, none⟩ = some (.bool a1_1) := bc BK147 1
              have hcz95_2 : wr.cell? ⟨gb147, 2, none⟩ = some (.int .i64 a1_2) := bc BK147 2
              have hcz95_3 : wr.cell? ⟨gb147, 3, none⟩ = some (.int .i64 a1_3) := bc BK147 3
              have hfz95_0 := blk_frozen BK147.out 0
              have hfz95_1 := blk_frozen BK147.out 1
              have hfz95_2 := blk_frozen BK147.out 2
              have hfz95_3 := blk_frozen BK147.out 3
              have hnb96 := NB153_146.out
              have hnc96 := NB146_153.out
              have hnb97 := NB153_148.out
              have hnc97 := NB148_153.out
              have hcz98_0 : wr.cell? ⟨gb153, 0, none⟩ = some (.bool false) := bc BK153 0
              have hcz98_1 : wr.cell? ⟨gb153, 1, none⟩ = some (.bool a0_1) := bc BK153 1
              have hcz98_2 : wr.cell? ⟨gb153, 2, none⟩ = some (.int .i64 x154002_3) := bc BK153 2
              have hcz98_3 : wr.cell? ⟨gb153, 3, none⟩ = some (.int .i64 a0_3) := bc BK153 3
              have hfz98_0 := blk_frozen BK153.out 0
              have hfz98_1 := blk_frozen BK153.out 1
              have hfz98_2 := blk_frozen BK153.out 2
              have hfz98_3 := blk_frozen BK153.out 3
              go_wp2
              go_roundg k3
              case measure => have := HK1.out; have := HJ38.out; have := HK3.out; omega
              case rel => exact ⟨(wrap64 (x58_3 + 1)), (false), (rd l2 x58_3), pr, H', ⟨by have := HK1.out; have := HJ38.out; have := HK3.out; omega⟩, ⟨by (with_reducible repeat (first | refine blk_drewN ?_ _ | refine blk_drew ?_ | refine blk_alloc ?_ _)); refine blk_far ?_ NB146_153.out _; (with_reducible repeat (first | refine blk_drewN ?_ _ | refine blk_drew ?_ | refine blk_alloc ?_ _)); refine blk_far ?_ NB146_153.out _; (with_reducible repeat (first | refine blk_drewN ?_ _ | refine blk_drew ?_ | refine blk_alloc ?_ _)); exact BK146.out⟩, ⟨by (with_reducible repeat (first | refine blk_drewN ?_ _ | refine blk_drew ?_ | refine blk_alloc ?_ _)); refine blk_far ?_ NB147_153.out _; (with_reducible repeat (first | refine blk_drewN ?_ _ | refine blk_drew ?_ | refine blk_alloc ?_ _)); refine blk_far ?_ NB147_153.out _; (with_reducible repeat (first | refine blk_drewN ?_ _ | refine blk_drew ?_ | refine blk_alloc ?_ _)); exact BK147.out⟩, ⟨by (with_reducible repeat (first | refine blk_drewN ?_ _ | refine blk_drew ?_ | refine blk_alloc ?_ _)); refine blk_far ?_ NB148_153.out _; (with_reducible repeat (first | refine blk_drewN ?_ _ | refine blk_drew ?_ | refine blk_alloc ?_ _)); refine blk_far ?_ NB148_153.out _; (with_reducible repeat (first | refine blk_drewN ?_ _ | refine blk_drew ?_ | refine blk_alloc ?_ _)); exact BK148.out⟩, ⟨by (with_reducible repeat (first | refine blk_drewN ?_ _ | refine blk_drew ?_ | refine blk_alloc ?_ _)); refine blk_put (cs := #[.bool false, .bool a0_1, .int .i64 x154002_3, .int .i64 a0_3]) ?_ 2 _ rfl; (with_reducible repeat (first | refine blk_drewN ?_ _ | refine blk_drew ?_ | refine blk_alloc ?_ _)); refine blk_put (cs := #[.bool false, .bool a0_1, .int .i64 x154002_3, .int .i64 a0_3]) ?_ 0 _ rfl; (with_reducible repeat (first | refine blk_drewN ?_ _ | refine blk_drew ?_ | refine blk_alloc ?_ _)); exact BK153.out⟩, ⟨pw⟩⟩
             rw [if_neg c91] at H
             have c91b0 : decide (x154002_3 < (rd l2 x58_3)) = false := decide_eq_false c91
             clear c91
             have H' := am H
             clear H
             have p154 : 0 ≤ (x58_3 : Int) := of_decide_eq_true (by first | (with_reducible assumption) | assumption)
             have q154 : x58_3 < (l2.length : Int) := of_decide_eq_true (by first | (with_reducible assumption) | assumption)
             obtain ⟨ad154, e154, hx154_0⟩ := Kd.at_int HR2.out x58_3 p154 q154
             cases e154
             replace hx154_0 := (HB.out.cell (World.block_lt_of_cell? w _ hx154_0)).trans hx154_0
             replace p154 := eq_true p154
             replace q154 := eq_true q154
             have hnb99 := NB147_146.out
             have hnc99 := NB146_147.out
             have hnb100 := NB147_148.out
             have hnc100 := NB148_147.out
             have hnb101 := NB147_153.out
             have hnc101 := NB153_147.out
             have hcz102_0 : wr.cell? ⟨gb147, 0, none⟩ = some (.bool false) := bc BK147 0
             have hcz102_1 : wr.cell? ⟨gb147, 1, none⟩ = some (.bool a1_1) := bc BK147 1
             have hcz102_2 : wr.cell? ⟨gb147, 2, none⟩ = some (.int .i64 a1_2) := bc BK147 2
             have hcz102_3 : wr.cell? ⟨gb147, 3, none⟩ = some (.int .i64 a1_3) := bc BK147 3
             have hfz102_0 := blk_frozen BK147.out 0
             have hfz102_1 := blk_frozen BK147.out 1
             have hfz102_2 := blk_frozen BK147.out 2
             have hfz102_3 := blk_frozen BK147.out 3
             have hnb103 := NB153_146.out
             have hnc103 := NB146_153.out
             have hnb104 := NB153_148.out
             have hnc104 := NB148_153.out
             have hcz105_0 : wr.cell? ⟨gb153, 0, none⟩ = some (.bool false) := bc BK153 0
             have hcz105_1 : wr.cell? ⟨gb153, 1, none⟩ = some (.bool a0_1) := bc BK153 1
             have hcz105_2 : wr.cell? ⟨gb153, 2, none⟩ = some (.int .i64 x154002_3) := bc BK153 2
             have hcz105_3 : wr.cell? ⟨gb153, 3, none⟩ = some (.int .i64 a0_3) := bc BK153 3
             have hfz105_0 := blk_frozen BK153.out 0
             have hfz105_1 := blk_frozen BK153.out 1
             have hfz105_2 := blk_frozen BK153.out 2
             have hfz105_3 := blk_frozen BK153.out 3
             go_wp2
             go_roundg k3
             case measure => have := HK1.out; have := HJ38.out; have := HK3.out; omega
             case rel => exact ⟨(wrap64 (x58_3 + 1)), (false), (x154002_3), pr, H', ⟨by have := HK1.out; have := HJ38.out; have := HK3.out; omega⟩, ⟨pk⟩, ⟨pk⟩, ⟨pk⟩, ⟨pk⟩, ⟨pw⟩⟩
            rw [if_neg c82] at H
            have c82b0 : decide ((rd l2 x58_3) ≤ a1_2) = false := decide_eq_false c82
            clear c82
            have H' := am H
            clear H
            have p154 : 0 ≤ (x58_3 : Int) := of_decide_eq_true (by first | (with_reducible assumption) | assumption)
            have q154 : x58_3 < (l2.length : Int) := of_decide_eq_true (by first | (with_reducible assumption) | assumption)
            obtain ⟨ad154, e154, hx154_0⟩ := Kd.at_int HR2.out x58_3 p154 q154
            cases e154
            replace hx154_0 := (HB.out.cell (World.block_lt_of_cell? w _ hx154_0)).trans hx154_0
            replace p154 := eq_true p154
            replace q154 := eq_true q154
            have hnb106 := NB147_146.out
            have hnc106 := NB146_147.out
            have hnb107 := NB147_148.out
            have hnc107 := NB148_147.out
            have hnb108 := NB147_153.out
            have hnc108 := NB153_147.out
            have hcz109_0 : wr.cell? ⟨gb147, 0, none⟩ = some (.bool false) := bc BK147 0
            have hcz109_1 : wr.cell? ⟨gb147, 1, none⟩ = some (.bool a1_1) := bc BK147 1
            have hcz109_2 : wr.cell? ⟨gb147, 2, none⟩ = some (.int .i64 a1_2) := bc BK147 2
            have hcz109_3 : wr.cell? ⟨gb147, 3, none⟩ = some (.int .i64 a1_3) := bc BK147 3
            have hfz109_0 := blk_frozen BK147.out 0
            have hfz109_1 := blk_frozen BK147.out 1
            have hfz109_2 := blk_frozen BK147.out 2
            have hfz109_3 := blk_frozen BK147.out 3
            go_wp2
            go_roundg k3
            case measure => have := HK1.out; have := HJ38.out; have := HK3.out; omega
            case rel => exact ⟨(wrap64 (x58_3 + 1)), (x154000_3), (x154002_3), pr, H', ⟨by have := HK1.out; have := HJ38.out; have := HK3.out; omega⟩, ⟨pk⟩, ⟨pk⟩, ⟨pk⟩, ⟨pk⟩, ⟨pw⟩⟩
           rw [if_neg c76] at H
           exact absurd H (by simp)
          rw [if_neg c75] at H
          exact absurd H (by simp)
         rw [if_neg c74] at H
         have c74b0 : decide (x58_3 < (l2.length : Int)) = false := decide_eq_false c74
         clear c74
         (first | rw [c74b0] | (simp only [i64_w, i32_w]; rw [c74b0]) | skip)
         have H' := am H
         clear H
         go_wp2
         go_meet
         case rel => exact ⟨_, (x154000_3), (x154002_3), H', ⟨by have := HK1.out; have := HJ38.out; have := HK3.out; first | omega | exact Nat.le_refl _⟩, ⟨pk⟩, ⟨pk⟩, ⟨pk⟩, ⟨pk⟩, ⟨pw⟩⟩
      replace c69 := Bool.eq_false_iff.mpr c69
      subst c69
      have H1 : (interval_Widen.j3 kj38 l2 a0_0 a0_1 a0_2 a0_3 a1_0 a1_1 a1_2 a1_3 a0_0 a0_1 a0_2 a0_3) = some (r1, r2, r3, r4, r5) := by rw [if_neg (show ¬ (false = true) by decide)] at H; exact H
      clear H
      have H := H1
      clear H1
      have H' := am H
      clear H
      go_wp2
      go_meet
      case rel => exact ⟨_, (a0_0), (a0_2), H', ⟨by have := HK1.out; have := HJ38.out; first | omega | exact Nat.le_refl _⟩, ⟨pk⟩, ⟨pk⟩, ⟨pk⟩, ⟨pk⟩, ⟨pw⟩⟩
     clear HC68
     try clear c1
     try clear p1
     try clear q1
     try clear hx1
     try clear c2
     try clear p2
     try clear c3
     try clear c4
     try clear c5
     try clear c5b0
     try clear c5b1
     try clear c6
     try clear p6
     try clear c7
     try clear c8
     try clear c9
     try clear c10
     try clear c12
     try clear p15
     try clear q15
     try clear hx15
     try clear c23
     try clear c24
     try clear c26
     try clear c29
     try clear c29b0
     try clear c30
     try clear c30b0
     try clear c31
     try clear c31b0
     try clear c33
     try clear c40
     try clear c41
     try clear c44
     try clear c45
     try clear c46
     try clear c48
     try clear c49
     try clear c50
     try clear c51
     try clear c53
     try clear c54
     try clear c55
     try clear c56
     try clear c58
     try clear c59
     try clear c61
     try clear c62
     try clear c63
     try clear p64
     try clear c65
     try clear c66
     try clear c69
     try clear c70
     try clear c71
     try clear c72
     try clear c74
     try clear c74b0
     try clear c75
     try clear c75b0
     try clear c76
     try clear c76b0
     try clear c77
     try clear c78
     try clear c79
     try clear c80
     try clear c82
     try clear c82b0
     try clear c83
     try clear c84
     try clear c85
     try clear c86
     try clear c88
     try clear c89
     try clear c91
     try clear c91b0
     try clear c92
     try clear c93
     try clear c94
     try clear c96
     try clear c97
     try clear c99
     try clear c100
     try clear c101
     try clear c103
     try clear c104
     try clear c106
     try clear c107
     try clear c108
     try clear hcz102_0
     try clear hcz102_1
     try clear hcz102_2
     try clear hcz102_3
     try clear hcz105_0
     try clear hcz105_1
     try clear hcz105_2
     try clear hcz105_3
     try clear hcz109_0
     try clear hcz109_1
     try clear hcz109_2
     try clear hcz109_3
     try clear hcz11_0
     try clear hcz11_1
     try clear hcz11_2
     try clear hcz11_3
     try clear hcz13_0
     try clear hcz13_1
     try clear hcz13_2
     try clear hcz13_3
     try clear hcz25_0
     try clear hcz25_1
     try clear hcz25_2
     try clear hcz25_3
     try clear hcz27_0
     try clear hcz27_1
     try clear hcz27_2
     try clear hcz27_3
     try clear hcz42_0
     try clear hcz42_1
     try clear hcz42_2
     try clear hcz42_3
     try clear hcz47_0
     try clear hcz47_1
     try clear hcz47_2
     try clear hcz47_3
     try clear hcz52_0
     try clear hcz52_1
     try clear hcz52_2
     try clear hcz52_3
     try clear hcz57_0
     try clear hcz57_1
     try clear hcz57_2
     try clear hcz57_3
     try clear hcz60_0
     try clear hcz60_1
     try clear hcz60_2
     try clear hcz60_3
     try clear hcz64_0
     try clear hcz64_1
     try clear hcz64_2
     try clear hcz64_3
     try clear hcz67_0
     try clear hcz67_1
     try clear hcz67_2
     try clear hcz67_3
     try clear hcz73_0
     try clear hcz73_1
     try clear hcz73_2
     try clear hcz73_3
     try clear hcz81_0
     try clear hcz81_1
     try clear hcz81_2
     try clear hcz81_3
     try clear hcz87_0
     try clear hcz87_1
     try clear hcz87_2
     try clear hcz87_3
     try clear hcz90_0
     try clear hcz90_1
     try clear hcz90_2
     try clear hcz90_3
     try clear hcz95_0
     try clear hcz95_1
     try clear hcz95_2
     try clear hcz95_3
     try clear hcz98_0
     try clear hcz98_1
     try clear hcz98_2
     try clear hcz98_3
     try clear hfz102_0
     try clear hfz102_1
     try clear hfz102_2
     try clear hfz102_3
     try clear hfz105_0
     try clear hfz105_1
     try clear hfz105_2
     try clear hfz105_3
     try clear hfz109_0
     try clear hfz109_1
     try clear hfz109_2
     try clear hfz109_3
     try clear hfz11_0
     try clear hfz11_1
     try clear hfz11_2
     try clear hfz11_3
     try clear hfz13_0
     try clear hfz13_1
     try clear hfz13_2
     try clear hfz13_3
     try clear hfz25_0
     try clear hfz25_1
     try clear hfz25_2
     try clear hfz25_3
     try clear hfz27_0
     try clear hfz27_1
     try clear hfz27_2
     try clear hfz27_3
     try clear hfz42_0
     try clear hfz42_1
     try clear hfz42_2
     try clear hfz42_3
     try clear hfz47_0
     try clear hfz47_1
     try clear hfz47_2
     try clear hfz47_3
     try clear hfz52_0
     try clear hfz52_1
     try clear hfz52_2
     try clear hfz52_3
     try clear hfz57_0
     try clear hfz57_1
     try clear hfz57_2
     try clear hfz57_3
     try clear hfz60_0
     try clear hfz60_1
     try clear hfz60_2
     try clear hfz60_3
     try clear hfz64_0
     try clear hfz64_1
     try clear hfz64_2
     try clear hfz64_3
     try clear hfz67_0
     try clear hfz67_1
     try clear hfz67_2
     try clear hfz67_3
     try clear hfz73_0
     try clear hfz73_1
     try clear hfz73_2
     try clear hfz73_3
     try clear hfz81_0
     try clear hfz81_1
     try clear hfz81_2
     try clear hfz81_3
     try clear hfz87_0
     try clear hfz87_1
     try clear hfz87_2
     try clear hfz87_3
     try clear hfz90_0
     try clear hfz90_1
     try clear hfz90_2
     try clear hfz90_3
     try clear hfz95_0
     try clear hfz95_1
     try clear hfz95_2
     try clear hfz95_3
     try clear hfz98_0
     try clear hfz98_1
     try clear hfz98_2
     try clear hfz98_3
     try clear hx151_0
     try clear hx154_0
     try clear p1
     try clear p15
     try clear p151
     try clear p154
     try clear p2
     try clear p6
     try clear p64
     try clear q1
     try clear q15
     try clear q150
     try clear q151
     try clear q154
     obtain ⟨kq, x154000_67, x154002_67, HA, HJ67, BK146, BK147, BK148, BK153, HB⟩ := hcut
     cases kq with
     | zero => exact absurd HA.out (by simp [interval_Widen.j3])
     | succ kj67 =>
      have H := HA.out
      clear HA
      simp only [interval_Widen.j3] at H
      have HC110 := am H
      clear H
      go_upto_region 21 with (fail)
      go_cut [98] (fun v98 wc => ∃ (kq : Nat) (x98_109 : Bool), v98 = .bool x98_109 ∧ Aside0 (interval_Widen.j4 kq l2 x98_109 a1_0 a1_1 a1_2 a1_3 x154000_67 a0_1 x154002_67 a0_3 = some (r1, r2, r3, r4, r5)) ∧ Aside0 (kq ≤ kj67) ∧ Aside0 (wc.heap[gb146]? = some (.cells #[.bool a0_0, .bool a0_1, .int .i64 a0_2, .int .i64 a0_3] 23 (0, 0))) ∧ Aside0 (wc.heap[gb147]? = some (.cells #[.bool a1_0, .bool a1_1, .int .i64 a1_2, .int .i64 a1_3] 23 (0, 0))) ∧ Aside0 (wc.heap[gb148]? = some (.cells #[.bool x149000_1, .bool x149001_1, .int .i64 x149002_1, .int .i64 x149003_1] 23 (0, 0))) ∧ Aside0 (wc.heap[gb153]? = some (.cells #[.bool x154000_67, .bool a0_1, .int .i64 x154002_67, .int .i64 a0_3] 23 (0, 0))) ∧ Aside0 (Below w.heap.size w wc))
      case first =>
       have H := HC110.out
       clear HC110
       by_cases c111 : a0_1 = true
       ·subst c111
        have H1 : (interval_Widen.j4 kj67 l2 false a1_0 a1_1 a1_2 a1_3 x154000_67 true x154002_67 a0_3) = some (r1, r2, r3, r4, r5) := by rw [if_pos rfl] at H; exact H
        clear H
        have H := H1
        clear H1
        have H' := am H
        clear H
        have hnb112 := NB146_147.out
        have hnc112 := NB147_146.out
        have hnb113 := NB146_148.out
        have hnc113 := NB148_146.out
        have hnb114 := NB146_153.out
        have hnc114 := NB153_146.out
        have hcz115_0 : wc.cell? ⟨gb146, 0, none⟩ = some (.bool a0_0) := bc BK146 0
        have hcz115_1 : wc.cell? ⟨gb146, 1, none⟩ = some (.bool true) := bc BK146 1
        have hcz115_2 : wc.cell? ⟨gb146, 2, none⟩ = some (.int .i64 a0_2) := bc BK146 2
        have hcz115_3 : wc.cell? ⟨gb146, 3, none⟩ = some (.int .i64 a0_3) := bc BK146 3
        have hfz115_0 := blk_frozen BK146.out 0
        have hfz115_1 := blk_frozen BK146.out 1
        have hfz115_2 := blk_frozen BK146.out 2
        have hfz115_3 := blk_frozen BK146.out 3
        go_wp2
        go_meet
        case rel => exact ⟨_, (false), pr, H', ⟨by have := HK1.out; have := HJ38.out; have := HJ67.out; first | omega | exact Nat.le_refl _⟩, ⟨pk⟩, ⟨pk⟩, ⟨pk⟩, ⟨pk⟩, ⟨pw⟩⟩
       replace c111 := Bool.eq_false_iff.mpr c111
       subst c111
       have H1 : (if a1_1 = true then (interval_Widen.j4 kj67 l2 true a1_0 a1_1 a1_2 a1_3 x154000_67 false x154002_67 a0_3) else (interval_Widen.j4 kj67 l2 (decide (a1_3 > a0_3)) a1_0 a1_1 a1_2 a1_3 x154000_67 false x154002_67 a0_3)) = some (r1, r2, r3, r4, r5) := by rw [if_neg (show ¬ (false = true) by decide)] at H; exact H
       clear H
       have H := H1
       clear H1
       by_cases c116 : a1_1 = true
       ·subst c116
        have H1 : (interval_Widen.j4 kj67 l2 true a1_0 true a1_2 a1_3 x154000_67 false x154002_67 a0_3) = some (r1, r2, r3, r4, r5) := by rw [if_pos rfl] at H; exact H
        clear H
        have H := H1
        clear H1
        have H' := am H
        clear H
        have hnb117 := NB146_147.out
        have hnc117 := NB147_146.out
        have hnb118 := NB146_148.out
        have hnc118 := NB148_146.out
        have hnb119 := NB146_153.out
        have hnc119 := NB153_146.out
        have hcz120_0 : wc.cell? ⟨gb146, 0, none⟩ = some (.bool a0_0) := bc BK146 0
        have hcz120_1 : wc.cell? ⟨gb146, 1, none⟩ = some (.bool false) := bc BK146 1
        have hcz120_2 : wc.cell? ⟨gb146, 2, none⟩ = some (.int .i64 a0_2) := bc BK146 2
        have hcz120_3 : wc.cell? ⟨gb146, 3, none⟩ = some (.int .i64 a0_3) := bc BK146 3
        have hfz120_0 := blk_frozen BK146.out 0
        have hfz120_1 := blk_frozen BK146.out 1
        have hfz120_2 := blk_frozen BK146.out 2
        have hfz120_3 := blk_frozen BK146.out 3
        have hnb121 := NB147_148.out
        have hnc121 := NB148_147.out
        have hnb122 := NB147_153.out
        have hnc122 := NB153_147.out
        have hcz123_0 : wc.cell? ⟨gb147, 0, none⟩ = some (.bool a1_0) := bc BK147 0
        have hcz123_1 : wc.cell? ⟨gb147, 1, none⟩ = some (.bool true) := bc BK147 1
        have hcz123_2 : wc.cell? ⟨gb147, 2, none⟩ = some (.int .i64 a1_2) := bc BK147 2
        have hcz123_3 : wc.cell? ⟨gb147, 3, none⟩ = some (.int .i64 a1_3) := bc BK147 3
        have hfz123_0 := blk_frozen BK147.out 0
        have hfz123_1 := blk_frozen BK147.out 1
        have hfz123_2 := blk_frozen BK147.out 2
        have hfz123_3 := blk_frozen BK147.out 3
        go_wp2
        go_meet
        case rel => exact ⟨_, (true), pr, H', ⟨by have := HK1.out; have := HJ38.out; have := HJ67.out; first | omega | exact Nat.le_refl _⟩, ⟨pk⟩, ⟨pk⟩, ⟨pk⟩, ⟨pk⟩, ⟨pw⟩⟩
       replace c116 := Bool.eq_false_iff.mpr c116
       subst c116
       have H1 : (interval_Widen.j4 kj67 l2 (decide (a1_3 > a0_3)) a1_0 false a1_2 a1_3 x154000_67 false x154002_67 a0_3) = some (r1, r2, r3, r4, r5) := by rw [if_neg (show ¬ (false = true) by decide)] at H; exact H
       clear H
       have H := H1
       clear H1
       have H' := am H
       clear H
       have hnb124 := NB146_147.out
       have hnc124 := NB147_146.out
       have hnb125 := NB146_148.out
       have hnc125 := NB148_146.out
       have hnb126 := NB146_153.out
       have hnc126 := NB153_146.out
       have hcz127_0 : wc.cell? ⟨gb146, 0, none⟩ = some (.bool a0_0) := bc BK146 0
       have hcz127_1 : wc.cell? ⟨gb146, 1, none⟩ = some (.bool false) := bc BK146 1
       have hcz127_2 : wc.cell? ⟨gb146, 2, none⟩ = some (.int .i64 a0_2) := bc BK146 2
       have hcz127_3 : wc.cell? ⟨gb146, 3, none⟩ = some (.int .i64 a0_3) := bc BK146 3
       have hfz127_0 := blk_frozen BK146.out 0
       have hfz127_1 := blk_frozen BK146.out 1
       have hfz127_2 := blk_frozen BK146.out 2
       have hfz127_3 := blk_frozen BK146.out 3
       have hnb128 := NB147_148.out
       have hnc128 := NB148_147.out
       have hnb129 := NB147_153.out
       have hnc129 := NB153_147.out
       have hcz130_0 : wc.cell? ⟨gb147, 0, none⟩ = some (.bool a1_0) := bc BK147 0
       have hcz130_1 : wc.cell? ⟨gb147, 1, none⟩ = some (.bool false) := bc BK147 1
       have hcz130_2 : wc.cell? ⟨gb147, 2, none⟩ = some (.int .i64 a1_2) := bc BK147 2
       have hcz130_3 : wc.cell? ⟨gb147, 3, none⟩ = some (.int .i64 a1_3) := bc BK147 3
       have hfz130_0 := blk_frozen BK147.out 0
       have hfz130_1 := blk_frozen BK147.out 1
       have hfz130_2 := blk_frozen BK147.out 2
       have hfz130_3 := blk_frozen BK147.out 3
       go_wp2
       go_meet
       case rel => exact ⟨_, (decide (a1_3 > a0_3)), pr, H', ⟨by have := HK1.out; have := HJ38.out; have := HJ67.out; first | omega | exact Nat.le_refl _⟩, ⟨pk⟩, ⟨pk⟩, ⟨pk⟩, ⟨pk⟩, ⟨pw⟩⟩
      clear HC110
      try clear c1
      try clear p1
      try clear q1
      try clear hx1
      try clear c2
      try clear p2
      try clear c3
      try clear c4
      try clear c5
      try clear c5b0
      try clear c5b1
      try clear c6
      try clear p6
      try clear c7
      try clear c8
      try clear c9
      try clear c10
      try clear c11
      try clear c12
      try clear p15
      try clear q15
      try clear hx15
      try clear c23
      try clear c24
      try clear c26
      try clear c29
      try clear c29b0
      try clear c30
      try clear c30b0
      try clear c31
      try clear c31b0
      try clear c33
      try clear c40
      try clear c41
      try clear c44
      try clear c45
      try clear c46
      try clear c48
      try clear c49
      try clear c50
      try clear c51
      try clear c53
      try clear c54
      try clear c55
      try clear c56
      try clear c58
      try clear c59
      try clear c61
      try clear c62
      try clear c63
      try clear p64
      try clear c65
      try clear c66
      try clear c69
      try clear c70
      try clear c71
      try clear c72
      try clear c74
      try clear c74b0
      try clear c75
      try clear c75b0
      try clear c76
      try clear c76b0
      try clear c77
      try clear c78
      try clear c79
      try clear c80
      try clear c82
      try clear c82b0
      try clear c83
      try clear c84
      try clear c85
      try clear c86
      try clear c88
      try clear c89
      try clear c91
      try clear c91b0
      try clear c92
      try clear c93
      try clear c94
      try clear c96
      try clear c97
      try clear c99
      try clear c100
      try clear c101
      try clear c103
      try clear c104
      try clear c106
      try clear c107
      try clear c108
      try clear c111
      try clear c112
      try clear c113
      try clear c114
      try clear c116
      try clear c117
      try clear c118
      try clear c119
      try clear c121
      try clear c122
      try clear c124
      try clear c125
      try clear c126
      try clear c128
      try clear c129
      try clear hcz102_0
      try clear hcz102_1
      try clear hcz102_2
      try clear hcz102_3
      try clear hcz105_0
      try clear hcz105_1
      try clear hcz105_2
      try clear hcz105_3
      try clear hcz109_0
      try clear hcz109_1
      try clear hcz109_2
      try clear hcz109_3
      try clear hcz115_0
      try clear hcz115_1
      try clear hcz115_2
      try clear hcz115_3
      try clear hcz11_0
      try clear hcz11_1
      try clear hcz11_2
      try clear hcz11_3
      try clear hcz120_0
      try clear hcz120_1
      try clear hcz120_2
      try clear hcz120_3
      try clear hcz123_0
      try clear hcz123_1
      try clear hcz123_2
      try clear hcz123_3
      try clear hcz127_0
      try clear hcz127_1
      try clear hcz127_2
      try clear hcz127_3
      try clear hcz130_0
      try clear hcz130_1
      try clear hcz130_2
      try clear hcz130_3
      try clear hcz13_0
      try clear hcz13_1
      try clear hcz13_2
      try clear hcz13_3
      try clear hcz25_0
      try clear hcz25_1
      try clear hcz25_2
      try clear hcz25_3
      try clear hcz27_0
      try clear hcz27_1
      try clear hcz27_2
      try clear hcz27_3
      try clear hcz42_0
      try clear hcz42_1
      try clear hcz42_2
      try clear hcz42_3
      try clear hcz47_0
      try clear hcz47_1
      try clear hcz47_2
      try clear hcz47_3
      try clear hcz52_0
      try clear hcz52_1
      try clear hcz52_2
      try clear hcz52_3
      try clear hcz57_0
      try clear hcz57_1
      try clear hcz57_2
      try clear hcz57_3
      try clear hcz60_0
      try clear hcz60_1
      try clear hcz60_2
      try clear hcz60_3
      try clear hcz64_0
      try clear hcz64_1
      try clear hcz64_2
      try clear hcz64_3
      try clear hcz67_0
      try clear hcz67_1
      try clear hcz67_2
      try clear hcz67_3
      try clear hcz73_0
      try clear hcz73_1
      try clear hcz73_2
      try clear hcz73_3
      try clear hcz81_0
      try clear hcz81_1
      try clear hcz81_2
      try clear hcz81_3
      try clear hcz87_0
      try clear hcz87_1
      try clear hcz87_2
      try clear hcz87_3
      try clear hcz90_0
      try clear hcz90_1
      try clear hcz90_2
      try clear hcz90_3
      try clear hcz95_0
      try clear hcz95_1
      try clear hcz95_2
      try clear hcz95_3
      try clear hcz98_0
      try clear hcz98_1
      try clear hcz98_2
      try clear hcz98_3
      try clear hfz102_0
      try clear hfz102_1
      try clear hfz102_2
      try clear hfz102_3
      try clear hfz105_0
      try clear hfz105_1
      try clear hfz105_2
      try clear hfz105_3
      try clear hfz109_0
      try clear hfz109_1
      try clear hfz109_2
      try clear hfz109_3
      try clear hfz115_0
      try clear hfz115_1
      try clear hfz115_2
      try clear hfz115_3
      try clear hfz11_0
      try clear hfz11_1
      try clear hfz11_2
      try clear hfz11_3
      try clear hfz120_0
      try clear hfz120_1
      try clear hfz120_2
      try clear hfz120_3
      try clear hfz123_0
      try clear hfz123_1
      try clear hfz123_2
      try clear hfz123_3
      try clear hfz127_0
      try clear hfz127_1
      try clear hfz127_2
      try clear hfz127_3
      try clear hfz130_0
      try clear hfz130_1
      try clear hfz130_2
      try clear hfz130_3
      try clear hfz13_0
      try clear hfz13_1
      try clear hfz13_2
      try clear hfz13_3
      try clear hfz25_0
      try clear hfz25_1
      try clear hfz25_2
      try clear hfz25_3
      try clear hfz27_0
      try clear hfz27_1
      try clear hfz27_2
      try clear hfz27_3
      try clear hfz42_0
      try clear hfz42_1
      try clear hfz42_2
      try clear hfz42_3
      try clear hfz47_0
      try clear hfz47_1
      try clear hfz47_2
      try clear hfz47_3
      try clear hfz52_0
      try clear hfz52_1
      try clear hfz52_2
      try clear hfz52_3
      try clear hfz57_0
      try clear hfz57_1
      try clear hfz57_2
      try clear hfz57_3
      try clear hfz60_0
      try clear hfz60_1
      try clear hfz60_2
      try clear hfz60_3
      try clear hfz64_0
      try clear hfz64_1
      try clear hfz64_2
      try clear hfz64_3
      try clear hfz67_0
      try clear hfz67_1
      try clear hfz67_2
      try clear hfz67_3
      try clear hfz73_0
      try clear hfz73_1
      try clear hfz73_2
      try clear hfz73_3
      try clear hfz81_0
      try clear hfz81_1
      try clear hfz81_2
      try clear hfz81_3
      try clear hfz87_0
      try clear hfz87_1
      try clear hfz87_2
      try clear hfz87_3
      try clear hfz90_0
      try clear hfz90_1
      try clear hfz90_2
      try clear hfz90_3
      try clear hfz95_0
      try clear hfz95_1
      try clear hfz95_2
      try clear hfz95_3
      try clear hfz98_0
      try clear hfz98_1
      try clear hfz98_2
      try clear hfz98_3
      try clear hx151_0
      try clear hx154_0
      try clear p1
      try clear p15
      try clear p151
      try clear p154
      try clear p2
      try clear p6
      try clear p64
      try clear q1
      try clear q15
      try clear q150
      try clear q151
      try clear q154
      obtain ⟨kq, x98_109, rfl, HA, HJ109, BK146, BK147, BK148, BK153, HB⟩ := hcut
      cases kq with
      | zero => exact absurd HA.out (by simp [interval_Widen.j4])
      | succ kj109 =>
       have H := HA.out
       clear HA
       simp only [interval_Widen.j4] at H
       by_cases c131 : x98_109 = true
       ·subst c131
        have H1 : (interval_Widen.l2 kj109 l2 (l2.length : Int) 0 a1_0 a1_1 a1_2 a1_3 x154000_67 true x154002_67 0) = some (r1, r2, r3, r4, r5) := by rw [if_pos rfl] at H; exact H
        clear H
        have H := H1
        clear H1
        have H' := am H
        clear H
        have hnb132 := NB153_146.out
        have hnc132 := NB146_153.out
        have hnb133 := NB153_147.out
        have hnc133 := NB147_153.out
        have hnb134 := NB153_148.out
        have hnc134 := NB148_153.out
        have hcz135_0 : wc.cell? ⟨gb153, 0, none⟩ = some (.bool x154000_67) := bc BK153 0
        have hcz135_1 : wc.cell? ⟨gb153, 1, none⟩ = some (.bool a0_1) := bc BK153 1
        have hcz135_2 : wc.cell? ⟨gb153, 2, none⟩ = some (.int .i64 x154002_67) := bc BK153 2
        have hcz135_3 : wc.cell? ⟨gb153, 3, none⟩ = some (.int .i64 a0_3) := bc BK153 3
        have hfz135_0 := blk_frozen BK153.out 0
        have hfz135_1 := blk_frozen BK153.out 1
        have hfz135_2 := blk_frozen BK153.out 2
        have hfz135_3 := blk_frozen BK153.out 3
        go_wp2
        go_loopg [103] kj109 (fun kq v103 w' => ∃ (x103_5 : Int) (x154001_5 : Bool) (x154003_5 : Int), v103 = .int .i64 x103_5 ∧ Aside0 (interval_Widen.l2 kq l2 (l2.length : Int) x103_5 a1_0 a1_1 a1_2 a1_3 x154000_67 x154001_5 x154002_67 x154003_5 = some (r1, r2, r3, r4, r5)) ∧ Aside0 (kq ≤ kj109) ∧ Aside0 (w'.heap[gb146]? = some (.cells #[.bool a0_0, .bool a0_1, .int .i64 a0_2, .int .i64 a0_3] 23 (0, 0))) ∧ Aside0 (w'.heap[gb147]? = some (.cells #[.bool a1_0, .bool a1_1, .int .i64 a1_2, .int .i64 a1_3] 23 (0, 0))) ∧ Aside0 (w'.heap[gb148]? = some (.cells #[.bool x149000_1, .bool x149001_1, .int .i64 x149002_1, .int .i64 x149003_1] 23 (0, 0))) ∧ Aside0 (w'.heap[gb153]? = some (.cells #[.bool x154000_67, .bool x154001_5, .int .i64 x154002_67, .int .i64 x154003_5] 23 (0, 0))) ∧ Aside0 (Below w.heap.size w w'))
        case atStart => exact ⟨(0), (true), (0), pr, H', ⟨Nat.le_refl _⟩, ⟨by (with_reducible repeat (first | refine blk_drewN ?_ _ | refine blk_drew ?_ | refine blk_alloc ?_ _)); refine blk_far ?_ NB146_153.out _; (with_reducible repeat (first | refine blk_drewN ?_ _ | refine blk_drew ?_ | refine blk_alloc ?_ _)); refine blk_far ?_ NB146_153.out _; (with_reducible repeat (first | refine blk_drewN ?_ _ | refine blk_drew ?_ | refine blk_alloc ?_ _)); exact BK146.out⟩, ⟨by (with_reducible repeat (first | refine blk_drewN ?_ _ | refine blk_drew ?_ | refine blk_alloc ?_ _)); refine blk_far ?_ NB147_153.out _; (with_reducible repeat (first | refine blk_drewN ?_ _ | refine blk_drew ?_ | refine blk_alloc ?_ _)); refine blk_far ?_ NB147_153.out _; (with_reducible repeat (first | refine blk_drewN ?_ _ | refine blk_drew ?_ | refine blk_alloc ?_ _)); exact BK147.out⟩, ⟨by (with_reducible repeat (first | refine blk_drewN ?_ _ | refine blk_drew ?_ | refine blk_alloc ?_ _)); refine blk_far ?_ NB148_153.out _; (with_reducible repeat (first | refine blk_drewN ?_ _ | refine blk_drew ?_ | refine blk_alloc ?_ _)); refine blk_far ?_ NB148_153.out _; (with_reducible repeat (first | refine blk_drewN ?_ _ | refine blk_drew ?_ | refine blk_alloc ?_ _)); exact BK148.out⟩, ⟨by (with_reducible repeat (first | refine blk_drewN ?_ _ | refine blk_drew ?_ | refine blk_alloc ?_ _)); refine blk_put (cs := #[.bool x154000_67, .bool true, .int .i64 x154002_67, .int .i64 a0_3]) ?_ 3 _ rfl; (with_reducible repeat (first | refine blk_drewN ?_ _ | refine blk_drew ?_ | refine blk_alloc ?_ _)); refine blk_put (cs := #[.bool x154000_67, .bool a0_1, .int .i64 x154002_67, .int .i64 a0_3]) ?_ 1 _ rfl; (with_reducible repeat (first | refine blk_drewN ?_ _ | refine blk_drew ?_ | refine blk_alloc ?_ _)); exact BK153.out⟩, ⟨pw⟩⟩
        case round =>
         clear H'
         try clear c1
         try clear p1
         try clear q1
         try clear hx1
         try clear c2
         try clear p2
         try clear c3
         try clear c4
         try clear c5
         try clear c5b0
         try clear c5b1
         try clear c6
         try clear p6
         try clear c7
         try clear c8
         try clear c9
         try clear c10
         try clear c11
         try clear c12
         try clear c13
         try clear p15
         try clear q15
         try clear hx15
         try clear c23
         try clear c24
         try clear c26
         try clear c29
         try clear c29b0
         try clear c30
         try clear c30b0
         try clear c31
         try clear c31b0
         try clear c33
         try clear c40
         try clear c41
         try clear c44
         try clear c45
         try clear c46
         try clear c48
         try clear c49
         try clear c50
         try clear c51
         try clear c53
         try clear c54
         try clear c55
         try clear c56
         try clear c58
         try clear c59
         try clear c61
         try clear c62
         try clear c63
         try clear p64
         try clear c65
         try clear c66
         try clear c69
         try clear c70
         try clear c71
         try clear c72
         try clear c74
         try clear c74b0
         try clear c75
         try clear c75b0
         try clear c76
         try clear c76b0
         try clear c77
         try clear c78
         try clear c79
         try clear c80
         try clear c82
         try clear c82b0
         try clear c83
         try clear c84
         try clear c85
         try clear c86
         try clear c88
         try clear c89
         try clear c91
         try clear c91b0
         try clear c92
         try clear c93
         try clear c94
         try clear c96
         try clear c97
         try clear c99
         try clear c100
         try clear c101
         try clear c103
         try clear c104
         try clear c106
         try clear c107
         try clear c108
         try clear c111
         try clear c112
         try clear c113
         try clear c114
         try clear c116
         try clear c117
         try clear c118
         try clear c119
         try clear c121
         try clear c122
         try clear c124
         try clear c125
         try clear c126
         try clear c128
         try clear c129
         try clear c131
         try clear c132
         try clear c133
         try clear c134
         try clear hcz102_0
         try clear hcz102_1
         try clear hcz102_2
         try clear hcz102_3
         try clear hcz105_0
         try clear hcz105_1
         try clear hcz105_2
         try clear hcz105_3
         try clear hcz109_0
         try clear hcz109_1
         try clear hcz109_2
         try clear hcz109_3
         try clear hcz115_0
         try clear hcz115_1
         try clear hcz115_2
         try clear hcz115_3
         try clear hcz11_0
         try clear hcz11_1
         try clear hcz11_2
         try clear hcz11_3
         try clear hcz120_0
         try clear hcz120_1
         try clear hcz120_2
         try clear hcz120_3
         try clear hcz123_0
         try clear hcz123_1
         try clear hcz123_2
         try clear hcz123_3
         try clear hcz127_0
         try clear hcz127_1
         try clear hcz127_2
         try clear hcz127_3
         try clear hcz130_0
         try clear hcz130_1
         try clear hcz130_2
         try clear hcz130_3
         try clear hcz135_0
         try clear hcz135_1
         try clear hcz135_2
         try clear hcz135_3
         try clear hcz13_0
         try clear hcz13_1
         try clear hcz13_2
         try clear hcz13_3
         try clear hcz25_0
         try clear hcz25_1
         try clear hcz25_2
         try clear hcz25_3
         try clear hcz27_0
         try clear hcz27_1
         try clear hcz27_2
         try clear hcz27_3
         try clear hcz42_0
         try clear hcz42_1
         try clear hcz42_2
         try clear hcz42_3
         try clear hcz47_0
         try clear hcz47_1
         try clear hcz47_2
         try clear hcz47_3
         try clear hcz52_0
         try clear hcz52_1
         try clear hcz52_2
         try clear hcz52_3
         try clear hcz57_0
         try clear hcz57_1
         try clear hcz57_2
         try clear hcz57_3
         try clear hcz60_0
         try clear hcz60_1
         try clear hcz60_2
         try clear hcz60_3
         try clear hcz64_0
         try clear hcz64_1
         try clear hcz64_2
         try clear hcz64_3
         try clear hcz67_0
         try clear hcz67_1
         try clear hcz67_2
         try clear hcz67_3
         try clear hcz73_0
         try clear hcz73_1
         try clear hcz73_2
         try clear hcz73_3
         try clear hcz81_0
         try clear hcz81_1
         try clear hcz81_2
         try clear hcz81_3
         try clear hcz87_0
         try clear hcz87_1
         try clear hcz87_2
         try clear hcz87_3
         try clear hcz90_0
         try clear hcz90_1
         try clear hcz90_2
         try clear hcz90_3
         try clear hcz95_0
         try clear hcz95_1
         try clear hcz95_2
         try clear hcz95_3
         try clear hcz98_0
         try clear hcz98_1
         try clear hcz98_2
         try clear hcz98_3
         try clear hfz102_0
         try clear hfz102_1
         try clear hfz102_2
         try clear hfz102_3
         try clear hfz105_0
         try clear hfz105_1
         try clear hfz105_2
         try clear hfz105_3
         try clear hfz109_0
         try clear hfz109_1
         try clear hfz109_2
         try clear hfz109_3
         try clear hfz115_0
         try clear hfz115_1
         try clear hfz115_2
         try clear hfz115_3
         try clear hfz11_0
         try clear hfz11_1
         try clear hfz11_2
         try clear hfz11_3
         try clear hfz120_0
         try clear hfz120_1
         try clear hfz120_2
         try clear hfz120_3
         try clear hfz123_0
         try clear hfz123_1
         try clear hfz123_2
         try clear hfz123_3
         try clear hfz127_0
         try clear hfz127_1
         try clear hfz127_2
         try clear hfz127_3
         try clear hfz130_0
         try clear hfz130_1
         try clear hfz130_2
         try clear hfz130_3
         try clear hfz135_0
         try clear hfz135_1
         try clear hfz135_2
         try clear hfz135_3
         try clear hfz13_0
         try clear hfz13_1
         try clear hfz13_2
         try clear hfz13_3
         try clear hfz25_0
         try clear hfz25_1
         try clear hfz25_2
         try clear hfz25_3
         try clear hfz27_0
         try clear hfz27_1
         try clear hfz27_2
         try clear hfz27_3
         try clear hfz42_0
         try clear hfz42_1
         try clear hfz42_2
         try clear hfz42_3
         try clear hfz47_0
         try clear hfz47_1
         try clear hfz47_2
         try clear hfz47_3
         try clear hfz52_0
         try clear hfz52_1
         try clear hfz52_2
         try clear hfz52_3
         try clear hfz57_0
         try clear hfz57_1
         try clear hfz57_2
         try clear hfz57_3
         try clear hfz60_0
         try clear hfz60_1
         try clear hfz60_2
         try clear hfz60_3
         try clear hfz64_0
         try clear hfz64_1
         try clear hfz64_2
         try clear hfz64_3
         try clear hfz67_0
         try clear hfz67_1
         try clear hfz67_2
         try clear hfz67_3
         try clear hfz73_0
         try clear hfz73_1
         try clear hfz73_2
         try clear hfz73_3
         try clear hfz81_0
         try clear hfz81_1
         try clear hfz81_2
         try clear hfz81_3
         try clear hfz87_0
         try clear hfz87_1
         try clear hfz87_2
         try clear hfz87_3
         try clear hfz90_0
         try clear hfz90_1
         try clear hfz90_2
         try clear hfz90_3
         try clear hfz95_0
         try clear hfz95_1
         try clear hfz95_2
         try clear hfz95_3
         try clear hfz98_0
         try clear hfz98_1
         try clear hfz98_2
         try clear hfz98_3
         try clear hx151_0
         try clear hx154_0
         try clear p1
         try clear p15
         try clear p151
         try clear p154
         try clear p2
         try clear p6
         try clear p64
         try clear q1
         try clear q15
         try clear q150
         try clear q151
         try clear q154
         obtain ⟨x103_5, x154001_5, x154003_5, rfl, HA, HK5, BK146, BK147, BK148, BK153, HB⟩ := hrel
         cases gk with
         | zero => exact absurd HA.out (by simp [interval_Widen.l2])
         | succ k5 =>
          have H := HA.out
          clear HA
          simp only [interval_Widen.l2] at H
          by_cases c136 : x103_5 < (l2.length : Int)
          ·rw [if_pos c136] at H
           have c136b0 : decide (x103_5 < (l2.length : Int)) = true := decide_eq_true c136
           clear c136
           by_cases c137 : 0 ≤ x103_5
           ·rw [if_pos c137] at H
            have c137b0 : decide (0 ≤ x103_5) = true := decide_eq_true c137
            clear c137
            by_cases c138 : x103_5 < (l2.length : Int)
            ·rw [if_pos c138] at H
             have c138b0 : decide (x103_5 < (l2.length : Int)) = true := decide_eq_true c138
             clear c138
             by_cases c139 : a1_1 = true
             ·subst c139
              have H1 : (interval_Widen.l2 k5 l2 (l2.length : Int) (wrap64 (x103_5 + 1)) a1_0 true a1_2 a1_3 x154000_67 x154001_5 x154002_67 x154003_5) = some (r1, r2, r3, r4, r5) := by rw [if_pos rfl] at H; exact H
              clear H
              have H := H1
              clear H1
              have H' := am H
              clear H
              have p155 : 0 ≤ (x103_5 : Int) := of_decide_eq_true (by first | (with_reducible assumption) | assumption)
              have q155 : x103_5 < (l2.length : Int) := of_decide_eq_true (by first | (with_reducible assumption) | assumption)
              obtain ⟨ad155, e155, hx155_0⟩ := Kd.at_int HR2.out x103_5 p155 q155
              cases e155
              replace hx155_0 := (HB.out.cell (World.block_lt_of_cell? w _ hx155_0)).trans hx155_0
              replace p155 := eq_true p155
              replace q155 := eq_true q155
              have hnb140 := NB147_146.out
              have hnc140 := NB146_147.out
              have hnb141 := NB147_148.out
              have hnc141 := NB148_147.out
              have hnb142 := NB147_153.out
              have hnc142 := NB153_147.out
              have hcz143_0 : wr.cell? ⟨gb147, 0, none⟩ = some (.bool a1_0) := bc BK147 0
              have hcz143_1 : wr.cell? ⟨gb147, 1, none⟩ = some (.bool true) := bc BK147 1
              have hcz143_2 : wr.cell? ⟨gb147, 2, none⟩ = some (.int .i64 a1_2) := bc BK147 2
              have hcz143_3 : wr.cell? ⟨gb147, 3, none⟩ = some (.int .i64 a1_3) := bc BK147 3
              have hfz143_0 := blk_frozen BK147.out 0
              have hfz143_1 := blk_frozen BK147.out 1
              have hfz143_2 := blk_frozen BK147.out 2
              have hfz143_3 := blk_frozen BK147.out 3
              go_wp2
              go_roundg k5
              case measure => have := HK1.out; have := HJ38.out; have := HJ67.out; have := HJ109.out; have := HK5.out; omega
              case rel => exact ⟨(wrap64 (x103_5 + 1)), (x154001_5), (x154003_5), pr, H', ⟨by have := HK1.out; have := HJ38.out; have := HJ67.out; have := HJ109.out; have := HK5.out; omega⟩, ⟨pk⟩, ⟨pk⟩, ⟨pk⟩, ⟨pk⟩, ⟨pw⟩⟩
             replace c139 := Bool.eq_false_iff.mpr c139
             subst c139
             have H1 : (if (rd l2 x103_5) ≥ a1_3 then (if x154001_5 = true then (interval_Widen.l2 k5 l2 (l2.length : Int) (wrap64 (x103_5 + 1)) a1_0 false a1_2 a1_3 x154000_67 false x154002_67 (rd l2 x103_5)) else (if (rd l2 x103_5) < x154003_5 then (interval_Widen.l2 k5 l2 (l2.length : Int) (wrap64 (x103_5 + 1)) a1_0 false a1_2 a1_3 x154000_67 false x154002_67 (rd l2 x103_5)) else (interval_Widen.l2 k5 l2 (l2.length : Int) (wrap64 (x103_5 + 1)) a1_0 false a1_2 a1_3 x154000_67 x154001_5 x154002_67 x154003_5))) else (interval_Widen.l2 k5 l2 (l2.length : Int) (wrap64 (x103_5 + 1)) a1_0 false a1_2 a1_3 x154000_67 x154001_5 x154002_67 x154003_5)) = some (r1, r2, r3, r4, r5) := by rw [if_neg (show ¬ (false = true) by decide)] at H; exact H
             clear H
             have H := H1
             clear H1
             by_cases c144 : (rd l2 x103_5) ≥ a1_3
             ·rw [if_pos c144] at H
              have c144b0 : decide (a1_3 ≤ (rd l2 x103_5)) = true := decide_eq_true c144
              clear c144
              by_cases c145 : x154001_5 = true
              ·subst c145
               have H1 : (interval_Widen.l2 k5 l2 (l2.length : Int) (wrap64 (x103_5 + 1)) a1_0 false a1_2 a1_3 x154000_67 false x154002_67 (rd l2 x103_5)) = some (r1, r2, r3, r4, r5) := by rw [if_pos rfl] at H; exact H
               clear H
               have H := H1
               clear H1
               have H' := am H
               clear H
               have p155 : 0 ≤ (x103_5 : Int) := of_decide_eq_true (by first | (with_reducible assumption) | assumption)
               have q155 : x103_5 < (l2.length : Int) := of_decide_eq_true (by first | (with_reducible assumption) | assumption)
               obtain ⟨ad155, e155, hx155_0⟩ := Kd.at_int HR2.out x103_5 p155 q155
               cases e155
               replace hx155_0 := (HB.out.cell (World.block_lt_of_cell? w _ hx155_0)).trans hx155_0
               replace p155 := eq_true p155
               replace q155 := eq_true q155
               have hnb146 := NB147_146.out
               have hnc146 := NB146_147.out
               have hnb147 := NB147_148.out
               have hnc147 := NB148_147.out
               have hnb148 := NB147_153.out
               have hnc148 := NB153_147.out
               have hcz149_0 : wr.cell? ⟨gb147, 0, none⟩ = some (.bool a1_0) := bc BK147 0
               have hcz149_1 : wr.cell? ⟨gb147, 1, none⟩ = some (.bool false) := bc BK147 1
               have hcz149_2 : wr.cell? ⟨gb147, 2, none⟩ = some (.int .i64 a1_2) := bc BK147 2
               have hcz149_3 : wr.cell? ⟨gb147, 3, none⟩ = some (.int .i64 a1_3) := bc BK147 3
               have hfz149_0 := blk_frozen BK147.out 0
               have hfz149_1 := blk_frozen BK147.out 1
               have hfz149_2 := blk_frozen BK147.out 2
               have hfz149_3 := blk_frozen BK147.out 3
               have hnb150 := NB153_146.out
               have hnc150 := NB146_153.out
               have hnb151 := NB153_148.out
               have hnc151 := NB148_153.out
               have hcz152_0 : wr.cell? ⟨gb153, 0, none⟩ = some (.bool x154000_67) := bc BK153 0
               have hcz152_1 : wr.cell? ⟨gb153, 1, none⟩ = some (.bool true) := bc BK153 1
               have hcz152_2 : wr.cell? ⟨gb153, 2, none⟩ = some (.int .i64 x154002_67) := bc BK153 2
               have hcz152_3 : wr.cell? ⟨gb153, 3, none⟩ = some (.int .i64 x154003_5) := bc BK153 3
               have hfz152_0 := blk_frozen BK153.out 0
               have hfz152_1 := blk_frozen BK153.out 1
               have hfz152_2 := blk_frozen BK153.out 2
               have hfz152_3 := blk_frozen BK153.out 3
               go_wp2
               go_roundg k5
               case measure => have := HK1.out; have := HJ38.out; have := HJ67.out; have := HJ109.out; have := HK5.out; omega
               case rel => exact ⟨(wrap64 (x103_5 + 1)), (false), (rd l2 x103_5), pr, H', ⟨by have := HK1.out; have := HJ38.out; have := HJ67.out; have := HJ109.out; have := HK5.out; omega⟩, ⟨by (with_reducible repeat (first | refine blk_drewN ?_ _ | refine blk_drew ?_ | refine blk_alloc ?_ _)); refine blk_far ?_ NB146_153.out _; (with_reducible repeat (first | refine blk_drewN ?_ _ | refine blk_drew ?_ | refine blk_alloc ?_ _)); refine blk_far ?_ NB146_153.out _; (with_reducible repeat (first | refine blk_drewN ?_ _ | refine blk_drew ?_ | refine blk_alloc ?_ _)); exact BK146.out⟩, ⟨by (with_reducible repeat (first | refine blk_drewN ?_ _ | refine blk_drew ?_ | refine blk_alloc ?_ _)); refine blk_far ?_ NB147_153.out _; (with_reducible repeat (first | refine blk_drewN ?_ _ | refine blk_drew ?_ | refine blk_alloc ?_ _)); refine blk_far ?_ NB147_153.out _; (with_reducible repeat (first | refine blk_drewN ?_ _ | refine blk_drew ?_ | refine blk_alloc ?_ _)); exact BK147.out⟩, ⟨by (with_reducible repeat (first | refine blk_drewN ?_ _ | refine blk_drew ?_ | refine blk_alloc ?_ _)); refine blk_far ?_ NB148_153.out _; (with_reducible repeat (first | refine blk_drewN ?_ _ | refine blk_drew ?_ | refine blk_alloc ?_ _)); refine blk_far ?_ NB148_153.out _; (with_reducible repeat (first | refine blk_drewN ?_ _ | refine blk_drew ?_ | refine blk_alloc ?_ _)); exact BK148.out⟩, ⟨by (with_reducible repeat (first | refine blk_drewN ?_ _ | refine blk_drew ?_ | refine blk_alloc ?_ _)); refine blk_put (cs := #[.bool x154000_67, .bool false, .int .i64 x154002_67, .int .i64 x154003_5]) ?_ 3 _ rfl; (with_reducible repeat (first | refine blk_drewN ?_ _ | refine blk_drew ?_ | refine blk_alloc ?_ _)); refine blk_put (cs := #[.bool x154000_67, .bool true, .int .i64 x154002_67, .int .i64 x154003_5]) ?_ 1 _ rfl; (with_reducible repeat (first | refine blk_drewN ?_ _ | refine blk_drew ?_ | refine blk_alloc ?_ _)); exact BK153.out⟩, ⟨pw⟩⟩
              replace c145 := Bool.eq_false_iff.mpr c145
              subst c145
              have H1 : (if (rd l2 x103_5) < x154003_5 then (interval_Widen.l2 k5 l2 (l2.length : Int) (wrap64 (x103_5 + 1)) a1_0 false a1_2 a1_3 x154000_67 false x154002_67 (rd l2 x103_5)) else (interval_Widen.l2 k5 l2 (l2.length : Int) (wrap64 (x103_5 + 1)) a1_0 false a1_2 a1_3 x154000_67 false x154002_67 x154003_5)) = some (r1, r2, r3, r4, r5) := by rw [if_neg (show ¬ (false = true) by decide)] at H; exact H
              clear H
              have H := H1
              clear H1
              by_cases c153 : (rd l2 x103_5) < x154003_5
              ·rw [if_pos c153] at H
               have c153b0 : decide ((rd l2 x103_5) < x154003_5) = true := decide_eq_true c153
               clear c153
               have H' := am H
               clear H
               have p155 : 0 ≤ (x103_5 : Int) := of_decide_eq_true (by first | (with_reducible assumption) | assumption)
               have q155 : x103_5 < (l2.length : Int) := of_decide_eq_true (by first | (with_reducible assumption) | assumption)
               obtain ⟨ad155, e155, hx155_0⟩ := Kd.at_int HR2.out x103_5 p155 q155
               cases e155
               replace hx155_0 := (HB.out.cell (World.block_lt_of_cell? w _ hx155_0)).trans hx155_0
               replace p155 := eq_true p155
               replace q155 := eq_true q155
               have hnb154 := NB147_146.out
               have hnc154 := NB146_147.out
               have hnb155 := NB147_148.out
               have hnc155 := NB148_147.out
               have hnb156 := NB147_153.out
               have hnc156 := NB153_147.out
               have hcz157_0 : wr.cell? ⟨gb147, 0, none⟩ = some (.bool a1_0) := bc BK147 0
               have hcz157_1 : wr.cell? ⟨gb147, 1, none⟩ = some (.bool false) := bc BK147 1
               have hcz157_2 : wr.cell? ⟨gb147, 2, none⟩ = some (.int .i64 a1_2) := bc BK147 2
               have hcz157_3 : wr.cell? ⟨gb147, 3, none⟩ = some (.int .i64 a1_3) := bc BK147 3
               have hfz157_0 := blk_frozen BK147.out 0
               have hfz157_1 := blk_frozen BK147.out 1
               have hfz157_2 := blk_frozen BK147.out 2
               have hfz157_3 := blk_frozen BK147.out 3
               have hnb158 := NB153_146.out
               have hnc158 := NB146_153.out
               have hnb159 := NB153_148.out
               have hnc159 := NB148_153.out
               have hcz160_0 : wr.cell? ⟨gb153, 0, none⟩ = some (.bool x154000_67) := bc BK153 0
               have hcz160_1 : wr.cell? ⟨gb153, 1, none⟩ = some (.bool false) := bc BK153 1
               have hcz160_2 : wr.cell? ⟨gb153, 2, none⟩ = some (.int .i64 x154002_67) := bc BK153 2
               have hcz160_3 : wr.cell? ⟨gb153, 3, none⟩ = some (.int .i64 x154003_5) := bc BK153 3
               have hfz160_0 := blk_frozen BK153.out 0
               have hfz160_1 := blk_frozen BK153.out 1
               have hfz160_2 := blk_frozen BK153.out 2
               have hfz160_3 := blk_frozen BK153.out 3
               go_wp2
               go_roundg k5
               case measure => have := HK1.out; have := HJ38.out; have := HJ67.out; have := HJ109.out; have := HK5.out; omega
               case rel => exact ⟨(wrap64 (x103_5 + 1)), (false), (rd l2 x103_5), pr, H', ⟨by have := HK1.out; have := HJ38.out; have := HJ67.out; have := HJ109.out; have := HK5.out; omega⟩, ⟨by (with_reducible repeat (first | refine blk_drewN ?_ _ | refine blk_drew ?_ | refine blk_alloc ?_ _)); refine blk_far ?_ NB146_153.out _; (with_reducible repeat (first | refine blk_drewN ?_ _ | refine blk_drew ?_ | refine blk_alloc ?_ _)); refine blk_far ?_ NB146_153.out _; (with_reducible repeat (first | refine blk_drewN ?_ _ | refine blk_drew ?_ | refine blk_alloc ?_ _)); exact BK146.out⟩, ⟨by (with_reducible repeat (first | refine blk_drewN ?_ _ | refine blk_drew ?_ | refine blk_alloc ?_ _)); refine blk_far ?_ NB147_153.out _; (with_reducible repeat (first | refine blk_drewN ?_ _ | refine blk_drew ?_ | refine blk_alloc ?_ _)); refine blk_far ?_ NB147_153.out _; (with_reducible repeat (first | refine blk_drewN ?_ _ | refine blk_drew ?_ | refine blk_alloc ?_ _)); exact BK147.out⟩, ⟨by (with_reducible repeat (first | refine blk_drewN ?_ _ | refine blk_drew ?_ | refine blk_alloc ?_ _)); refine blk_far ?_ NB148_153.out _; (with_reducible repeat (first | refine blk_drewN ?_ _ | refine blk_drew ?_ | refine blk_alloc ?_ _)); refine blk_far ?_ NB148_153.out _; (with_reducible repeat (first | refine blk_drewN ?_ _ | refine blk_drew ?_ | refine blk_alloc ?_ _)); exact BK148.out⟩, ⟨by (with_reducible repeat (first | refine blk_drewN ?_ _ | refine blk_drew ?_ | refine blk_alloc ?_ _)); refine blk_put (cs := #[.bool x154000_67, .bool false, .int .i64 x154002_67, .int .i64 x154003_5]) ?_ 3 _ rfl; (with_reducible repeat (first | refine blk_drewN ?_ _ | refine blk_drew ?_ | refine blk_alloc ?_ _)); refine blk_put (cs := #[.bool x154000_67, .bool false, .int .i64 x154002_67, .int .i64 x154003_5]) ?_ 1 _ rfl; (with_reducible repeat (first | refine blk_drewN ?_ _ | refine blk_drew ?_ | refine blk_alloc ?_ _)); exact BK153.out⟩, ⟨pw⟩⟩
              rw [if_neg c153] at H
              have c153b0 : decide ((rd l2 x103_5) < x154003_5) = false := decide_eq_false c153
              clear c153
              have H' := am H
              clear H
              have p155 : 0 ≤ (x103_5 : Int) := of_decide_eq_true (by first | (with_reducible assumption) | assumption)
              have q155 : x103_5 < (l2.length : Int) := of_decide_eq_true (by first | (with_reducible assumption) | assumption)
              obtain ⟨ad155, e155, hx155_0⟩ := Kd.at_int HR2.out x103_5 p155 q155
              cases e155
              replace hx155_0 := (HB.out.cell (World.block_lt_of_cell? w _ hx155_0)).trans hx155_0
              replace p155 := eq_true p155
              replace q155 := eq_true q155
              have hnb161 := NB147_146.out
              have hnc161 := NB146_147.out
              have hnb162 := NB147_148.out
              have hnc162 := NB148_147.out
              have hnb163 := NB147_153.out
              have hnc163 := NB153_147.out
              have hcz164_0 : wr.cell? ⟨gb147, 0, none⟩ = some (.bool a1_0) := bc BK147 0
              have hcz164_1 : wr.cell? ⟨gb147, 1, none⟩ = some (.bool false) := bc BK147 1
              have hcz164_2 : wr.cell? ⟨gb147, 2, none⟩ = some (.int .i64 a1_2) := bc BK147 2
              have hcz164_3 : wr.cell? ⟨gb147, 3, none⟩ = some (.int .i64 a1_3) := bc BK147 3
              have hfz164_0 := blk_frozen BK147.out 0
              have hfz164_1 := blk_frozen BK147.out 1
              have hfz164_2 := blk_frozen BK147.out 2
              have hfz164_3 := blk_frozen BK147.out 3
              have hnb165 := NB153_146.out
              have hnc165 := NB146_153.out
              have hnb166 := NB153_148.out
              have hnc166 := NB148_153.out
              have hcz167_0 : wr.cell? ⟨gb153, 0, none⟩ = some (.bool x154000_67) := bc BK153 0
              have hcz167_1 : wr.cell? ⟨gb153, 1, none⟩ = some (.bool false) := bc BK153 1
              have hcz167_2 : wr.cell? ⟨gb153, 2, none⟩ = some (.int .i64 x154002_67) := bc BK153 2
              have hcz167_3 : wr.cell? ⟨gb153, 3, none⟩ = some (.int .i64 x154003_5) := bc BK153 3
              have hfz167_0 := blk_frozen BK153.out 0
              have hfz167_1 := blk_frozen BK153.out 1
              have hfz167_2 := blk_frozen BK153.out 2
              have hfz167_3 := blk_frozen BK153.out 3
              go_wp2
              go_roundg k5
              case measure => have := HK1.out; have := HJ38.out; have := HJ67.out; have := HJ109.out; have := HK5.out; omega
              case rel => exact ⟨(wrap64 (x103_5 + 1)), (false), (x154003_5), pr, H', ⟨by have := HK1.out; have := HJ38.out; have := HJ67.out; have := HJ109.out; have := HK5.out; omega⟩, ⟨pk⟩, ⟨pk⟩, ⟨pk⟩, ⟨pk⟩, ⟨pw⟩⟩
             rw [if_neg c144] at H
             have c144b0 : decide (a1_3 ≤ (rd l2 x103_5)) = false := decide_eq_false c144
             clear c144
             have H' := am H
             clear H
             have p155 : 0 ≤ (x103_5 : Int) := of_decide_eq_true (by first | (with_reducible assumption) | assumption)
             have q155 : x103_5 < (l2.length : Int) := of_decide_eq_true (by first | (with_reducible assumption) | assumption)
             obtain ⟨ad155, e155, hx155_0⟩ := Kd.at_int HR2.out x103_5 p155 q155
             cases e155
             replace hx155_0 := (HB.out.cell (World.block_lt_of_cell? w _ hx155_0)).trans hx155_0
             replace p155 := eq_true p155
             replace q155 := eq_true q155
             have hnb168 := NB147_146.out
             have hnc168 := NB146_147.out
             have hnb169 := NB147_148.out
             have hnc169 := NB148_147.out
             have hnb170 := NB147_153.out
             have hnc170 := NB153_147.out
             have hcz171_0 : wr.cell? ⟨gb147, 0, none⟩ = some (.bool a1_0) := bc BK147 0
             have hcz171_1 : wr.cell? ⟨gb147, 1, none⟩ = some (.bool false) := bc BK147 1
             have hcz171_2 : wr.cell? ⟨gb147, 2, none⟩ = some (.int .i64 a1_2) := bc BK147 2
             have hcz171_3 : wr.cell? ⟨gb147, 3, none⟩ = some (.int .i64 a1_3) := bc BK147 3
             have hfz171_0 := blk_frozen BK147.out 0
             have hfz171_1 := blk_frozen BK147.out 1
             have hfz171_2 := blk_frozen BK147.out 2
             have hfz171_3 := blk_frozen BK147.out 3
             go_wp2
             go_roundg k5
             case measure => have := HK1.out; have := HJ38.out; have := HJ67.out; have := HJ109.out; have := HK5.out; omega
             case rel => exact ⟨(wrap64 (x103_5 + 1)), (x154001_5), (x154003_5), pr, H', ⟨by have := HK1.out; have := HJ38.out; have := HJ67.out; have := HJ109.out; have := HK5.out; omega⟩, ⟨pk⟩, ⟨pk⟩, ⟨pk⟩, ⟨pk⟩, ⟨pw⟩⟩
            rw [if_neg c138] at H
            exact absurd H (by simp)
           rw [if_neg c137] at H
           exact absurd H (by simp)
          rw [if_neg c136] at H
          have c136b0 : decide (x103_5 < (l2.length : Int)) = false := decide_eq_false c136
          clear c136
          simp only [Option.some.injEq, Prod.mk.injEq] at H
          obtain ⟨rfl, rfl, rfl, rfl, rfl⟩ := H
          have hnb172 := NB153_146.out
          have hnc172 := NB146_153.out
          have hnb173 := NB153_147.out
          have hnc173 := NB147_153.out
          have hnb174 := NB153_148.out
          have hnc174 := NB148_153.out
          have hcz175_0 : wr.cell? ⟨gb153, 0, none⟩ = some (.bool x154000_67) := bc BK153 0
          have hcz175_1 : wr.cell? ⟨gb153, 1, none⟩ = some (.bool x154001_5) := bc BK153 1
          have hcz175_2 : wr.cell? ⟨gb153, 2, none⟩ = some (.int .i64 x154002_67) := bc BK153 2
          have hcz175_3 : wr.cell? ⟨gb153, 3, none⟩ = some (.int .i64 x154003_5) := bc BK153 3
          have hfz175_0 := blk_frozen BK153.out 0
          have hfz175_1 := blk_frozen BK153.out 1
          have hfz175_2 := blk_frozen BK153.out 2
          have hfz175_3 := blk_frozen BK153.out 3
          have hnb176 := NB148_146.out
          have hnc176 := NB146_148.out
          have hnb177 := NB148_147.out
          have hnc177 := NB147_148.out
          have hcz178_0 : wr.cell? ⟨gb148, 0, none⟩ = some (.bool x149000_1) := bc BK148 0
          have hcz178_1 : wr.cell? ⟨gb148, 1, none⟩ = some (.bool x149001_1) := bc BK148 1
          have hcz178_2 : wr.cell? ⟨gb148, 2, none⟩ = some (.int .i64 x149002_1) := bc BK148 2
          have hcz178_3 : wr.cell? ⟨gb148, 3, none⟩ = some (.int .i64 x149003_1) := bc BK148 3
          have hfz178_0 := blk_frozen BK148.out 0
          have hfz178_1 := blk_frozen BK148.out 1
          have hfz178_2 := blk_frozen BK148.out 2
          have hfz178_3 := blk_frozen BK148.out 3
          go_wp2
          refine bodyPost_ret (results_ct rfl _ _ gb148 23 #[.bool x154000_67, .bool x154001_5, .int .i64 x154002_67, .int .i64 x154003_5] (0, 0) _ rfl (by (with_reducible repeat (first | refine blk_drewN ?_ _ | refine blk_drew ?_ | refine blk_alloc ?_ _)); refine blk_put (cs := #[.bool x154000_67, .bool x154001_5, .int .i64 x154002_67, .int .i64 x149003_1]) ?_ 3 _ rfl; (with_reducible repeat (first | refine blk_drewN ?_ _ | refine blk_drew ?_ | refine blk_alloc ?_ _)); refine blk_put (cs := #[.bool x154000_67, .bool x154001_5, .int .i64 x149002_1, .int .i64 x149003_1]) ?_ 2 _ rfl; (with_reducible repeat (first | refine blk_drewN ?_ _ | refine blk_drew ?_ | refine blk_alloc ?_ _)); refine blk_put (cs := #[.bool x154000_67, .bool x149001_1, .int .i64 x149002_1, .int .i64 x149003_1]) ?_ 1 _ rfl; (with_reducible repeat (first | refine blk_drewN ?_ _ | refine blk_drew ?_ | refine blk_alloc ?_ _)); refine blk_put (cs := #[.bool x149000_1, .bool x149001_1, .int .i64 x149002_1, .int .i64 x149003_1]) ?_ 0 _ rfl; (with_reducible repeat (first | refine blk_drewN ?_ _ | refine blk_drew ?_ | refine blk_alloc ?_ _)); exact BK148.out) Tryd.underlying23 rfl kk) rfl ?_
          exact ⟨pe, pw⟩
       replace c131 := Bool.eq_false_iff.mpr c131
       subst c131
       have H1 : (some (x154000_67, a0_1, x154002_67, a0_3, none)) = some (r1, r2, r3, r4, r5) := by rw [if_neg (show ¬ (false = true) by decide)] at H; exact H
       clear H
       have H := H1
       clear H1
       simp only [Option.some.injEq, Prod.mk.injEq] at H
       obtain ⟨rfl, rfl, rfl, rfl, rfl⟩ := H
       have hnb179 := NB153_146.out
       have hnc179 := NB146_153.out
       have hnb180 := NB153_147.out
       have hnc180 := NB147_153.out
       have hnb181 := NB153_148.out
       have hnc181 := NB148_153.out
       have hcz182_0 : wc.cell? ⟨gb153, 0, none⟩ = some (.bool x154000_67) := bc BK153 0
       have hcz182_1 : wc.cell? ⟨gb153, 1, none⟩ = some (.bool a0_1) := bc BK153 1
       have hcz182_2 : wc.cell? ⟨gb153, 2, none⟩ = some (.int .i64 x154002_67) := bc BK153 2
       have hcz182_3 : wc.cell? ⟨gb153, 3, none⟩ = some (.int .i64 a0_3) := bc BK153 3
       have hfz182_0 := blk_frozen BK153.out 0
       have hfz182_1 := blk_frozen BK153.out 1
       have hfz182_2 := blk_frozen BK153.out 2
       have hfz182_3 := blk_frozen BK153.out 3
       have hnb183 := NB148_146.out
       have hnc183 := NB146_148.out
       have hnb184 := NB148_147.out
       have hnc184 := NB147_148.out
       have hcz185_0 : wc.cell? ⟨gb148, 0, none⟩ = some (.bool x149000_1) := bc BK148 0
       have hcz185_1 : wc.cell? ⟨gb148, 1, none⟩ = some (.bool x149001_1) := bc BK148 1
       have hcz185_2 : wc.cell? ⟨gb148, 2, none⟩ = some (.int .i64 x149002_1) := bc BK148 2
       have hcz185_3 : wc.cell? ⟨gb148, 3, none⟩ = some (.int .i64 x149003_1) := bc BK148 3
       have hfz185_0 := blk_frozen BK148.out 0
       have hfz185_1 := blk_frozen BK148.out 1
       have hfz185_2 := blk_frozen BK148.out 2
       have hfz185_3 := blk_frozen BK148.out 3
       go_wp2
       refine bodyPost_ret (results_ct rfl _ _ gb148 23 #[.bool x154000_67, .bool a0_1, .int .i64 x154002_67, .int .i64 a0_3] (0, 0) _ rfl (by (with_reducible repeat (first | refine blk_drewN ?_ _ | refine blk_drew ?_ | refine blk_alloc ?_ _)); refine blk_put (cs := #[.bool x154000_67, .bool a0_1, .int .i64 x154002_67, .int .i64 x149003_1]) ?_ 3 _ rfl; (with_reducible repeat (first | refine blk_drewN ?_ _ | refine blk_drew ?_ | refine blk_alloc ?_ _)); refine blk_put (cs := #[.bool x154000_67, .bool a0_1, .int .i64 x149002_1, .int .i64 x149003_1]) ?_ 2 _ rfl; (with_reducible repeat (first | refine blk_drewN ?_ _ | refine blk_drew ?_ | refine blk_alloc ?_ _)); refine blk_put (cs := #[.bool x154000_67, .bool x149001_1, .int .i64 x149002_1, .int .i64 x149003_1]) ?_ 1 _ rfl; (with_reducible repeat (first | refine blk_drewN ?_ _ | refine blk_drew ?_ | refine blk_alloc ?_ _)); refine blk_put (cs := #[.bool x149000_1, .bool x149001_1, .int .i64 x149002_1, .int .i64 x149003_1]) ?_ 0 _ rfl; (with_reducible repeat (first | refine blk_drewN ?_ _ | refine blk_drew ?_ | refine blk_alloc ?_ _)); exact BK148.out) Tryd.underlying23 rfl kk) rfl ?_
       exact ⟨pe, pw⟩
 have H1 : (some (false, false, 0, 0, some q150)) = some (r1, r2, r3, r4, r5) := by rw [if_neg (show ¬ (some q150).isNone = true by simp)] at H; exact H
 clear H
 have H := H1
 clear H1
 try simp only [errW_none, errW_some]
 simp only [Option.some.injEq, Prod.mk.injEq] at H
 obtain ⟨rfl, rfl, rfl, rfl, rfl⟩ := H
 go_enter Tryd.func40, Tryd.ntmps40
 go_wp2_with (first | ((with_reducible refine gate_dst (N := 3) rfl ?_); refine box_event ?hg (N := 3) ?hd (cs := #[.bool a0_0, .bool a0_1, .int .i64 a0_2, .int .i64 a0_3]) (t := 23) ?hr ?_; (case hd => rfl); (case hg => rfl); (case hr => first | (go_simp; done) | (go_simp; rfl)); intro gb146 hg w186 hbox hb; have n0_ := am (below_step pw hb); have n1_ := am (hbox); have n2_ := am ((by rw [hg]; exact (below_size pw) : w.heap.size ≤ gb146)); have n3_ := am ((by rw [hg]; exact (below_size pw) : w.heap.size ≤ gb146)); clear HB; have HB := n0_; have BK146 := n1_; have GW146 := n2_; have GE146 := n3_; clear n0_ n1_ n2_ n3_; clear hb hbox hg) | ((with_reducible refine gate_dst (N := 4) rfl ?_); refine box_event ?hg (N := 4) ?hd (cs := #[.bool a1_0, .bool a1_1, .int .i64 a1_2, .int .i64 a1_3]) (t := 23) ?hr ?_; (case hd => rfl); (case hg => rfl); (case hr => first | (go_simp; done) | (go_simp; rfl)); intro gb147 hg w187 hbox hb; have n0_ := bb BK146 hb; have n1_ := am (below_step pw hb); have n2_ := am (hbox); have n3_ := am ((by rw [hg]; exact (below_size pw) : w.heap.size ≤ gb147)); have n4_ := am ((by rw [hg]; exact (below_size pw) : w.heap.size ≤ gb147)); have n5_ := am ((by rw [hg]; exact Nat.ne_of_lt (blk_lt pk) : gb146 ≠ gb147)); have n6_ := am ((by rw [hg]; exact Nat.ne_of_gt (blk_lt pk) : gb147 ≠ gb146)); clear BK146; clear HB; have BK146 := n0_; have HB := n1_; have BK147 := n2_; have GW147 := n3_; have GE147 := n4_; have NB146_147 := n5_; have NB147_146 := n6_; clear n0_ n1_ n2_ n3_ n4_ n5_ n6_; clear hb hbox hg) | ((with_reducible refine gate_dst (N := 6) rfl ?_); refine box_event ?hg (N := 6) ?hd (cs := #[.bool false, .bool false, .int .i64 0, .int .i64 0]) (t := 23) ?hr ?_; (case hd => rfl); (case hg => rfl); (case hr => first | (go_simp; done) | (go_simp; rfl)); intro gb148 hg w188 hbox hb; have n0_ := bb BK146 hb; have n1_ := bb BK147 hb; have n2_ := am (below_step pw hb); have n3_ := am (hbox); have n4_ := am ((by rw [hg]; exact (below_size pw) : w.heap.size ≤ gb148)); have n5_ := am ((by rw [hg]; exact (below_size pw) : w.heap.size ≤ gb148)); have n6_ := am ((by rw [hg]; exact Nat.ne_of_lt (blk_lt pk) : gb146 ≠ gb148)); have n7_ := am ((by rw [hg]; exact Nat.ne_of_gt (blk_lt pk) : gb148 ≠ gb146)); have n8_ := am ((by rw [hg]; exact Nat.ne_of_lt (blk_lt pk) : gb147 ≠ gb148)); have n9_ := am ((by rw [hg]; exact Nat.ne_of_gt (blk_lt pk) : gb148 ≠ gb147)); clear BK146; clear BK147; clear HB; have BK146 := n0_; have BK147 := n1_; have HB := n2_; have BK148 := n3_; have GW148 := n4_; have GE148 := n5_; have NB146_148 := n6_; have NB148_146 := n7_; have NB147_148 := n8_; have NB148_147 := n9_; clear n0_ n1_ n2_ n3_ n4_ n5_ n6_ n7_ n8_ n9_; clear hb hbox hg; have hnb189 := NB146_147.out; have hnc189 := NB147_146.out; have hnb190 := NB146_148.out; have hnc190 := NB148_146.out; have hcz191_0 : w188.cell? ⟨gb146, 0, none⟩ = some (.bool a0_0) := bc BK146 0; have hcz191_1 : w188.cell? ⟨gb146, 1, none⟩ = some (.bool a0_1) := bc BK146 1; have hcz191_2 : w188.cell? ⟨gb146, 2, none⟩ = some (.int .i64 a0_2) := bc BK146 2; have hcz191_3 : w188.cell? ⟨gb146, 3, none⟩ = some (.int .i64 a0_3) := bc BK146 3; have hfz191_0 := blk_frozen BK146.out 0; have hfz191_1 := blk_frozen BK146.out 1; have hfz191_2 := blk_frozen BK146.out 2; have hfz191_3 := blk_frozen BK146.out 3; have hnb192 := NB147_148.out; have hnc192 := NB148_147.out; have hcz193_0 : w188.cell? ⟨gb147, 0, none⟩ = some (.bool a1_0) := bc BK147 0; have hcz193_1 : w188.cell? ⟨gb147, 1, none⟩ = some (.bool a1_1) := bc BK147 1; have hcz193_2 : w188.cell? ⟨gb147, 2, none⟩ = some (.int .i64 a1_2) := bc BK147 2; have hcz193_3 : w188.cell? ⟨gb147, 3, none⟩ = some (.int .i64 a1_3) := bc BK147 3; have hfz193_0 := blk_frozen BK147.out 0; have hfz193_1 := blk_frozen BK147.out 1; have hfz193_2 := blk_frozen BK147.out 2; have hfz193_3 := blk_frozen BK147.out 3) | ((with_reducible refine gate_callee (f := 62) rfl ?_); refine goesL_ (some 18) rfl rfl Tryd.func62 kk rfl #[.agg #[.bool a0_0, .bool a0_1, .int .i64 a0_2, .int .i64 a0_3], .agg #[.bool a1_0, .bool a1_1, .int .i64 a1_2, .int .i64 a1_3]] rfl (by (try simp only [List.map_toArray, List.map_cons, List.map_nil]); first | done | rfl | (simp only [List.length_drop, List.length_take]; rfl)) ?_; (with_reducible refine (interval_two.calls k a0_0 a0_1 a0_2 a0_3 a1_0 a1_1 a1_2 a1_3 (some q150) _ A4.out (am (ErrAt.below hE2.out pw)).out (am (ErrAt.below hE3.out pw)).out).mono ?_); rintro e w194 ⟨rfl, hb⟩; refine ⟨_, rfl, ?_⟩; have n0_ := bb BK146 hb; have n1_ := bb BK147 hb; have n2_ := bb BK148 hb; have n3_ := am (below_step pw hb); clear BK146; clear BK147; clear BK148; clear HB; have BK146 := n0_; have BK147 := n1_; have BK148 := n2_; have HB := n3_; clear n0_ n1_ n2_ n3_; (try clear hb); (try clear hb2); (try clear hk); (try clear hi); (try simp only [errW_none, errW_some]); have hcz195_0 : w194.cell? ⟨gb148, 0, none⟩ = some (.bool false) := bc BK148 0; have hcz195_1 : w194.cell? ⟨gb148, 1, none⟩ = some (.bool false) := bc BK148 1; have hcz195_2 : w194.cell? ⟨gb148, 2, none⟩ = some (.int .i64 0) := bc BK148 2; have hcz195_3 : w194.cell? ⟨gb148, 3, none⟩ = some (.int .i64 0) := bc BK148 3; have hfz195_0 := blk_frozen BK148.out 0; have hfz195_1 := blk_frozen BK148.out 1; have hfz195_2 := blk_frozen BK148.out 2; have hfz195_3 := blk_frozen BK148.out 3))
 refine bodyPost_ret (results_ct rfl _ _ gb148 23 #[.bool false, .bool false, .int .i64 0, .int .i64 0] (0, 0) _ rfl (by (with_reducible repeat (first | refine blk_drewN ?_ _ | refine blk_drew ?_ | refine blk_alloc ?_ _)); refine blk_put (cs := #[.bool false, .bool false, .int .i64 0, .int .i64 0]) ?_ 3 _ rfl; (with_reducible repeat (first | refine blk_drewN ?_ _ | refine blk_drew ?_ | refine blk_alloc ?_ _)); refine blk_put (cs := #[.bool false, .bool false, .int .i64 0, .int .i64 0]) ?_ 2 _ rfl; (with_reducible repeat (first | refine blk_drewN ?_ _ | refine blk_drew ?_ | refine blk_alloc ?_ _)); refine blk_put (cs := #[.bool false, .bool false, .int .i64 0, .int .i64 0]) ?_ 1 _ rfl; (with_reducible repeat (first | refine blk_drewN ?_ _ | refine blk_drew ?_ | refine blk_alloc ?_ _)); refine blk_put (cs := #[.bool false, .bool false, .int .i64 0, .int .i64 0]) ?_ 0 _ rfl; (with_reducible repeat (first | refine blk_drewN ?_ _ | refine blk_drew ?_ | refine blk_alloc ?_ _)); exact BK148.out) Tryd.underlying23 rfl kk) rfl ?_
 exact ⟨pe, pw⟩

end Go.Proofs.YtimgfgambeffeaaDoor.J
