import Derived.Test.YtcalcnfppnbooaaDoorOxSp
import Derived.Test.YtcalcnfppnbooaaDoorOxEb
import Derived.Test.YtcalcnfppnbooaaDoorOxFldO
import Derived.Test.YtcalcnfppnbooaaDoorOxCd
import Derived.Test.YtcalcnfppnbooaaDoorOxQh
import Derived.Test.YtcalcnfppnbooaaDoorOxQw
import Derived.Test.YtcalcnfppnbooaaDoorOxZ0
import Derived.Test.YtcalcnfppnbooaaDoorOxZ4
import Derived.Test.YtcalcnfppnbooaaDoorOxZ5
import Derived.Test.YtcalcnfppnbooaaDoorOxZ23
import Derived.Test.YtcalcnfppnbooaaDoorOxZ24
import Derived.Test.YtcalcnfppnbooaaDoorOxZ25
import Derived.Test.YtcalcnfppnbooaaDoorOxZ26
-- Written by wip/xprint.py (the session's program over the kit's print).
namespace Go.Proofs.YtcalcnfppnbooaaDoor.Z
open Go.RowKit Go.Proofs.YtcalcnfppnbooaaDoorW.PrintWords Go.Proofs.YtcalcnfppnbooaaDoorW.PrintLast Go.Proofs.YtcalcnfppnbooaaDoorW.PrintMore Go.Proofs.Rcg Go.Proofs.Rco
attribute [local go_sem] Go.Proofs.Rcg.fld_oct1 Go.Proofs.Rcg.fld_roct1 max2_int min2_int max_two min_two max_three min_three max_four min_four   -- for this text's walks alone
set_option linter.unusedVariables false
set_option linter.unusedSimpArgs false

/-! ### L2_OctClose: function 6 -/
mutual
def L2_OctClose.j0 : Nat → List Int → Bool → Bool → Int → List (S67) → Option (Bool)
 | 0, _, _, _, _, _ => none
 | k + 1, x1, x5, x30, x715000, x715001 => if x30 = true then (some x5) else ((R2_OctError.f k x715000 x715001).bind fun t716 => ((L2_octOf.f k x715000 x715001).bind fun bt717 => ((octagon_Close.f bt717.1 bt717.2).bind fun bt721 => ((L2_octOf.f k x715000 x715001).bind fun bt728 => ((L2_ints.f x1).bind fun t732 => ((octagon_Has.f bt728.1 bt728.2 t732).bind fun bt735 => ((L2_octOf.f k x715000 x715001).bind fun bt737 => ((octagon_Valid.f bt737.1 bt737.2).bind fun t741 => ((L2_coded.f t741 t716).bind fun t742 => (if t742 = true then (if t716 = 0 then (L2_OctClose.j1 k x1 t716 bt721.2.2.1 bt721.2.2.2 bt735.1 bt735.2 t716 ((x1.length : Int) != x715000) x715000 x715001 bt721.1 bt721.2.1) else (L2_OctClose.j1 k x1 t716 bt721.2.2.1 bt721.2.2.2 bt735.1 bt735.2 t716 false x715000 x715001 bt721.1 bt721.2.1)) else (none)))))))))))
def L2_OctClose.j1 : Nat → List Int → Int → Bool → Option Int → Bool → Option Int → Int → Bool → Int → List (S67) → Int → List (S146) → Option (Bool)
 | 0, _, _, _, _, _, _, _, _, _, _, _, _ => none
 | k + 1, x1, x6, x8, x9, x10, x11, x12, x64, x715000, x715001, x728000, x728001 => if x64 = true then (L2_OctClose.j2 k x1 x6 x8 x9 x10 x11 3 x715000 x715001 x728000 x728001) else (L2_OctClose.j2 k x1 x6 x8 x9 x10 x11 x12 x715000 x715001 x728000 x728001)
def L2_OctClose.j2 : Nat → List Int → Int → Bool → Option Int → Bool → Option Int → Int → Int → List (S67) → Int → List (S146) → Option (Bool)
 | 0, _, _, _, _, _, _, _, _, _, _, _ => none
 | k + 1, x1, x6, x8, x9, x10, x11, x12, x715000, x715001, x728000, x728001 => L2_OctClose.l0 k x1 x6 x8 x9 x10 x11 x12 0 x715000 x715001 x728000 x728001
def L2_OctClose.l0 : Nat → List Int → Int → Bool → Option Int → Bool → Option Int → Int → Int → Int → List (S67) → Int → List (S146) → Option (Bool)
 | 0, _, _, _, _, _, _, _, _, _, _, _, _ => none
 | k + 1, x1, x6, x8, x9, x10, x11, x12, x13, x715000, x715001, x728000, x728001 => if x13 < (x1.length : Int) then (L2_OctClose.j4 k x1 x6 x8 x9 x10 x11 x12 x13 (x12 == 0) x715000 x715001 x728000 x728001) else (L2_OctClose.j4 k x1 x6 x8 x9 x10 x11 x12 x13 false x715000 x715001 x728000 x728001)
def L2_OctClose.j4 : Nat → List Int → Int → Bool → Option Int → Bool → Option Int → Int → Int → Bool → Int → List (S67) → Int → List (S146) → Option (Bool)
 | 0, _, _, _, _, _, _, _, _, _, _, _, _, _ => none
 | k + 1, x1, x6, x8, x9, x10, x11, x12, x13, x72, x715000, x715001, x728000, x728001 => if x72 = true then (if 0 ≤ x13 then (if x13 < (x1.length : Int) then ((R2_Far.f (rd x1 x13) 1099511627776).bind fun t744 => (if t744 = true then (L2_OctClose.l0 k x1 x6 x8 x9 x10 x11 2 (wrap64 (x13 + 1)) x715000 x715001 x728000 x728001) else (L2_OctClose.l0 k x1 x6 x8 x9 x10 x11 x12 (wrap64 (x13 + 1)) x715000 x715001 x728000 x728001))) else (none)) else (none)) else (if x12 = 0 then ((R2_HasOct.f k x715000 x715001 x1).bind fun t745 => (L2_OctClose.j5 k x6 x8 x9 x10 x11 x12 t745 x715000 x715001 x728000 x728001)) else (L2_OctClose.j5 k x6 x8 x9 x10 x11 x12 false x715000 x715001 x728000 x728001))
def L2_OctClose.j5 : Nat → Int → Bool → Option Int → Bool → Option Int → Int → Bool → Int → List (S67) → Int → List (S146) → Option (Bool)
 | 0, _, _, _, _, _, _, _, _, _, _, _ => none
 | k + 1, x6, x8, x9, x10, x11, x12, x14, x715000, x715001, x728000, x728001 => (L2_coded.f x11 x12).bind fun t746 => (if t746 = true then (L2_OctClose.j6 k x6 x8 x9 (x10 != x14) x715000 x715001 x728000 x728001) else (L2_OctClose.j6 k x6 x8 x9 true x715000 x715001 x728000 x728001))
def L2_OctClose.j6 : Nat → Int → Bool → Option Int → Bool → Int → List (S67) → Int → List (S146) → Option (Bool)
 | 0, _, _, _, _, _, _, _, _ => none
 | k + 1, x6, x8, x9, x95, x715000, x715001, x728000, x728001 => if x95 = true then (none) else (if x6 > 0 then ((L2_coded.f x9 x6).bind fun t747 => (if t747 = true then (if x8 = true then (none) else ((L2_noOct.f x728000 x728001).bind fun t748 => (some t748))) else (none))) else ((L2_near.f k x715001).bind fun t749 => (if t749 = true then ((R2_ClosedOct.f k x715000 x715001).bind fun bt750 => (if x9.isNone = true then (if (x8 == bt750.2.2) = true then ((L2_isOct.f k x728000 x728001 bt750.1 bt750.2.1).bind fun t757 => (some t757)) else (none)) else (none))) else (if x9.isNone = true then (some true) else (none)))))
end
def L2_OctClose.f (k : Nat) (a0_0 : Int) (l0_1 : List (S67)) (l1 : List Int) : Option (Bool) := (L2_odd.f k).bind fun t715 => (if t715 = true then (if (l0_1.length : Int) > 100 then (L2_OctClose.j0 k l1 t715 true a0_0 l0_1) else (L2_OctClose.j0 k l1 t715 (decide ((l1.length : Int) > 100)) a0_0 l0_1)) else (L2_OctClose.j0 k l1 t715 true a0_0 l0_1))
theorem L2_OctClose.mono_l : ∀ k, (∀ y0 y1 y2 y3 y4, LeO (L2_OctClose.j0 k y0 y1 y2 y3 y4) (L2_OctClose.j0 (k + 1) y0 y1 y2 y3 y4)) ∧ (∀ y0 y1 y2 y3 y4 y5 y6 y7 y8 y9 y10 y11, LeO (L2_OctClose.j1 k y0 y1 y2 y3 y4 y5 y6 y7 y8 y9 y10 y11) (L2_OctClose.j1 (k + 1) y0 y1 y2 y3 y4 y5 y6 y7 y8 y9 y10 y11)) ∧ (∀ y0 y1 y2 y3 y4 y5 y6 y7 y8 y9 y10, LeO (L2_OctClose.j2 k y0 y1 y2 y3 y4 y5 y6 y7 y8 y9 y10) (L2_OctClose.j2 (k + 1) y0 y1 y2 y3 y4 y5 y6 y7 y8 y9 y10)) ∧ (∀ y0 y1 y2 y3 y4 y5 y6 y7 y8 y9 y10 y11, LeO (L2_OctClose.l0 k y0 y1 y2 y3 y4 y5 y6 y7 y8 y9 y10 y11) (L2_OctClose.l0 (k + 1) y0 y1 y2 y3 y4 y5 y6 y7 y8 y9 y10 y11)) ∧ (∀ y0 y1 y2 y3 y4 y5 y6 y7 y8 y9 y10 y11 y12, LeO (L2_OctClose.j4 k y0 y1 y2 y3 y4 y5 y6 y7 y8 y9 y10 y11 y12) (L2_OctClose.j4 (k + 1) y0 y1 y2 y3 y4 y5 y6 y7 y8 y9 y10 y11 y12)) ∧ (∀ y0 y1 y2 y3 y4 y5 y6 y7 y8 y9 y10, LeO (L2_OctClose.j5 k y0 y1 y2 y3 y4 y5 y6 y7 y8 y9 y10) (L2_OctClose.j5 (k + 1) y0 y1 y2 y3 y4 y5 y6 y7 y8 y9 y10)) ∧ (∀ y0 y1 y2 y3 y4 y5 y6 y7, LeO (L2_OctClose.j6 k y0 y1 y2 y3 y4 y5 y6 y7) (L2_OctClose.j6 (k + 1) y0 y1 y2 y3 y4 y5 y6 y7))
 | 0 => ⟨fun _ _ _ _ _ r h => by simp [L2_OctClose.j0] at h, fun _ _ _ _ _ _ _ _ _ _ _ _ r h => by simp [L2_OctClose.j1] at h, fun _ _ _ _ _ _ _ _ _ _ _ r h => by simp [L2_OctClose.j2] at h, fun _ _ _ _ _ _ _ _ _ _ _ _ r h => by simp [L2_OctClose.l0] at h, fun _ _ _ _ _ _ _ _ _ _ _ _ _ r h => by simp [L2_OctClose.j4] at h, fun _ _ _ _ _ _ _ _ _ _ _ r h => by simp [L2_OctClose.j5] at h, fun _ _ _ _ _ _ _ _ r h => by simp [L2_OctClose.j6] at h⟩
 | k + 1 => by
  obtain ⟨ih0, ih1, ih2, ih3, ih4, ih5, ih6⟩ := L2_OctClose.mono_l k
  refine ⟨?_, ?_, ?_, ?_, ?_, ?_, ?_⟩
  ·intro y0 y1 y2 y3 y4
   unfold L2_OctClose.j0
   repeat' first
   | (with_reducible exact ih0 _ _ _ _ _)
   | (with_reducible exact ih1 _ _ _ _ _ _ _ _ _ _ _ _)
   | (with_reducible exact ih2 _ _ _ _ _ _ _ _ _ _ _)
   | (with_reducible exact ih3 _ _ _ _ _ _ _ _ _ _ _ _)
   | (with_reducible exact ih4 _ _ _ _ _ _ _ _ _ _ _ _ _)
   | (with_reducible exact ih5 _ _ _ _ _ _ _ _ _ _ _)
   | (with_reducible exact ih6 _ _ _ _ _ _ _ _)
   | (with_reducible exact L2_isOct.mono _ _ _ _ _)
   | (with_reducible exact L2_near.mono _ _)
   | (with_reducible exact L2_octOf.mono _ _ _)
   | (with_reducible exact L2_odd.mono _)
   | (with_reducible exact R2_ClosedOct.mono _ _ _)
   | (with_reducible exact R2_HasOct.mono _ _ _ _)
   | (with_reducible exact R2_OctError.mono _ _ _)
   | (with_reducible exact LeO.refl _)
   | (with_reducible exact LeO.none _)
   | (with_reducible refine LeO.ite ?_ ?_)
   | (with_reducible refine LeO.bind ?_ (fun _ => ?_))
   | exact ih0 _ _ _ _ _
   | exact ih1 _ _ _ _ _ _ _ _ _ _ _ _
   | exact ih2 _ _ _ _ _ _ _ _ _ _ _
   | exact ih3 _ _ _ _ _ _ _ _ _ _ _ _
   | exact ih4 _ _ _ _ _ _ _ _ _ _ _ _ _
   | exact ih5 _ _ _ _ _ _ _ _ _ _ _
   | exact ih6 _ _ _ _ _ _ _ _
   | exact L2_isOct.mono _ _ _ _ _
   | exact L2_near.mono _ _
   | exact L2_octOf.mono _ _ _
   | exact L2_odd.mono _
   | exact R2_ClosedOct.mono _ _ _
   | exact R2_HasOct.mono _ _ _ _
   | exact R2_OctError.mono _ _ _
   | exact LeO.none _
   | refine LeO.ite ?_ ?_
   | refine LeO.bind ?_ (fun _ => ?_)
  ·intro y0 y1 y2 y3 y4 y5 y6 y7 y8 y9 y10 y11
   unfold L2_OctClose.j1
   repeat' first
   | (with_reducible exact ih0 _ _ _ _ _)
   | (with_reducible exact ih1 _ _ _ _ _ _ _ _ _ _ _ _)
   | (with_reducible exact ih2 _ _ _ _ _ _ _ _ _ _ _)
   | (with_reducible exact ih3 _ _ _ _ _ _ _ _ _ _ _ _)
   | (with_reducible exact ih4 _ _ _ _ _ _ _ _ _ _ _ _ _)
   | (with_reducible exact ih5 _ _ _ _ _ _ _ _ _ _ _)
   | (with_reducible exact ih6 _ _ _ _ _ _ _ _)
   | (with_reducible exact L2_isOct.mono _ _ _ _ _)
   | (with_reducible exact L2_near.mono _ _)
   | (with_reducible exact L2_octOf.mono _ _ _)
   | (with_reducible exact L2_odd.mono _)
   | (with_reducible exact R2_ClosedOct.mono _ _ _)
   | (with_reducible exact R2_HasOct.mono _ _ _ _)
   | (with_reducible exact R2_OctError.mono _ _ _)
   | (with_reducible exact LeO.refl _)
   | (with_reducible exact LeO.none _)
   | (with_reducible refine LeO.ite ?_ ?_)
   | (with_reducible refine LeO.bind ?_ (fun _ => ?_))
   | exact ih0 _ _ _ _ _
   | exact ih1 _ _ _ _ _ _ _ _ _ _ _ _
   | exact ih2 _ _ _ _ _ _ _ _ _ _ _
   | exact ih3 _ _ _ _ _ _ _ _ _ _ _ _
   | exact ih4 _ _ _ _ _ _ _ _ _ _ _ _ _
   | exact ih5 _ _ _ _ _ _ _ _ _ _ _
   | exact ih6 _ _ _ _ _ _ _ _
   | exact L2_isOct.mono _ _ _ _ _
   | exact L2_near.mono _ _
   | exact L2_octOf.mono _ _ _
   | exact L2_odd.mono _
   | exact R2_ClosedOct.mono _ _ _
   | exact R2_HasOct.mono _ _ _ _
   | exact R2_OctError.mono _ _ _
   | exact LeO.none _
   | refine LeO.ite ?_ ?_
   | refine LeO.bind ?_ (fun _ => ?_)
  ·intro y0 y1 y2 y3 y4 y5 y6 y7 y8 y9 y10
   unfold L2_OctClose.j2
   repeat' first
   | (with_reducible exact ih0 _ _ _ _ _)
   | (with_reducible exact ih1 _ _ _ _ _ _ _ _ _ _ _ _)
   | (with_reducible exact ih2 _ _ _ _ _ _ _ _ _ _ _)
   | (with_reducible exact ih3 _ _ _ _ _ _ _ _ _ _ _ _)
   | (with_reducible exact ih4 _ _ _ _ _ _ _ _ _ _ _ _ _)
   | (with_reducible exact ih5 _ _ _ _ _ _ _ _ _ _ _)
   | (with_reducible exact ih6 _ _ _ _ _ _ _ _)
   | (with_reducible exact L2_isOct.mono _ _ _ _ _)
   | (with_reducible exact L2_near.mono _ _)
   | (with_reducible exact L2_octOf.mono _ _ _)
   | (with_reducible exact L2_odd.mono _)
   | (with_reducible exact R2_ClosedOct.mono _ _ _)
   | (with_reducible exact R2_HasOct.mono _ _ _ _)
   | (with_reducible exact R2_OctError.mono _ _ _)
   | (with_reducible exact LeO.refl _)
   | (with_reducible exact LeO.none _)
   | (with_reducible refine LeO.ite ?_ ?_)
   | (with_reducible refine LeO.bind ?_ (fun _ => ?_))
   | exact ih0 _ _ _ _ _
   | exact ih1 _ _ _ _ _ _ _ _ _ _ _ _
   | exact ih2 _ _ _ _ _ _ _ _ _ _ _
   | exact ih3 _ _ _ _ _ _ _ _ _ _ _ _
   | exact ih4 _ _ _ _ _ _ _ _ _ _ _ _ _
   | exact ih5 _ _ _ _ _ _ _ _ _ _ _
   | exact ih6 _ _ _ _ _ _ _ _
   | exact L2_isOct.mono _ _ _ _ _
   | exact L2_near.mono _ _
   | exact L2_octOf.mono _ _ _
   | exact L2_odd.mono _
   | exact R2_ClosedOct.mono _ _ _
   | exact R2_HasOct.mono _ _ _ _
   | exact R2_OctError.mono _ _ _
   | exact LeO.none _
   | refine LeO.ite ?_ ?_
   | refine LeO.bind ?_ (fun _ => ?_)
  ·intro y0 y1 y2 y3 y4 y5 y6 y7 y8 y9 y10 y11
   unfold L2_OctClose.l0
   repeat' first
   | (with_reducible exact ih0 _ _ _ _ _)
   | (with_reducible exact ih1 _ _ _ _ _ _ _ _ _ _ _ _)
   | (with_reducible exact ih2 _ _ _ _ _ _ _ _ _ _ _)
   | (with_reducible exact ih3 _ _ _ _ _ _ _ _ _ _ _ _)
   | (with_reducible exact ih4 _ _ _ _ _ _ _ _ _ _ _ _ _)
   | (with_reducible exact ih5 _ _ _ _ _ _ _ _ _ _ _)
   | (with_reducible exact ih6 _ _ _ _ _ _ _ _)
   | (with_reducible exact L2_isOct.mono _ _ _ _ _)
   | (with_reducible exact L2_near.mono _ _)
   | (with_reducible exact L2_octOf.mono _ _ _)
   | (with_reducible exact L2_odd.mono _)
   | (with_reducible exact R2_ClosedOct.mono _ _ _)
   | (with_reducible exact R2_HasOct.mono _ _ _ _)
   | (with_reducible exact R2_OctError.mono _ _ _)
   | (with_reducible exact LeO.refl _)
   | (with_reducible exact LeO.none _)
   | (with_reducible refine LeO.ite ?_ ?_)
   | (with_reducible refine LeO.bind ?_ (fun _ => ?_))
   | exact ih0 _ _ _ _ _
   | exact ih1 _ _ _ _ _ _ _ _ _ _ _ _
   | exact ih2 _ _ _ _ _ _ _ _ _ _ _
   | exact ih3 _ _ _ _ _ _ _ _ _ _ _ _
   | exact ih4 _ _ _ _ _ _ _ _ _ _ _ _ _
   | exact ih5 _ _ _ _ _ _ _ _ _ _ _
   | exact ih6 _ _ _ _ _ _ _ _
   | exact L2_isOct.mono _ _ _ _ _
   | exact L2_near.mono _ _
   | exact L2_octOf.mono _ _ _
   | exact L2_odd.mono _
   | exact R2_ClosedOct.mono _ _ _
   | exact R2_HasOct.mono _ _ _ _
   | exact R2_OctError.mono _ _ _
   | exact LeO.none _
   | refine LeO.ite ?_ ?_
   | refine LeO.bind ?_ (fun _ => ?_)
  ·intro y0 y1 y2 y3 y4 y5 y6 y7 y8 y9 y10 y11 y12
   unfold L2_OctClose.j4
   repeat' first
   | (with_reducible exact ih0 _ _ _ _ _)
   | (with_reducible exact ih1 _ _ _ _ _ _ _ _ _ _ _ _)
   | (with_reducible exact ih2 _ _ _ _ _ _ _ _ _ _ _)
   | (with_reducible exact ih3 _ _ _ _ _ _ _ _ _ _ _ _)
   | (with_reducible exact ih4 _ _ _ _ _ _ _ _ _ _ _ _ _)
   | (with_reducible exact ih5 _ _ _ _ _ _ _ _ _ _ _)
   | (with_reducible exact ih6 _ _ _ _ _ _ _ _)
   | (with_reducible exact L2_isOct.mono _ _ _ _ _)
   | (with_reducible exact L2_near.mono _ _)
   | (with_reducible exact L2_octOf.mono _ _ _)
   | (with_reducible exact L2_odd.mono _)
   | (with_reducible exact R2_ClosedOct.mono _ _ _)
   | (with_reducible exact R2_HasOct.mono _ _ _ _)
   | (with_reducible exact R2_OctError.mono _ _ _)
   | (with_reducible exact LeO.refl _)
   | (with_reducible exact LeO.none _)
   | (with_reducible refine LeO.ite ?_ ?_)
   | (with_reducible refine LeO.bind ?_ (fun _ => ?_))
   | exact ih0 _ _ _ _ _
   | exact ih1 _ _ _ _ _ _ _ _ _ _ _ _
   | exact ih2 _ _ _ _ _ _ _ _ _ _ _
   | exact ih3 _ _ _ _ _ _ _ _ _ _ _ _
   | exact ih4 _ _ _ _ _ _ _ _ _ _ _ _ _
   | exact ih5 _ _ _ _ _ _ _ _ _ _ _
   | exact ih6 _ _ _ _ _ _ _ _
   | exact L2_isOct.mono _ _ _ _ _
   | exact L2_near.mono _ _
   | exact L2_octOf.mono _ _ _
   | exact L2_odd.mono _
   | exact R2_ClosedOct.mono _ _ _
   | exact R2_HasOct.mono _ _ _ _
   | exact R2_OctError.mono _ _ _
   | exact LeO.none _
   | refine LeO.ite ?_ ?_
   | refine LeO.bind ?_ (fun _ => ?_)
  ·intro y0 y1 y2 y3 y4 y5 y6 y7 y8 y9 y10
   unfold L2_OctClose.j5
   repeat' first
   | (with_reducible exact ih0 _ _ _ _ _)
   | (with_reducible exact ih1 _ _ _ _ _ _ _ _ _ _ _ _)
   | (with_reducible exact ih2 _ _ _ _ _ _ _ _ _ _ _)
   | (with_reducible exact ih3 _ _ _ _ _ _ _ _ _ _ _ _)
   | (with_reducible exact ih4 _ _ _ _ _ _ _ _ _ _ _ _ _)
   | (with_reducible exact ih5 _ _ _ _ _ _ _ _ _ _ _)
   | (with_reducible exact ih6 _ _ _ _ _ _ _ _)
   | (with_reducible exact L2_isOct.mono _ _ _ _ _)
   | (with_reducible exact L2_near.mono _ _)
   | (with_reducible exact L2_octOf.mono _ _ _)
   | (with_reducible exact L2_odd.mono _)
   | (with_reducible exact R2_ClosedOct.mono _ _ _)
   | (with_reducible exact R2_HasOct.mono _ _ _ _)
   | (with_reducible exact R2_OctError.mono _ _ _)
   | (with_reducible exact LeO.refl _)
   | (with_reducible exact LeO.none _)
   | (with_reducible refine LeO.ite ?_ ?_)
   | (with_reducible refine LeO.bind ?_ (fun _ => ?_))
   | exact ih0 _ _ _ _ _
   | exact ih1 _ _ _ _ _ _ _ _ _ _ _ _
   | exact ih2 _ _ _ _ _ _ _ _ _ _ _
   | exact ih3 _ _ _ _ _ _ _ _ _ _ _ _
   | exact ih4 _ _ _ _ _ _ _ _ _ _ _ _ _
   | exact ih5 _ _ _ _ _ _ _ _ _ _ _
   | exact ih6 _ _ _ _ _ _ _ _
   | exact L2_isOct.mono _ _ _ _ _
   | exact L2_near.mono _ _
   | exact L2_octOf.mono _ _ _
   | exact L2_odd.mono _
   | exact R2_ClosedOct.mono _ _ _
   | exact R2_HasOct.mono _ _ _ _
   | exact R2_OctError.mono _ _ _
   | exact LeO.none _
   | refine LeO.ite ?_ ?_
   | refine LeO.bind ?_ (fun _ => ?_)
  intro y0 y1 y2 y3 y4 y5 y6 y7
  unfold L2_OctClose.j6
  repeat' first
  | (with_reducible exact ih0 _ _ _ _ _)
  | (with_reducible exact ih1 _ _ _ _ _ _ _ _ _ _ _ _)
  | (with_reducible exact ih2 _ _ _ _ _ _ _ _ _ _ _)
  | (with_reducible exact ih3 _ _ _ _ _ _ _ _ _ _ _ _)
  | (with_reducible exact ih4 _ _ _ _ _ _ _ _ _ _ _ _ _)
  | (with_reducible exact ih5 _ _ _ _ _ _ _ _ _ _ _)
  | (with_reducible exact ih6 _ _ _ _ _ _ _ _)
  | (with_reducible exact L2_isOct.mono _ _ _ _ _)
  | (with_reducible exact L2_near.mono _ _)
  | (with_reducible exact L2_octOf.mono _ _ _)
  | (with_reducible exact L2_odd.mono _)
  | (with_reducible exact R2_ClosedOct.mono _ _ _)
  | (with_reducible exact R2_HasOct.mono _ _ _ _)
  | (with_reducible exact R2_OctError.mono _ _ _)
  | (with_reducible exact LeO.refl _)
  | (with_reducible exact LeO.none _)
  | (with_reducible refine LeO.ite ?_ ?_)
  | (with_reducible refine LeO.bind ?_ (fun _ => ?_))
  | exact ih0 _ _ _ _ _
  | exact ih1 _ _ _ _ _ _ _ _ _ _ _ _
  | exact ih2 _ _ _ _ _ _ _ _ _ _ _
  | exact ih3 _ _ _ _ _ _ _ _ _ _ _ _
  | exact ih4 _ _ _ _ _ _ _ _ _ _ _ _ _
  | exact ih5 _ _ _ _ _ _ _ _ _ _ _
  | exact ih6 _ _ _ _ _ _ _ _
  | exact L2_isOct.mono _ _ _ _ _
  | exact L2_near.mono _ _
  | exact L2_octOf.mono _ _ _
  | exact L2_odd.mono _
  | exact R2_ClosedOct.mono _ _ _
  | exact R2_HasOct.mono _ _ _ _
  | exact R2_OctError.mono _ _ _
  | exact LeO.none _
  | refine LeO.ite ?_ ?_
  | refine LeO.bind ?_ (fun _ => ?_)
theorem L2_OctClose.mono : ∀ a0 a1 a2 k, LeO (L2_OctClose.f k a0 a1 a2) (L2_OctClose.f (k + 1) a0 a1 a2) := by
 intro a0 a1 a2 k
 obtain ⟨ih0, ih1, ih2, ih3, ih4, ih5, ih6⟩ := L2_OctClose.mono_l k
 unfold L2_OctClose.f
 repeat' first
   | (with_reducible exact ih0 _ _ _ _ _)
   | (with_reducible exact ih1 _ _ _ _ _ _ _ _ _ _ _ _)
   | (with_reducible exact ih2 _ _ _ _ _ _ _ _ _ _ _)
   | (with_reducible exact ih3 _ _ _ _ _ _ _ _ _ _ _ _)
   | (with_reducible exact ih4 _ _ _ _ _ _ _ _ _ _ _ _ _)
   | (with_reducible exact ih5 _ _ _ _ _ _ _ _ _ _ _)
   | (with_reducible exact ih6 _ _ _ _ _ _ _ _)
   | (with_reducible exact L2_isOct.mono _ _ _ _ _)
   | (with_reducible exact L2_near.mono _ _)
   | (with_reducible exact L2_octOf.mono _ _ _)
   | (with_reducible exact L2_odd.mono _)
   | (with_reducible exact R2_ClosedOct.mono _ _ _)
   | (with_reducible exact R2_HasOct.mono _ _ _ _)
   | (with_reducible exact R2_OctError.mono _ _ _)
   | (with_reducible exact LeO.refl _)
   | (with_reducible exact LeO.none _)
   | (with_reducible refine LeO.ite ?_ ?_)
   | (with_reducible refine LeO.bind ?_ (fun _ => ?_))
   | exact ih0 _ _ _ _ _
   | exact ih1 _ _ _ _ _ _ _ _ _ _ _ _
   | exact ih2 _ _ _ _ _ _ _ _ _ _ _
   | exact ih3 _ _ _ _ _ _ _ _ _ _ _ _
   | exact ih4 _ _ _ _ _ _ _ _ _ _ _ _ _
   | exact ih5 _ _ _ _ _ _ _ _ _ _ _
   | exact ih6 _ _ _ _ _ _ _ _
   | exact L2_isOct.mono _ _ _ _ _
   | exact L2_near.mono _ _
   | exact L2_octOf.mono _ _ _
   | exact L2_odd.mono _
   | exact R2_ClosedOct.mono _ _ _
   | exact R2_HasOct.mono _ _ _ _
   | exact R2_OctError.mono _ _ _
   | exact LeO.none _
   | refine LeO.ite ?_ ?_
   | refine LeO.bind ?_ (fun _ => ?_)
set_option maxHeartbeats 8000000 in
set_option maxRecDepth 100000 in
theorem L2_OctClose.calls [EA] (k : Nat) (a0_0 : Int) (A0_1 : Option Addr) (c0_1 : Nat) (l0_1 : List (S67)) (A1 : Option Addr) (c1 : Nat) (l1 : List Int) (r : Bool) (w : World) (hr0_1 : Kd.C k67 w A0_1 l0_1.length l0_1) (hc0_1 : l0_1.length ≤ c0_1) (hr1 : Kd.C (Kd.int .i64) w A1 l1.length l1) (hc1 : l1.length ≤ c1) (h : L2_OctClose.f k a0_0 l0_1 l1 = some r) (h2_ : ErrAt 2 1 w) (h3_ : ErrAt 3 0 w) (h7_ : ErrAt 7 3 w) (h9_ : ErrAll w) :
  Calls Tryd.prog 6 #[.agg #[.int .i64 a0_0, .slice A0_1 l0_1.length c0_1], .slice A1 l1.length c1] w fun e w' => e = .returned (.bool r) ∧ Below w.heap.size w w' := by
 have hE2 := am h2_
 clear h2_
 have hE3 := am h3_
 clear h3_
 have hE7 := am h7_
 clear h7_
 have hE9 := am h9_
 clear h9_
 have hu70 := Tryd.underlying70
 have hu74 := Tryd.underlying74
 have hu32 := Tryd.underlying32
 have HR0_1 := am hr0_1
 have HC0_1 := am hc0_1
 clear hr0_1 hc0_1
 have HR1 := am hr1
 have HC1 := am hc1
 clear hr1 hc1
 have HB := am (Below.refl w.heap.size w)
 have H : ((L2_odd.f k).bind fun t715 => (if t715 = true then (if (l0_1.length : Int) > 100 then (L2_OctClose.j0 k l1 t715 true a0_0 l0_1) else (L2_OctClose.j0 k l1 t715 (decide ((l1.length : Int) > 100)) a0_0 l0_1)) else (L2_OctClose.j0 k l1 t715 true a0_0 l0_1))) = some r := h
 clear h
 replace H := Option.bind_eq_some_iff.mp H
 obtain ⟨t715, A30, H⟩ := H
 replace H : (if t715 = true then (if (l0_1.length : Int) > 100 then (L2_OctClose.j0 k l1 t715 true a0_0 l0_1) else (L2_OctClose.j0 k l1 t715 (decide ((l1.length : Int) > 100)) a0_0 l0_1)) else (L2_OctClose.j0 k l1 t715 true a0_0 l0_1)) = some r := H
 have A3 := am A30
 clear A30
 have HC4 := am H
 clear H
 go_enter Tryd.func6, Tryd.ntmps6
 go_upto_region 2 with (first | ((with_reducible refine gate_dst (N := 2) rfl ?_); (try (refine gate_guard (by rfl) ?_; dsimp only)); refine box_event ?hg (N := 2) ?hd (cs := #[.int .i64 a0_0, .slice A0_1 l0_1.length c0_1]) (t := 70) ?hr ?_; (case hd => rfl); (case hg => rfl); (case hr => first | (go_simp; done) | (go_simp; rfl)); intro gb714 hg w5 hbox hb; have n0_ := am (below_step pw hb); have n1_ := am (hbox); have n2_ := am (sz (w := w) hg pw); have n3_ := am (sz (w := w) hg pw); clear HB; revert n0_ n1_ n2_ n3_; intro HB BK714 GW714 GE714; clear hb hbox hg) | ((with_reducible refine gate_callee (f := 41) rfl ?_); refine goesL_ (some 17) rfl rfl Tryd.func41 kk rfl #[] rfl (by (try simp only [List.map_toArray, List.map_cons, List.map_nil]); first | done | rfl | (simp only [List.length_drop, List.length_take]; rfl)) ?_; (with_reducible refine (L2_odd.calls k  t715 _ A3.out (am (ErrAt.below hE2.out pw)).out (am (ErrAt.below hE3.out pw)).out (am (ErrAt.below hE7.out pw)).out).mono ?_); rintro e w6 ⟨rfl, hb⟩; refine ⟨_, rfl, ?_⟩; have n0_ := bb BK714 hb; have n1_ := am (below_step pw hb); clear BK714 HB; revert n0_ n1_; intro BK714 HB; (try clear hb); (try clear hb2); (try clear hk); (try clear hi)))
 (try simp only [Act.put, List.setIfInBounds_toArray, List.set_cons_zero, List.set_cons_succ])
 go_cut [30] (fun v30 wc => ∃ (kq : Nat) (x30_3 : Bool), v30 = .bool x30_3 ∧ Aside0 (L2_OctClose.j0 kq l1 t715 x30_3 a0_0 l0_1 = some r) ∧ Aside0 (kq ≤ k) ∧ Aside0 (wc.heap[gb714]? = some (.cells #[.int .i64 a0_0, (.slice A0_1 l0_1.length c0_1)] 70 (0, 0))) ∧ Aside0 (Below w.heap.size w wc))
 case first =>
  have H := HC4.out
  clear HC4
  by_cases c7 : t715 = true
  ·subst c7
   have H1 : (if (l0_1.length : Int) > 100 then (L2_OctClose.j0 k l1 true true a0_0 l0_1) else (L2_OctClose.j0 k l1 true (decide ((l1.length : Int) > 100)) a0_0 l0_1)) = some r := by rw [if_pos rfl] at H; exact H
   clear H; have H := H1; clear H1; by_cases c8 : (l0_1.length : Int) > 100
   ·rw [if_pos c8] at H
    have c8b0 : decide (100 < (l0_1.length : Int)) = true := decide_eq_true c8; have c8b1 : decide (100 < l0_1.length) = true := decide_eq_true (by omega); clear c8; (first | rw [c8b0] | (simp only [i64_w, i32_w]; rw [c8b0]) | skip)
    as_aux_lemma =>
     have H' := am H; clear H; have hcz9_0 : w6.cell? ⟨gb714, 0, none⟩ = some (.int .i64 a0_0) := bc BK714 0; have hcz9_1 : w6.cell? ⟨gb714, 1, none⟩ = some (.slice A0_1 l0_1.length c0_1) := bc BK714 1; have hfz9_0 := blk_frozen BK714.out 0; have hfz9_1 := blk_frozen BK714.out 1; go_wp2; go_meet
     case rel => exact ⟨_, (true), pr, H', ⟨by first | omega | exact Nat.le_refl _⟩, ⟨pk⟩, ⟨pw⟩⟩
   rw [if_neg c8] at H; have c8b0 : decide (100 < (l0_1.length : Int)) = false := decide_eq_false c8; have c8b1 : decide (100 < l0_1.length) = false := decide_eq_false (by omega); clear c8; (first | rw [c8b0] | (simp only [i64_w, i32_w]; rw [c8b0]) | skip)
   as_aux_lemma =>
    have H' := am H; clear H; have hcz10_0 : w6.cell? ⟨gb714, 0, none⟩ = some (.int .i64 a0_0) := bc BK714 0; have hcz10_1 : w6.cell? ⟨gb714, 1, none⟩ = some (.slice A0_1 l0_1.length c0_1) := bc BK714 1; have hfz10_0 := blk_frozen BK714.out 0; have hfz10_1 := blk_frozen BK714.out 1; go_wp2; go_meet
    case rel => exact ⟨_, (decide ((l1.length : Int) > 100)), pr, H', ⟨by first | omega | exact Nat.le_refl _⟩, ⟨pk⟩, ⟨pw⟩⟩
  replace c7 := Bool.eq_false_iff.mpr c7
  subst c7
  have H1 : (L2_OctClose.j0 k l1 false true a0_0 l0_1) = some r := by rw [if_neg (show ¬ (false = true) by decide)] at H; exact H
  clear H
  have H := H1
  clear H1
  as_aux_lemma =>
   have H' := am H; clear H; go_wp2; go_meet
   case rel => exact ⟨_, (true), pr, H', ⟨by first | omega | exact Nat.le_refl _⟩, ⟨pk⟩, ⟨pw⟩⟩
 as_aux_lemma =>
 clear HC4
 (try clear c1)
 (try clear p2)
 (try clear c4)
 (try clear c6)
 (try clear c7)
 (try clear c8)
 (try clear c8b0)
 (try clear c8b1)
 (try clear hcz10_0)
 (try clear hcz10_1)
 (try clear hcz9_0)
 (try clear hcz9_1)
 (try clear hfz10_0)
 (try clear hfz10_1)
 (try clear hfz9_0)
 (try clear hfz9_1)
 obtain ⟨kq, x30_3, rfl, HA, HJ3, BK714, HB⟩ := hcut
 cases kq with
 | zero => exact absurd HA.out (by simp [L2_OctClose.j0])
 | succ kj3 =>
  have H := HA.out
  clear HA
  simp only [L2_OctClose.j0] at H
  by_cases c11 : x30_3 = true
  ·subst c11
   have H1 : (some t715) = some r := by rw [if_pos rfl] at H; exact H
   clear H; have H := H1; clear H1
   as_aux_lemma =>
    obtain rfl := Option.some.inj H; go_wp2; go_ret; exact ⟨pe, pw⟩
  replace c11 := Bool.eq_false_iff.mpr c11
  subst c11
  have H1 : ((R2_OctError.f kj3 a0_0 l0_1).bind fun t716 => ((L2_octOf.f kj3 a0_0 l0_1).bind fun bt717 => ((octagon_Close.f bt717.1 bt717.2).bind fun bt721 => ((L2_octOf.f kj3 a0_0 l0_1).bind fun bt728 => ((L2_ints.f l1).bind fun t732 => ((octagon_Has.f bt728.1 bt728.2 t732).bind fun bt735 => ((L2_octOf.f kj3 a0_0 l0_1).bind fun bt737 => ((octagon_Valid.f bt737.1 bt737.2).bind fun t741 => ((L2_coded.f t741 t716).bind fun t742 => (if t742 = true then (if t716 = 0 then (L2_OctClose.j1 kj3 l1 t716 bt721.2.2.1 bt721.2.2.2 bt735.1 bt735.2 t716 ((l1.length : Int) != a0_0) a0_0 l0_1 bt721.1 bt721.2.1) else (L2_OctClose.j1 kj3 l1 t716 bt721.2.2.1 bt721.2.2.2 bt735.1 bt735.2 t716 false a0_0 l0_1 bt721.1 bt721.2.1)) else (none))))))))))) = some r := by rw [if_neg (show ¬ (false = true) by decide)] at H; exact H
  clear H
  have H := H1
  clear H1
  replace H := Option.bind_eq_some_iff.mp H
  obtain ⟨t716, A120, H⟩ := H
  replace H : ((L2_octOf.f kj3 a0_0 l0_1).bind fun bt717 => ((octagon_Close.f bt717.1 bt717.2).bind fun bt721 => ((L2_octOf.f kj3 a0_0 l0_1).bind fun bt728 => ((L2_ints.f l1).bind fun t732 => ((octagon_Has.f bt728.1 bt728.2 t732).bind fun bt735 => ((L2_octOf.f kj3 a0_0 l0_1).bind fun bt737 => ((octagon_Valid.f bt737.1 bt737.2).bind fun t741 => ((L2_coded.f t741 t716).bind fun t742 => (if t742 = true then (if t716 = 0 then (L2_OctClose.j1 kj3 l1 t716 bt721.2.2.1 bt721.2.2.2 bt735.1 bt735.2 t716 ((l1.length : Int) != a0_0) a0_0 l0_1 bt721.1 bt721.2.1) else (L2_OctClose.j1 kj3 l1 t716 bt721.2.2.1 bt721.2.2.2 bt735.1 bt735.2 t716 false a0_0 l0_1 bt721.1 bt721.2.1)) else (none)))))))))) = some r := H
  have A12 := am A120
  clear A120
  replace H := Option.bind_eq_some_iff.mp H
  obtain ⟨⟨t717, t718⟩, A130, H⟩ := H
  replace H : ((octagon_Close.f t717 t718).bind fun bt721 => ((L2_octOf.f kj3 a0_0 l0_1).bind fun bt728 => ((L2_ints.f l1).bind fun t732 => ((octagon_Has.f bt728.1 bt728.2 t732).bind fun bt735 => ((L2_octOf.f kj3 a0_0 l0_1).bind fun bt737 => ((octagon_Valid.f bt737.1 bt737.2).bind fun t741 => ((L2_coded.f t741 t716).bind fun t742 => (if t742 = true then (if t716 = 0 then (L2_OctClose.j1 kj3 l1 t716 bt721.2.2.1 bt721.2.2.2 bt735.1 bt735.2 t716 ((l1.length : Int) != a0_0) a0_0 l0_1 bt721.1 bt721.2.1) else (L2_OctClose.j1 kj3 l1 t716 bt721.2.2.1 bt721.2.2.2 bt735.1 bt735.2 t716 false a0_0 l0_1 bt721.1 bt721.2.1)) else (none))))))))) = some r := H
  have A13 := am A130
  clear A130
  replace H := Option.bind_eq_some_iff.mp H
  obtain ⟨⟨t721, t722, t725, t726⟩, A140, H⟩ := H
  replace H : ((L2_octOf.f kj3 a0_0 l0_1).bind fun bt728 => ((L2_ints.f l1).bind fun t732 => ((octagon_Has.f bt728.1 bt728.2 t732).bind fun bt735 => ((L2_octOf.f kj3 a0_0 l0_1).bind fun bt737 => ((octagon_Valid.f bt737.1 bt737.2).bind fun t741 => ((L2_coded.f t741 t716).bind fun t742 => (if t742 = true then (if t716 = 0 then (L2_OctClose.j1 kj3 l1 t716 t725 t726 bt735.1 bt735.2 t716 ((l1.length : Int) != a0_0) a0_0 l0_1 t721 t722) else (L2_OctClose.j1 kj3 l1 t716 t725 t726 bt735.1 bt735.2 t716 false a0_0 l0_1 t721 t722)) else (none)))))))) = some r := H
  have A14 := am A140
  clear A140
  replace H := Option.bind_eq_some_iff.mp H
  obtain ⟨⟨t728, t729⟩, A150, H⟩ := H
  replace H : ((L2_ints.f l1).bind fun t732 => ((octagon_Has.f t728 t729 t732).bind fun bt735 => ((L2_octOf.f kj3 a0_0 l0_1).bind fun bt737 => ((octagon_Valid.f bt737.1 bt737.2).bind fun t741 => ((L2_coded.f t741 t716).bind fun t742 => (if t742 = true then (if t716 = 0 then (L2_OctClose.j1 kj3 l1 t716 t725 t726 bt735.1 bt735.2 t716 ((l1.length : Int) != a0_0) a0_0 l0_1 t721 t722) else (L2_OctClose.j1 kj3 l1 t716 t725 t726 bt735.1 bt735.2 t716 false a0_0 l0_1 t721 t722)) else (none))))))) = some r := H
  have A15 := am A150
  clear A150
  replace H := Option.bind_eq_some_iff.mp H
  obtain ⟨t732, A160, H⟩ := H
  replace H : ((octagon_Has.f t728 t729 t732).bind fun bt735 => ((L2_octOf.f kj3 a0_0 l0_1).bind fun bt737 => ((octagon_Valid.f bt737.1 bt737.2).bind fun t741 => ((L2_coded.f t741 t716).bind fun t742 => (if t742 = true then (if t716 = 0 then (L2_OctClose.j1 kj3 l1 t716 t725 t726 bt735.1 bt735.2 t716 ((l1.length : Int) != a0_0) a0_0 l0_1 t721 t722) else (L2_OctClose.j1 kj3 l1 t716 t725 t726 bt735.1 bt735.2 t716 false a0_0 l0_1 t721 t722)) else (none)))))) = some r := H
  have A16 := am A160
  clear A160
  replace H := Option.bind_eq_some_iff.mp H
  obtain ⟨⟨t735, t736⟩, A170, H⟩ := H
  replace H : ((L2_octOf.f kj3 a0_0 l0_1).bind fun bt737 => ((octagon_Valid.f bt737.1 bt737.2).bind fun t741 => ((L2_coded.f t741 t716).bind fun t742 => (if t742 = true then (if t716 = 0 then (L2_OctClose.j1 kj3 l1 t716 t725 t726 t735 t736 t716 ((l1.length : Int) != a0_0) a0_0 l0_1 t721 t722) else (L2_OctClose.j1 kj3 l1 t716 t725 t726 t735 t736 t716 false a0_0 l0_1 t721 t722)) else (none))))) = some r := H
  have A17 := am A170
  clear A170
  replace H := Option.bind_eq_some_iff.mp H
  obtain ⟨⟨t737, t738⟩, A180, H⟩ := H
  replace H : ((octagon_Valid.f t737 t738).bind fun t741 => ((L2_coded.f t741 t716).bind fun t742 => (if t742 = true then (if t716 = 0 then (L2_OctClose.j1 kj3 l1 t716 t725 t726 t735 t736 t716 ((l1.length : Int) != a0_0) a0_0 l0_1 t721 t722) else (L2_OctClose.j1 kj3 l1 t716 t725 t726 t735 t736 t716 false a0_0 l0_1 t721 t722)) else (none)))) = some r := H
  have A18 := am A180
  clear A180
  replace H := Option.bind_eq_some_iff.mp H
  obtain ⟨t741, A190, H⟩ := H
  replace H : ((L2_coded.f t741 t716).bind fun t742 => (if t742 = true then (if t716 = 0 then (L2_OctClose.j1 kj3 l1 t716 t725 t726 t735 t736 t716 ((l1.length : Int) != a0_0) a0_0 l0_1 t721 t722) else (L2_OctClose.j1 kj3 l1 t716 t725 t726 t735 t736 t716 false a0_0 l0_1 t721 t722)) else (none))) = some r := H
  have A19 := am A190
  clear A190
  replace H := Option.bind_eq_some_iff.mp H
  obtain ⟨t742, A200, H⟩ := H
  replace H : (if t742 = true then (if t716 = 0 then (L2_OctClose.j1 kj3 l1 t716 t725 t726 t735 t736 t716 ((l1.length : Int) != a0_0) a0_0 l0_1 t721 t722) else (L2_OctClose.j1 kj3 l1 t716 t725 t726 t735 t736 t716 false a0_0 l0_1 t721 t722)) else (none)) = some r := H
  have A20 := am A200
  clear A200
  by_cases c21 : t742 = true
  ·subst c21
   have H1 : (if t716 = 0 then (L2_OctClose.j1 kj3 l1 t716 t725 t726 t735 t736 t716 ((l1.length : Int) != a0_0) a0_0 l0_1 t721 t722) else (L2_OctClose.j1 kj3 l1 t716 t725 t726 t735 t736 t716 false a0_0 l0_1 t721 t722)) = some r := by rw [if_pos rfl] at H; exact H
   clear H; have H := H1; clear H1; have HC22 := am H; clear H; have hcz23_0 : wc.cell? ⟨gb714, 0, none⟩ = some (.int .i64 a0_0) := bc BK714 0; have hcz23_1 : wc.cell? ⟨gb714, 1, none⟩ = some (.slice A0_1 l0_1.length c0_1) := bc BK714 1; have hfz23_0 := blk_frozen BK714.out 0; have hfz23_1 := blk_frozen BK714.out 1
   go_upto_region 10 with (first | ((with_reducible refine gate_callee (f := 42) rfl ?_); refine goesL_ (some 33) rfl rfl Tryd.func42 kk rfl #[.agg #[.int .i64 a0_0, .slice A0_1 l0_1.length c0_1]] rfl (by (try simp only [List.map_toArray, List.map_cons, List.map_nil]); first | done | rfl | (simp only [List.length_drop, List.length_take]; rfl)) ?_; (with_reducible refine (R2_OctError.calls kj3 a0_0 _ _ l0_1 t716 _ ?side1 ?side2 A12.out).mono ?_); (case side1 => repeat (first | exact (Kd.C_below HR0_1.out HB.out) | (with_reducible refine Kd.C_alloc ?_ _) | (with_reducible refine Kd.C_drewN ?_ _) | (with_reducible refine Kd.C_drew ?_))); (case side2 => exact HC0_1.out); rintro e w24 ⟨rfl, hb⟩; refine ⟨_, rfl, ?_⟩; have n0_ := bb BK714 hb; have n1_ := am (below_step pw hb); clear BK714 HB; revert n0_ n1_; intro BK714 HB; (try clear hb); (try clear hb2); (try clear hk); (try clear hi); have hcz25_0 : w24.cell? ⟨gb714, 0, none⟩ = some (.int .i64 a0_0) := bc BK714 0; have hcz25_1 : w24.cell? ⟨gb714, 1, none⟩ = some (.slice A0_1 l0_1.length c0_1) := bc BK714 1; have hfz25_0 := blk_frozen BK714.out 0; have hfz25_1 := blk_frozen BK714.out 1) | ((with_reducible refine gate_callee (f := 44) rfl ?_); refine goesL_ (some 36) rfl rfl Tryd.func44 kk rfl #[.agg #[.int .i64 a0_0, .slice A0_1 l0_1.length c0_1]] rfl (by (try simp only [List.map_toArray, List.map_cons, List.map_nil]); first | done | rfl | (simp only [List.length_drop, List.length_take]; rfl)) ?_; (with_reducible refine (L2_octOf.calls kj3 a0_0 _ _ l0_1 t717 t718 _ ?side1 ?side2 A13.out).mono ?_); (case side1 => repeat (first | exact (Kd.C_below HR0_1.out HB.out) | (with_reducible refine Kd.C_alloc ?_ _) | (with_reducible refine Kd.C_drewN ?_ _) | (with_reducible refine Kd.C_drew ?_))); (case side2 => exact HC0_1.out); rintro e w26 ⟨v719, rfl, ho0, hb⟩; refine ⟨_, rfl, ?_⟩; have n0_ := am (Kd.R_lower ho0 (below_size pw)); have n1_ := bb BK714 hb; have n2_ := am (below_step pw hb); clear BK714 HB; revert n0_ n1_ n2_; intro HO720 BK714 HB; (try clear hb); (try clear hb2); (try clear hk); (try clear hi); (try clear ho0); obtain ⟨Ao27, co27, eo27⟩ := Kd.R_slice HO720.out; subst eo27) | ((with_reducible refine gate_callee (f := 43) rfl ?_); refine goesL_ (some 37) rfl rfl Tryd.func43 kk rfl #[.agg #[.int .i64 t717, .slice Ao27 t718.length co27]] rfl (by (try simp only [List.map_toArray, List.map_cons, List.map_nil]); first | done | rfl | (simp only [List.length_drop, List.length_take]; rfl)) ?_; (with_reducible refine (octagon_Close.calls t717 _ _ t718 t721 t722 t725 t726 _ ?side1 ?side2 A14.out (am (ErrAt.below hE2.out pw)).out (am (ErrAt.below hE3.out pw)).out (am (ErrAt.below hE7.out pw)).out).mono ?_); (case side1 => repeat (first | exact (Kd.R_reads' HO720.out).2.2 | (with_reducible refine Kd.C_alloc ?_ _) | (with_reducible refine Kd.C_drewN ?_ _) | (with_reducible refine Kd.C_drew ?_))); (case side2 => exact (Kd.R_reads' HO720.out).2.1); rintro e w28 ⟨v723, rfl, ho0, hb⟩; refine ⟨_, rfl, ?_⟩; have n0_ := am (Kd.R_elder' (rk HO720) (Kd.R_base ho0) hb); have n1_ := am (Kd.R_lower (Kd.R_new' ho0 (Kd.R_lt (rk HO720))) (below_size pw)); have n2_ := bb BK714 hb; have n3_ := am (below_step pw hb); clear HO720 BK714 HB; revert n0_ n1_ n2_ n3_; intro HO720 HO724 BK714 HB; (try clear hb); (try clear hb2); (try clear hk); (try clear hi); (try clear ho0); (try simp only [errW_none, errW_some])) | ((with_reducible refine gate_dst (N := 7) rfl ?_); (try (refine gate_guard (by rfl) ?_; dsimp only)); refine box_event ?hg (N := 7) ?hd (cs := #[.int .i64 0, .slice none 0 0]) (t := 74) ?hr ?_; (case hd => rfl); (case hg => rfl); (case hr => first | (go_simp; done) | (go_simp; rfl)); intro gb727 hg w29 hbox hb; have n0_ := am (Kd.R_below (rk HO720) hb); have n1_ := am (Kd.R_below (rk HO724) hb); have n2_ := bb BK714 hb; have n3_ := am (below_step pw hb); have n4_ := am (hbox); have n5_ := am (sz (w := w) hg pw); have n6_ := am (sz (w := w) hg pw); have n7_ := am (nl BK714 hg); have n8_ := am ((nl BK714 hg).symm); clear HO720 HO724 BK714 HB; revert n0_ n1_ n2_ n3_ n4_ n5_ n6_ n7_ n8_; intro HO720 HO724 BK714 HB BK727 GW727 GE727 NB714_727 NB727_714; clear hb hbox hg; have hnb30 := NB727_714.out; have hnc30 := NB714_727.out; have hcz31_0 : w29.cell? ⟨gb727, 0, none⟩ = some (.int .i64 0) := bc BK727 0; have hcz31_1 : w29.cell? ⟨gb727, 1, none⟩ = some (.slice none 0 0) := bc BK727 1; have hfz31_0 := blk_frozen BK727.out 0; have hfz31_1 := blk_frozen BK727.out 1; obtain ⟨Ao32, co32, eo32⟩ := Kd.R_slice HO724.out; subst eo32; have hcz33_0 : w29.cell? ⟨gb714, 0, none⟩ = some (.int .i64 a0_0) := bc BK714 0; have hcz33_1 : w29.cell? ⟨gb714, 1, none⟩ = some (.slice A0_1 l0_1.length c0_1) := bc BK714 1; have hfz33_0 := blk_frozen BK714.out 0; have hfz33_1 := blk_frozen BK714.out 1) | ((with_reducible refine gate_callee (f := 44) rfl ?_); refine goesL_ (some 43) rfl rfl Tryd.func44 kk rfl #[.agg #[.int .i64 a0_0, .slice A0_1 l0_1.length c0_1]] rfl (by (try simp only [List.map_toArray, List.map_cons, List.map_nil]); first | done | rfl | (simp only [List.length_drop, List.length_take]; rfl)) ?_; (with_reducible refine (L2_octOf.calls kj3 a0_0 _ _ l0_1 t728 t729 _ ?side1 ?side2 A15.out).mono ?_); (case side1 => exact Kd.C_below HR0_1.out pw); (case side2 => exact HC0_1.out); rintro e w34 ⟨v730, rfl, ho0, hb⟩; refine ⟨_, rfl, ?_⟩; have n0_ := am (Kd.R_elder' (by (with_reducible repeat (first | apply Kd.R_alloc | apply Kd.R_drewN | apply Kd.R_drew)); exact (Kd.R_mono (Kd.R_far (p := ⟨gb727, 1, none⟩) (Kd.R_far (p := ⟨gb727, 0, none⟩) (Kd.R_types HO720.out BK727.out (by decide)) (fun _ hk => hk.2) (.int .i64 t721)) (fun _ hk => hk.2) (.slice Ao32 t722.length co32)) (fun _ h_ => h_.1))) (Kd.R_base ho0) hb); have n1_ := am (Kd.R_elder' (by (with_reducible repeat (first | apply Kd.R_alloc | apply Kd.R_drewN | apply Kd.R_drew)); exact (Kd.R_mono (Kd.R_far (p := ⟨gb727, 1, none⟩) (Kd.R_far (p := ⟨gb727, 0, none⟩) (Kd.R_types HO724.out BK727.out (by decide)) (fun _ hk => hk.2) (.int .i64 t721)) (fun _ hk => hk.2) (.slice Ao32 t722.length co32)) (fun _ h_ => h_.1))) (Kd.R_base ho0) hb); have n2_ := am (Kd.R_lower (Kd.R_new' (Kd.R_new' ho0 (Kd.R_lt (by (with_reducible repeat (first | apply Kd.R_alloc | apply Kd.R_drewN | apply Kd.R_drew)); exact (Kd.R_mono (Kd.R_far (p := ⟨gb727, 1, none⟩) (Kd.R_far (p := ⟨gb727, 0, none⟩) (Kd.R_types HO720.out BK727.out (by decide)) (fun _ hk => hk.2) (.int .i64 t721)) (fun _ hk => hk.2) (.slice Ao32 t722.length co32)) (fun _ h_ => h_.1))))) (Kd.R_lt (by (with_reducible repeat (first | apply Kd.R_alloc | apply Kd.R_drewN | apply Kd.R_drew)); exact (Kd.R_mono (Kd.R_far (p := ⟨gb727, 1, none⟩) (Kd.R_far (p := ⟨gb727, 0, none⟩) (Kd.R_types HO724.out BK727.out (by decide)) (fun _ hk => hk.2) (.int .i64 t721)) (fun _ hk => hk.2) (.slice Ao32 t722.length co32)) (fun _ h_ => h_.1))))) (below_size pw)); have n3_ := am (blk_below (g := gb714) (o := .cells #[.int .i64 a0_0, .slice A0_1 l0_1.length c0_1] 70 (0, 0)) pff hb); have n4_ := am (blk_below (g := gb727) (o := .cells #[.int .i64 t721, .slice Ao32 t722.length co32] 74 (0, 0)) (by (with_reducible repeat (first | refine blk_drewN ?_ _ | refine blk_drew ?_ | refine blk_alloc ?_ _)); refine blk_put (cs := #[.int .i64 t721, .slice none 0 0]) ?_ 1 _ rfl; (with_reducible repeat (first | refine blk_drewN ?_ _ | refine blk_drew ?_ | refine blk_alloc ?_ _)); refine blk_put (cs := #[.int .i64 0, .slice none 0 0]) ?_ 0 _ rfl; (with_reducible repeat (first | refine blk_drewN ?_ _ | refine blk_drew ?_ | refine blk_alloc ?_ _)); exact BK727.out) hb); have n5_ := am (below_step pw hb); clear HO720 HO724 BK714 BK727 HB; revert n0_ n1_ n2_ n3_ n4_ n5_; intro HO720 HO724 HO731 BK714 BK727 HB; (try clear hb); (try clear hb2); (try clear hk); (try clear hi); (try clear ho0)) | ((with_reducible refine gate_callee (f := 19) rfl ?_); refine goesL_ (some 45) rfl rfl Tryd.func19 kk rfl #[.slice A1 l1.length c1] rfl (by (try simp only [List.map_toArray, List.map_cons, List.map_nil]); first | done | rfl | (simp only [List.length_drop, List.length_take]; rfl)) ?_; (with_reducible refine (L2_ints.calls _ _ l1 t732 _ ?side1 ?side2 A16.out).mono ?_); (case side1 => repeat (first | exact (Kd.C_below HR1.out HB.out) | (with_reducible refine Kd.C_alloc ?_ _) | (with_reducible refine Kd.C_drewN ?_ _) | (with_reducible refine Kd.C_drew ?_))); (case side2 => exact HC1.out); rintro e w35 ⟨v733, rfl, ho0, hb⟩; refine ⟨_, rfl, ?_⟩; have n0_ := am (Kd.R_below (rk HO720) hb); have n1_ := am (Kd.R_below (rk HO724) hb); have n2_ := am (Kd.R_below (rk HO731) hb); have n3_ := am (Kd.R_lower ho0 (below_size pw)); have n4_ := bb BK714 hb; have n5_ := bb BK727 hb; have n6_ := am (below_step pw hb); clear HO720 HO724 HO731 BK714 BK727 HB; revert n0_ n1_ n2_ n3_ n4_ n5_ n6_; intro HO720 HO724 HO731 HO734 BK714 BK727 HB; (try clear hb); (try clear hb2); (try clear hk); (try clear hi); (try clear ho0); obtain ⟨Ao36, co36, eo36⟩ := Kd.R_slice HO731.out; subst eo36; obtain ⟨Ao37, co37, eo37⟩ := Kd.R_slice HO734.out; subst eo37) | ((with_reducible refine gate_callee (f := 45) rfl ?_); refine goesL_ (some 46) rfl rfl Tryd.func45 kk rfl #[.agg #[.int .i64 t728, .slice Ao36 t729.length co36], .slice Ao37 t732.length co37] rfl (by (try simp only [List.map_toArray, List.map_cons, List.map_nil]); first | done | rfl | (simp only [List.length_drop, List.length_take]; rfl)) ?_; (with_reducible refine (octagon_Has.calls t728 _ _ t729 _ _ t732 t735 t736 _ ?side1 ?side2 ?side3 ?side4 A17.out (am (ErrAt.below hE2.out pw)).out (am (ErrAt.below hE3.out pw)).out (am (ErrAt.below hE7.out pw)).out).mono ?_); (case side1 => repeat (first | exact (Kd.R_reads' HO731.out).2.2 | (with_reducible refine Kd.C_alloc ?_ _) | (with_reducible refine Kd.C_drewN ?_ _) | (with_reducible refine Kd.C_drew ?_))); (case side2 => exact (Kd.R_reads' HO731.out).2.1); (case side3 => repeat (first | exact (Kd.R_reads' HO734.out).2.2 | (with_reducible refine Kd.C_alloc ?_ _) | (with_reducible refine Kd.C_drewN ?_ _) | (with_reducible refine Kd.C_drew ?_))); (case side4 => exact (Kd.R_reads' HO734.out).2.1); rintro e w38 ⟨rfl, hb⟩; refine ⟨_, rfl, ?_⟩; have n0_ := am (Kd.R_below (rk HO720) hb); have n1_ := am (Kd.R_below (rk HO724) hb); have n2_ := am (Kd.R_below (rk HO731) hb); have n3_ := am (Kd.R_below (rk HO734) hb); have n4_ := bb BK714 hb; have n5_ := bb BK727 hb; have n6_ := am (below_step pw hb); clear HO720 HO724 HO731 HO734 BK714 BK727 HB; revert n0_ n1_ n2_ n3_ n4_ n5_ n6_; intro HO720 HO724 HO731 HO734 BK714 BK727 HB; (try clear hb); (try clear hb2); (try clear hk); (try clear hi); (try simp only [errW_none, errW_some]); have hcz39_0 : w38.cell? ⟨gb714, 0, none⟩ = some (.int .i64 a0_0) := bc BK714 0; have hcz39_1 : w38.cell? ⟨gb714, 1, none⟩ = some (.slice A0_1 l0_1.length c0_1) := bc BK714 1; have hfz39_0 := blk_frozen BK714.out 0; have hfz39_1 := blk_frozen BK714.out 1) | ((with_reducible refine gate_callee (f := 44) rfl ?_); refine goesL_ (some 50) rfl rfl Tryd.func44 kk rfl #[.agg #[.int .i64 a0_0, .slice A0_1 l0_1.length c0_1]] rfl (by (try simp only [List.map_toArray, List.map_cons, List.map_nil]); first | done | rfl | (simp only [List.length_drop, List.length_take]; rfl)) ?_; (with_reducible refine (L2_octOf.calls kj3 a0_0 _ _ l0_1 t737 t738 _ ?side1 ?side2 A18.out).mono ?_); (case side1 => repeat (first | exact (Kd.C_below HR0_1.out HB.out) | (with_reducible refine Kd.C_alloc ?_ _) | (with_reducible refine Kd.C_drewN ?_ _) | (with_reducible refine Kd.C_drew ?_))); (case side2 => exact HC0_1.out); rintro e w40 ⟨v739, rfl, ho0, hb⟩; refine ⟨_, rfl, ?_⟩; have n0_ := am (Kd.R_elder' (rk HO720) (Kd.R_base ho0) hb); have n1_ := am (Kd.R_elder' (rk HO724) (Kd.R_base ho0) hb); have n2_ := am (Kd.R_elder' (rk HO731) (Kd.R_base ho0) hb); have n3_ := am (Kd.R_below (rk HO734) hb); have n4_ := am (Kd.R_lower (Kd.R_new' (Kd.R_new' (Kd.R_new' ho0 (Kd.R_lt (rk HO720))) (Kd.R_lt (rk HO724))) (Kd.R_lt (rk HO731))) (below_size pw)); have n5_ := bb BK714 hb; have n6_ := bb BK727 hb; have n7_ := am (below_step pw hb); clear HO720 HO724 HO731 HO734 BK714 BK727 HB; revert n0_ n1_ n2_ n3_ n4_ n5_ n6_ n7_; intro HO720 HO724 HO731 HO734 HO740 BK714 BK727 HB; (try clear hb); (try clear hb2); (try clear hk); (try clear hi); (try clear ho0); obtain ⟨Ao41, co41, eo41⟩ := Kd.R_slice HO740.out; subst eo41) | ((with_reducible refine gate_callee (f := 46) rfl ?_); refine goesL_ (some 51) rfl rfl Tryd.func46 kk rfl #[.agg #[.int .i64 t737, .slice Ao41 t738.length co41]] rfl (by (try simp only [List.map_toArray, List.map_cons, List.map_nil]); first | done | rfl | (simp only [List.length_drop, List.length_take]; rfl)) ?_; (with_reducible refine (octagon_Valid.calls t737 _ _ t738 t741 _ ?side1 ?side2 A19.out (am (ErrAt.below hE2.out pw)).out (am (ErrAt.below hE3.out pw)).out (am (ErrAt.below hE7.out pw)).out).mono ?_); (case side1 => repeat (first | exact (Kd.R_reads' HO740.out).2.2 | (with_reducible refine Kd.C_alloc ?_ _) | (with_reducible refine Kd.C_drewN ?_ _) | (with_reducible refine Kd.C_drew ?_))); (case side2 => exact (Kd.R_reads' HO740.out).2.1); rintro e w42 ⟨rfl, hb⟩; refine ⟨_, rfl, ?_⟩; have n0_ := am (Kd.R_below (rk HO720) hb); have n1_ := am (Kd.R_below (rk HO724) hb); have n2_ := am (Kd.R_below (rk HO731) hb); have n3_ := am (Kd.R_below (rk HO734) hb); have n4_ := am (Kd.R_below (rk HO740) hb); have n5_ := bb BK714 hb; have n6_ := bb BK727 hb; have n7_ := am (below_step pw hb); clear HO720 HO724 HO731 HO734 HO740 BK714 BK727 HB; revert n0_ n1_ n2_ n3_ n4_ n5_ n6_ n7_; intro HO720 HO724 HO731 HO734 HO740 BK714 BK727 HB; (try clear hb); (try clear hb2); (try clear hk); (try clear hi); (try simp only [errW_none, errW_some]); have CA20 := fun (W : World) (hE9_ : ErrAll W) => L2_coded.calls t741 t716 true W A20.out hE9_; try simp only [errW_none, errW_some] at CA20) | (go_at_call 20; (with_reducible refine (CA20 _ (ErrAll.below hE9.out pw)).mono ?_); rintro e w43 ⟨rfl, hb⟩; have n0_ := am (Kd.R_below (rk HO720) hb); have n1_ := am (Kd.R_below (rk HO724) hb); have n2_ := am (Kd.R_below (rk HO731) hb); have n3_ := am (Kd.R_below (rk HO734) hb); have n4_ := am (Kd.R_below (rk HO740) hb); have n5_ := bb BK714 hb; have n6_ := bb BK727 hb; have n7_ := am (below_step pw hb); clear HO720 HO724 HO731 HO734 HO740 BK714 BK727 HB; revert n0_ n1_ n2_ n3_ n4_ n5_ n6_ n7_; intro HO720 HO724 HO731 HO734 HO740 BK714 BK727 HB; (try clear hb); (try clear hb2); (try clear hk); (try clear hi)))
   (try simp only [Act.put, List.setIfInBounds_toArray, List.set_cons_zero, List.set_cons_succ]); go_cut [64] (fun v64 wc => ∃ (kq : Nat) (x64_21 : Bool), v64 = .bool x64_21 ∧ Aside0 (L2_OctClose.j1 kq l1 t716 t725 t726 t735 t736 t716 x64_21 a0_0 l0_1 t721 t722 = some r) ∧ Aside0 (kq ≤ kj3) ∧ Aside0 (Kd.R k146 146 wc w.heap.size (fun _ => True) (.slice Ao32 t722.length co32) t722) ∧ Aside0 (wc.heap[gb714]? = some (.cells #[.int .i64 a0_0, (.slice A0_1 l0_1.length c0_1)] 70 (0, 0))) ∧ Aside0 (wc.heap[gb727]? = some (.cells #[.int .i64 t721, (.slice Ao32 t722.length co32)] 74 (0, 0))) ∧ Aside0 (Below w.heap.size w wc))
   case first =>
    have H := HC22.out; clear HC22; by_cases c44 : t716 = 0
    ·rw [if_pos c44] at H
     have c44b0 : (t716 == 0) = true := beq_iff_eq.mpr c44; have c44b1 : (t716 != 0) = false := bne_eq_false_iff_eq.mpr c44; clear c44; (first | rw [c44b0] | (simp only [i64_w, i32_w]; rw [c44b0]) | skip)
     as_aux_lemma =>
      have H' := am H; clear H; have hnb45 := NB714_727.out; have hnc45 := NB727_714.out; have hcz46_0 : w43.cell? ⟨gb714, 0, none⟩ = some (.int .i64 a0_0) := bc BK714 0; have hcz46_1 : w43.cell? ⟨gb714, 1, none⟩ = some (.slice A0_1 l0_1.length c0_1) := bc BK714 1; have hfz46_0 := blk_frozen BK714.out 0; have hfz46_1 := blk_frozen BK714.out 1; go_wp2; go_meet
      case rel => exact ⟨_, (((l1.length : Int) != a0_0)), pr, H', ⟨by have := HJ3.out; first | omega | exact Nat.le_refl _⟩, ⟨by (with_reducible repeat (first | apply Kd.R_alloc | apply Kd.R_drewN | apply Kd.R_drew)); exact Kd.R_mono HO724.out (fun _ hk => trivial)⟩, ⟨pk⟩, ⟨pk⟩, ⟨pw⟩⟩
    rw [if_neg c44] at H; have c44b0 : (t716 == 0) = false := beq_eq_false_iff_ne.mpr c44; have c44b1 : (t716 != 0) = true := bne_iff_ne.mpr c44; (first | rw [c44b0] | (simp only [i64_w, i32_w]; rw [c44b0]) | skip)
    as_aux_lemma =>
     have H' := am H; clear H; go_wp2; go_meet
     case rel => exact ⟨_, (false), pr, H', ⟨by have := HJ3.out; first | omega | exact Nat.le_refl _⟩, ⟨by (with_reducible repeat (first | apply Kd.R_alloc | apply Kd.R_drewN | apply Kd.R_drew)); exact Kd.R_mono HO724.out (fun _ hk => trivial)⟩, ⟨pk⟩, ⟨pk⟩, ⟨pw⟩⟩
   as_aux_lemma =>
   clear HC22; (try clear c1); (try clear c2); (try clear p2); (try clear c3); (try clear c4); (try clear c6); (try clear c7); (try clear c8); (try clear c8b0); (try clear c8b1); (try clear c11); (try clear c19); (try clear c21); (try clear c30); (try clear c41); (try clear c42); (try clear c43); (try clear c44); (try clear c44b0); (try clear c44b1); (try clear c45); (try clear c46); (try clear hcz10_0); (try clear hcz10_1); (try clear hcz23_0); (try clear hcz23_1); (try clear hcz25_0); (try clear hcz25_1); (try clear hcz31_0); (try clear hcz31_1); (try clear hcz33_0); (try clear hcz33_1); (try clear hcz39_0); (try clear hcz39_1); (try clear hcz46_0); (try clear hcz46_1); (try clear hcz9_0); (try clear hcz9_1); (try clear hfz10_0); (try clear hfz10_1); (try clear hfz23_0); (try clear hfz23_1); (try clear hfz25_0); (try clear hfz25_1); (try clear hfz31_0); (try clear hfz31_1); (try clear hfz33_0); (try clear hfz33_1); (try clear hfz39_0); (try clear hfz39_1); (try clear hfz46_0); (try clear hfz46_1); (try clear hfz9_0); (try clear hfz9_1); (try clear p2); obtain ⟨kq, x64_21, rfl, HA, HJ21, HO_728001, BK714, BK727, HB⟩ := hcut; cases kq with
   | zero => exact absurd HA.out (by simp [L2_OctClose.j1])
   | succ kj21 =>
    have H := HA.out; clear HA; simp only [L2_OctClose.j1] at H; have HC47 := am H; clear H; go_upto_if 64 with (fail); go_cut [12] (fun v12 wc => ∃ (kq : Nat) (x12_46 : Int), v12 = .int .i64 x12_46 ∧ Aside0 (L2_OctClose.j2 kq l1 t716 t725 t726 t735 t736 x12_46 a0_0 l0_1 t721 t722 = some r) ∧ Aside0 (kq ≤ kj21) ∧ Aside0 (Kd.R k146 146 wc w.heap.size (fun _ => True) (.slice Ao32 t722.length co32) t722) ∧ Aside0 (wc.heap[gb714]? = some (.cells #[.int .i64 a0_0, (.slice A0_1 l0_1.length c0_1)] 70 (0, 0))) ∧ Aside0 (wc.heap[gb727]? = some (.cells #[.int .i64 t721, (.slice Ao32 t722.length co32)] 74 (0, 0))) ∧ Aside0 (Below w.heap.size w wc))
    case first =>
     have H := HC47.out; clear HC47; by_cases c48 : x64_21 = true
     ·subst c48
      have H1 : (L2_OctClose.j2 kj21 l1 t716 t725 t726 t735 t736 3 a0_0 l0_1 t721 t722) = some r := by rw [if_pos rfl] at H; exact H
      clear H; have H := H1; clear H1
      as_aux_lemma =>
       have H' := am H; clear H; go_wp2; go_meet
       case rel => exact ⟨_, (3), pr, H', ⟨by have := HJ3.out; have := HJ21.out; first | omega | exact Nat.le_refl _⟩, ⟨by (with_reducible repeat (first | apply Kd.R_alloc | apply Kd.R_drewN | apply Kd.R_drew)); exact HO_728001.out⟩, ⟨pk⟩, ⟨pk⟩, ⟨pw⟩⟩
     replace c48 := Bool.eq_false_iff.mpr c48; subst c48
     have H1 : (L2_OctClose.j2 kj21 l1 t716 t725 t726 t735 t736 t716 a0_0 l0_1 t721 t722) = some r := by rw [if_neg (show ¬ (false = true) by decide)] at H; exact H
     clear H; have H := H1; clear H1
     as_aux_lemma =>
      have H' := am H; clear H; go_wp2; go_meet
      case rel => exact ⟨_, (t716), pr, H', ⟨by have := HJ3.out; have := HJ21.out; first | omega | exact Nat.le_refl _⟩, ⟨by (with_reducible repeat (first | apply Kd.R_alloc | apply Kd.R_drewN | apply Kd.R_drew)); exact HO_728001.out⟩, ⟨pk⟩, ⟨pk⟩, ⟨pw⟩⟩
    as_aux_lemma =>
    clear HC47; (try clear c1); (try clear c2); (try clear p2); (try clear c3); (try clear c4); (try clear c6); (try clear c7); (try clear c8); (try clear c8b0); (try clear c8b1); (try clear c11); (try clear c19); (try clear c21); (try clear c30); (try clear c41); (try clear c42); (try clear c43); (try clear c44); (try clear c44b0); (try clear c44b1); (try clear c45); (try clear c46); (try clear c48); (try clear hcz10_0); (try clear hcz10_1); (try clear hcz23_0); (try clear hcz23_1); (try clear hcz25_0); (try clear hcz25_1); (try clear hcz31_0); (try clear hcz31_1); (try clear hcz33_0); (try clear hcz33_1); (try clear hcz39_0); (try clear hcz39_1); (try clear hcz46_0); (try clear hcz46_1); (try clear hcz9_0); (try clear hcz9_1); (try clear hfz10_0); (try clear hfz10_1); (try clear hfz23_0); (try clear hfz23_1); (try clear hfz25_0); (try clear hfz25_1); (try clear hfz31_0); (try clear hfz31_1); (try clear hfz33_0); (try clear hfz33_1); (try clear hfz39_0); (try clear hfz39_1); (try clear hfz46_0); (try clear hfz46_1); (try clear hfz9_0); (try clear hfz9_1); (try clear p2); obtain ⟨kq, x12_46, rfl, HA, HJ46, HO_728001, BK714, BK727, HB⟩ := hcut; cases kq with
    | zero => exact absurd HA.out (by simp [L2_OctClose.j2])
    | succ kj46 =>
     have H := HA.out; clear HA; simp only [L2_OctClose.j2] at H; have H' := am H; clear H; go_wp2; go_loopg [12, 13] kj46 (fun kq v12 v13 w' => ∃ (x12_4 : Int) (x13_4 : Int), v12 = .int .i64 x12_4 ∧ v13 = .int .i64 x13_4 ∧ Aside0 (L2_OctClose.l0 kq l1 t716 t725 t726 t735 t736 x12_4 x13_4 a0_0 l0_1 t721 t722 = some r) ∧ Aside0 (kq ≤ kj46) ∧ Aside0 (Kd.R k146 146 w' w.heap.size (fun _ => True) (.slice Ao32 t722.length co32) t722) ∧ Aside0 (w'.heap[gb714]? = some (.cells #[.int .i64 a0_0, (.slice A0_1 l0_1.length c0_1)] 70 (0, 0))) ∧ Aside0 (w'.heap[gb727]? = some (.cells #[.int .i64 t721, (.slice Ao32 t722.length co32)] 74 (0, 0))) ∧ Aside0 (Below w.heap.size w w'))
     case atStart => exact ⟨(x12_46), (0), pr, pr, H', ⟨Nat.le_refl _⟩, ⟨by (with_reducible repeat (first | apply Kd.R_alloc | apply Kd.R_drewN | apply Kd.R_drew)); exact HO_728001.out⟩, ⟨pk⟩, ⟨pk⟩, ⟨pw⟩⟩
     case round =>
      clear H'; (try clear c1); (try clear c2); (try clear p2); (try clear c3); (try clear c4); (try clear c6); (try clear c7); (try clear c8); (try clear c8b0); (try clear c8b1); (try clear c11); (try clear c19); (try clear c21); (try clear c30); (try clear c41); (try clear c42); (try clear c43); (try clear c44); (try clear c44b0); (try clear c44b1); (try clear c45); (try clear c46); (try clear c48); (try clear hcz10_0); (try clear hcz10_1); (try clear hcz23_0); (try clear hcz23_1); (try clear hcz25_0); (try clear hcz25_1); (try clear hcz31_0); (try clear hcz31_1); (try clear hcz33_0); (try clear hcz33_1); (try clear hcz39_0); (try clear hcz39_1); (try clear hcz46_0); (try clear hcz46_1); (try clear hcz9_0); (try clear hcz9_1); (try clear hfz10_0); (try clear hfz10_1); (try clear hfz23_0); (try clear hfz23_1); (try clear hfz25_0); (try clear hfz25_1); (try clear hfz31_0); (try clear hfz31_1); (try clear hfz33_0); (try clear hfz33_1); (try clear hfz39_0); (try clear hfz39_1); (try clear hfz46_0); (try clear hfz46_1); (try clear hfz9_0); (try clear hfz9_1); (try clear p2); obtain ⟨x12_4, x13_4, rfl, rfl, HA, HK4, HO_728001, BK714, BK727, HB⟩ := hrel; cases gk with
      | zero => exact absurd HA.out (by simp [L2_OctClose.l0])
      | succ k4 =>
       have H := HA.out; clear HA; simp only [L2_OctClose.l0] at H; have HC49 := am H; clear H; go_upto_region 13 with (fail); go_cut [72] (fun v72 wc => ∃ (kq : Nat) (x72_48 : Bool), v72 = .bool x72_48 ∧ Aside0 (L2_OctClose.j4 kq l1 t716 t725 t726 t735 t736 x12_4 x13_4 x72_48 a0_0 l0_1 t721 t722 = some r) ∧ Aside0 (kq ≤ k4) ∧ Aside0 (Kd.R k146 146 wc w.heap.size (fun _ => True) (.slice Ao32 t722.length co32) t722) ∧ Aside0 (wc.heap[gb714]? = some (.cells #[.int .i64 a0_0, (.slice A0_1 l0_1.length c0_1)] 70 (0, 0))) ∧ Aside0 (wc.heap[gb727]? = some (.cells #[.int .i64 t721, (.slice Ao32 t722.length co32)] 74 (0, 0))) ∧ Aside0 (Below w.heap.size w wc))
       case first =>
        have H := HC49.out; clear HC49; by_cases c50 : x13_4 < (l1.length : Int)
        ·rw [if_pos c50] at H
         have c50b0 : decide (x13_4 < (l1.length : Int)) = true := decide_eq_true c50; clear c50; (first | rw [c50b0] | (simp only [i64_w, i32_w]; rw [c50b0]) | skip)
         as_aux_lemma =>
          have H' := am H; clear H; go_wp2; go_meet
          case rel => exact ⟨_, ((x12_4 == 0)), pr, H', ⟨by have := HJ3.out; have := HJ21.out; have := HJ46.out; have := HK4.out; first | omega | exact Nat.le_refl _⟩, ⟨by (with_reducible repeat (first | apply Kd.R_alloc | apply Kd.R_drewN | apply Kd.R_drew)); exact HO_728001.out⟩, ⟨pk⟩, ⟨pk⟩, ⟨pw⟩⟩
        rw [if_neg c50] at H; have c50b0 : decide (x13_4 < (l1.length : Int)) = false := decide_eq_false c50; clear c50; (first | rw [c50b0] | (simp only [i64_w, i32_w]; rw [c50b0]) | skip)
        as_aux_lemma =>
         have H' := am H; clear H; go_wp2; go_meet
         case rel => exact ⟨_, (false), pr, H', ⟨by have := HJ3.out; have := HJ21.out; have := HJ46.out; have := HK4.out; first | omega | exact Nat.le_refl _⟩, ⟨by (with_reducible repeat (first | apply Kd.R_alloc | apply Kd.R_drewN | apply Kd.R_drew)); exact HO_728001.out⟩, ⟨pk⟩, ⟨pk⟩, ⟨pw⟩⟩
       as_aux_lemma =>
       clear HC49; (try clear c1); (try clear c2); (try clear p2); (try clear c3); (try clear c4); (try clear c5); (try clear c6); (try clear c7); (try clear c8); (try clear c8b0); (try clear c8b1); (try clear c11); (try clear c19); (try clear c21); (try clear c30); (try clear c41); (try clear c42); (try clear c43); (try clear c44); (try clear c44b0); (try clear c44b1); (try clear c45); (try clear c46); (try clear c48); (try clear c50); (try clear c50b0); (try clear hcz10_0); (try clear hcz10_1); (try clear hcz23_0); (try clear hcz23_1); (try clear hcz25_0); (try clear hcz25_1); (try clear hcz31_0); (try clear hcz31_1); (try clear hcz33_0); (try clear hcz33_1); (try clear hcz39_0); (try clear hcz39_1); (try clear hcz46_0); (try clear hcz46_1); (try clear hcz9_0); (try clear hcz9_1); (try clear hfz10_0); (try clear hfz10_1); (try clear hfz23_0); (try clear hfz23_1); (try clear hfz25_0); (try clear hfz25_1); (try clear hfz31_0); (try clear hfz31_1); (try clear hfz33_0); (try clear hfz33_1); (try clear hfz39_0); (try clear hfz39_1); (try clear hfz46_0); (try clear hfz46_1); (try clear hfz9_0); (try clear hfz9_1); (try clear p2); obtain ⟨kq, x72_48, rfl, HA, HJ48, HO_728001, BK714, BK727, HB⟩ := hcut; cases kq with
       | zero => exact absurd HA.out (by simp [L2_OctClose.j4])
       | succ kj48 =>
        have H := HA.out; clear HA; simp only [L2_OctClose.j4] at H; by_cases c51 : x72_48 = true
        ·subst c51
         have H1 : (if 0 ≤ x13_4 then (if x13_4 < (l1.length : Int) then ((R2_Far.f (rd l1 x13_4) 1099511627776).bind fun t744 => (if t744 = true then (L2_OctClose.l0 kj48 l1 t716 t725 t726 t735 t736 2 (wrap64 (x13_4 + 1)) a0_0 l0_1 t721 t722) else (L2_OctClose.l0 kj48 l1 t716 t725 t726 t735 t736 x12_4 (wrap64 (x13_4 + 1)) a0_0 l0_1 t721 t722))) else (none)) else (none)) = some r := by rw [if_pos rfl] at H; exact H
         clear H; have H := H1; clear H1; by_cases c52 : 0 ≤ x13_4
         ·rw [if_pos c52] at H
          have c52b0 : decide (0 ≤ x13_4) = true := decide_eq_true c52; clear c52; by_cases c53 : x13_4 < (l1.length : Int)
          ·rw [if_pos c53] at H
           have c53b0 : decide (x13_4 < (l1.length : Int)) = true := decide_eq_true c53; clear c53; replace H := Option.bind_eq_some_iff.mp H; obtain ⟨t744, A540, H⟩ := H; replace H : (if t744 = true then (L2_OctClose.l0 kj48 l1 t716 t725 t726 t735 t736 2 (wrap64 (x13_4 + 1)) a0_0 l0_1 t721 t722) else (L2_OctClose.l0 kj48 l1 t716 t725 t726 t735 t736 x12_4 (wrap64 (x13_4 + 1)) a0_0 l0_1 t721 t722)) = some r := H; have A54 := am A540; clear A540; by_cases c55 : t744 = true
           ·subst c55
            have H1 : (L2_OctClose.l0 kj48 l1 t716 t725 t726 t735 t736 2 (wrap64 (x13_4 + 1)) a0_0 l0_1 t721 t722) = some r := by rw [if_pos rfl] at H; exact H
            clear H; have H := H1; clear H1
            as_aux_lemma =>
             have H' := am H; clear H; have p743 : 0 ≤ (x13_4 : Int) := od; have q743 : x13_4 < (l1.length : Int) := od; obtain ⟨ad743, e743, hx743_0⟩ := Kd.at_int HR1.out x13_4 p743 q743; cases e743; replace hx743_0 := (HB.out.cell (World.block_lt_of_cell? w _ hx743_0)).trans hx743_0; replace p743 := eq_true p743; replace q743 := eq_true q743; go_wp2_with (first | ((with_reducible refine gate_callee (f := 22) rfl ?_); refine goesL_ (some 79) rfl rfl Tryd.func22 kk rfl #[.int .i64 (rd l1 x13_4), .int .i64 1099511627776] rfl (by (try simp only [List.map_toArray, List.map_cons, List.map_nil]); first | done | rfl | (simp only [List.length_drop, List.length_take]; rfl)) ?_; (with_reducible refine (R2_Far.calls (rd l1 x13_4) 1099511627776 true _ A54.out).mono ?_); rintro e w' ⟨rfl, ⟨nd, rfl⟩⟩; refine ⟨_, rfl, ?_⟩)); go_roundg kj48
             case measure => have := HJ3.out; have := HJ21.out; have := HJ46.out; have := HK4.out; have := HJ48.out; omega
             case rel => exact ⟨(2), (wrap64 (x13_4 + 1)), pr, pr, H', ⟨by have := HJ3.out; have := HJ21.out; have := HJ46.out; have := HK4.out; have := HJ48.out; omega⟩, ⟨by (with_reducible repeat (first | apply Kd.R_alloc | apply Kd.R_drewN | apply Kd.R_drew)); exact HO_728001.out⟩, ⟨pk⟩, ⟨pk⟩, ⟨pw⟩⟩
           replace c55 := Bool.eq_false_iff.mpr c55; subst c55
           have H1 : (L2_OctClose.l0 kj48 l1 t716 t725 t726 t735 t736 x12_4 (wrap64 (x13_4 + 1)) a0_0 l0_1 t721 t722) = some r := by rw [if_neg (show ¬ (false = true) by decide)] at H; exact H
           clear H; have H := H1; clear H1
           as_aux_lemma =>
            have H' := am H; clear H; have p743 : 0 ≤ (x13_4 : Int) := od; have q743 : x13_4 < (l1.length : Int) := od; obtain ⟨ad743, e743, hx743_0⟩ := Kd.at_int HR1.out x13_4 p743 q743; cases e743; replace hx743_0 := (HB.out.cell (World.block_lt_of_cell? w _ hx743_0)).trans hx743_0; replace p743 := eq_true p743; replace q743 := eq_true q743; go_wp2_with (first | ((with_reducible refine gate_callee (f := 22) rfl ?_); refine goesL_ (some 79) rfl rfl Tryd.func22 kk rfl #[.int .i64 (rd l1 x13_4), .int .i64 1099511627776] rfl (by (try simp only [List.map_toArray, List.map_cons, List.map_nil]); first | done | rfl | (simp only [List.length_drop, List.length_take]; rfl)) ?_; (with_reducible refine (R2_Far.calls (rd l1 x13_4) 1099511627776 false _ A54.out).mono ?_); rintro e w' ⟨rfl, ⟨nd, rfl⟩⟩; refine ⟨_, rfl, ?_⟩)); go_roundg kj48
            case measure => have := HJ3.out; have := HJ21.out; have := HJ46.out; have := HK4.out; have := HJ48.out; omega
            case rel => exact ⟨(x12_4), (wrap64 (x13_4 + 1)), pr, pr, H', ⟨by have := HJ3.out; have := HJ21.out; have := HJ46.out; have := HK4.out; have := HJ48.out; omega⟩, ⟨by (with_reducible repeat (first | apply Kd.R_alloc | apply Kd.R_drewN | apply Kd.R_drew)); exact HO_728001.out⟩, ⟨pk⟩, ⟨pk⟩, ⟨pw⟩⟩
          rw [if_neg c53] at H; exact absurd H (by simp)
         rw [if_neg c52] at H; exact absurd H (by simp)
        replace c51 := Bool.eq_false_iff.mpr c51; subst c51
        have H1 : (if x12_4 = 0 then ((R2_HasOct.f kj48 a0_0 l0_1 l1).bind fun t745 => (L2_OctClose.j5 kj48 t716 t725 t726 t735 t736 x12_4 t745 a0_0 l0_1 t721 t722)) else (L2_OctClose.j5 kj48 t716 t725 t726 t735 t736 x12_4 false a0_0 l0_1 t721 t722)) = some r := by rw [if_neg (show ¬ (false = true) by decide)] at H; exact H
        clear H; have H := H1; clear H1; have HC56 := am H; clear H; go_upto_region 17 with (fail); go_cut [14] (fun v14 wc => ∃ (kq : Nat) (x14_55 : Bool), v14 = .bool x14_55 ∧ Aside0 (L2_OctClose.j5 kq t716 t725 t726 t735 t736 x12_4 x14_55 a0_0 l0_1 t721 t722 = some r) ∧ Aside0 (kq ≤ kj48) ∧ Aside0 (Kd.R k146 146 wc w.heap.size (fun _ => True) (.slice Ao32 t722.length co32) t722) ∧ Aside0 (wc.heap[gb714]? = some (.cells #[.int .i64 a0_0, (.slice A0_1 l0_1.length c0_1)] 70 (0, 0))) ∧ Aside0 (wc.heap[gb727]? = some (.cells #[.int .i64 t721, (.slice Ao32 t722.length co32)] 74 (0, 0))) ∧ Aside0 (Below w.heap.size w wc))
        case first =>
         have H := HC56.out; clear HC56; by_cases c57 : x12_4 = 0
         ·rw [if_pos c57] at H
          have c57b0 : (x12_4 == 0) = true := beq_iff_eq.mpr c57; have c57b1 : (x12_4 != 0) = false := bne_eq_false_iff_eq.mpr c57; clear c57; (first | rw [c57b0] | (simp only [i64_w, i32_w]; rw [c57b0]) | skip); replace H := Option.bind_eq_some_iff.mp H; obtain ⟨t745, A580, H⟩ := H; replace H : (L2_OctClose.j5 kj48 t716 t725 t726 t735 t736 x12_4 t745 a0_0 l0_1 t721 t722) = some r := H; have A58 := am A580; clear A580
          as_aux_lemma =>
           have H' := am H; clear H; have hnb59 := NB714_727.out; have hnc59 := NB727_714.out; have hcz60_0 : wc.cell? ⟨gb714, 0, none⟩ = some (.int .i64 a0_0) := bc BK714 0; have hcz60_1 : wc.cell? ⟨gb714, 1, none⟩ = some (.slice A0_1 l0_1.length c0_1) := bc BK714 1; have hfz60_0 := blk_frozen BK714.out 0; have hfz60_1 := blk_frozen BK714.out 1
           go_wp2_with (first | (go_at_call 47; (with_reducible refine (R2_HasOct.calls kj48 a0_0 _ _ l0_1 _ _ l1 t745 _ ?side1 ?side2 ?side3 ?side4 A58.out).mono ?_); (case side1 => repeat (first | exact (Kd.C_below HR0_1.out HB.out) | (with_reducible refine Kd.C_alloc ?_ _) | (with_reducible refine Kd.C_drewN ?_ _) | (with_reducible refine Kd.C_drew ?_))); (case side2 => exact HC0_1.out); (case side3 => repeat (first | exact (Kd.C_below HR1.out HB.out) | (with_reducible refine Kd.C_alloc ?_ _) | (with_reducible refine Kd.C_drewN ?_ _) | (with_reducible refine Kd.C_drew ?_))); (case side4 => exact HC1.out); rintro e w61 ⟨rfl, hb⟩; have n0_ := am (Kd.R_below (rk HO_728001) hb); have n1_ := bb BK714 hb; have n2_ := bb BK727 hb; have n3_ := am (below_step pw hb); clear HO_728001 BK714 BK727 HB; revert n0_ n1_ n2_ n3_; intro HO_728001 BK714 BK727 HB; (try clear hb); (try clear hb2); (try clear hk); (try clear hi)))
           go_meet
           case rel => exact ⟨_, (t745), pr, H', ⟨by have := HJ3.out; have := HJ21.out; have := HJ46.out; have := HK4.out; have := HJ48.out; first | omega | exact Nat.le_refl _⟩, ⟨by (with_reducible repeat (first | apply Kd.R_alloc | apply Kd.R_drewN | apply Kd.R_drew)); exact HO_728001.out⟩, ⟨pk⟩, ⟨pk⟩, ⟨pw⟩⟩
         rw [if_neg c57] at H; have c57b0 : (x12_4 == 0) = false := beq_eq_false_iff_ne.mpr c57; have c57b1 : (x12_4 != 0) = true := bne_iff_ne.mpr c57; (first | rw [c57b0] | (simp only [i64_w, i32_w]; rw [c57b0]) | skip)
         as_aux_lemma =>
          have H' := am H; clear H; go_wp2; go_meet
          case rel => exact ⟨_, (false), pr, H', ⟨by have := HJ3.out; have := HJ21.out; have := HJ46.out; have := HK4.out; have := HJ48.out; first | omega | exact Nat.le_refl _⟩, ⟨by (with_reducible repeat (first | apply Kd.R_alloc | apply Kd.R_drewN | apply Kd.R_drew)); exact HO_728001.out⟩, ⟨pk⟩, ⟨pk⟩, ⟨pw⟩⟩
        as_aux_lemma =>
        clear HC56; (try clear c1); (try clear c2); (try clear p2); (try clear c3); (try clear c4); (try clear c5); (try clear c6); (try clear p6); (try clear c7); (try clear p7); (try clear q7); (try clear hx7); (try clear c8); (try clear c8b0); (try clear c8b1); (try clear c11); (try clear c19); (try clear c21); (try clear c22); (try clear c30); (try clear c41); (try clear c42); (try clear c43); (try clear c44); (try clear c44b0); (try clear c44b1); (try clear c45); (try clear c46); (try clear c48); (try clear c50); (try clear c50b0); (try clear c51); (try clear c52); (try clear c52b0); (try clear c53); (try clear c53b0); (try clear c55); (try clear c57); (try clear c57b0); (try clear c57b1); (try clear c59); (try clear hcz10_0); (try clear hcz10_1); (try clear hcz23_0); (try clear hcz23_1); (try clear hcz25_0); (try clear hcz25_1); (try clear hcz31_0); (try clear hcz31_1); (try clear hcz33_0); (try clear hcz33_1); (try clear hcz39_0); (try clear hcz39_1); (try clear hcz46_0); (try clear hcz46_1); (try clear hcz60_0); (try clear hcz60_1); (try clear hcz9_0); (try clear hcz9_1); (try clear hfz10_0); (try clear hfz10_1); (try clear hfz23_0); (try clear hfz23_1); (try clear hfz25_0); (try clear hfz25_1); (try clear hfz31_0); (try clear hfz31_1); (try clear hfz33_0); (try clear hfz33_1); (try clear hfz39_0); (try clear hfz39_1); (try clear hfz46_0); (try clear hfz46_1); (try clear hfz60_0); (try clear hfz60_1); (try clear hfz9_0); (try clear hfz9_1); (try clear hx743_0); (try clear p2); (try clear p743); (try clear q743); obtain ⟨kq, x14_55, rfl, HA, HJ55, HO_728001, BK714, BK727, HB⟩ := hcut; cases kq with
        | zero => exact absurd HA.out (by simp [L2_OctClose.j5])
        | succ kj55 =>
         have H := HA.out; clear HA; simp only [L2_OctClose.j5] at H; have HC62 := am H; clear H; go_upto_region 18 with (fail); go_cut [95] (fun v95 wc => ∃ (kq : Nat) (x95_61 : Bool), v95 = .bool x95_61 ∧ Aside0 (L2_OctClose.j6 kq t716 t725 t726 x95_61 a0_0 l0_1 t721 t722 = some r) ∧ Aside0 (kq ≤ kj55) ∧ Aside0 (Kd.R k146 146 wc w.heap.size (fun _ => True) (.slice Ao32 t722.length co32) t722) ∧ Aside0 (wc.heap[gb714]? = some (.cells #[.int .i64 a0_0, (.slice A0_1 l0_1.length c0_1)] 70 (0, 0))) ∧ Aside0 (wc.heap[gb727]? = some (.cells #[.int .i64 t721, (.slice Ao32 t722.length co32)] 74 (0, 0))) ∧ Aside0 (Below w.heap.size w wc))
         case first =>
          have H := HC62.out; clear HC62; replace H := Option.bind_eq_some_iff.mp H; obtain ⟨t746, A630, H⟩ := H; replace H : (if t746 = true then (L2_OctClose.j6 kj55 t716 t725 t726 (t735 != x14_55) a0_0 l0_1 t721 t722) else (L2_OctClose.j6 kj55 t716 t725 t726 true a0_0 l0_1 t721 t722)) = some r := H; have A63 := am A630; clear A630; by_cases c64 : t746 = true
          ·subst c64
           have H1 : (L2_OctClose.j6 kj55 t716 t725 t726 (t735 != x14_55) a0_0 l0_1 t721 t722) = some r := by rw [if_pos rfl] at H; exact H
           clear H; have H := H1; clear H1
           as_aux_lemma =>
            have H' := am H; clear H; have CA63 := fun (W : World) (hE9_ : ErrAll W) => L2_coded.calls t736 x12_4 true W A63.out hE9_
            try simp only [errW_none, errW_some] at CA63
            go_wp2_with (first | (go_at_call 20; (with_reducible refine (CA63 _ (ErrAll.below hE9.out pw)).mono ?_); rintro e w65 ⟨rfl, hb⟩; have n0_ := am (Kd.R_below (rk HO_728001) hb); have n1_ := bb BK714 hb; have n2_ := bb BK727 hb; have n3_ := am (below_step pw hb); clear HO_728001 BK714 BK727 HB; revert n0_ n1_ n2_ n3_; intro HO_728001 BK714 BK727 HB; (try clear hb); (try clear hb2); (try clear hk); (try clear hi))); go_meet
            case rel => exact ⟨_, ((t735 != x14_55)), pr, H', ⟨by have := HJ3.out; have := HJ21.out; have := HJ46.out; have := HK4.out; have := HJ48.out; have := HJ55.out; first | omega | exact Nat.le_refl _⟩, ⟨by (with_reducible repeat (first | apply Kd.R_alloc | apply Kd.R_drewN | apply Kd.R_drew)); exact HO_728001.out⟩, ⟨pk⟩, ⟨pk⟩, ⟨pw⟩⟩
          replace c64 := Bool.eq_false_iff.mpr c64; subst c64
          have H1 : (L2_OctClose.j6 kj55 t716 t725 t726 true a0_0 l0_1 t721 t722) = some r := by rw [if_neg (show ¬ (false = true) by decide)] at H; exact H
          clear H; have H := H1; clear H1
          as_aux_lemma =>
           have H' := am H; clear H; have CA63 := fun (W : World) (hE9_ : ErrAll W) => L2_coded.calls t736 x12_4 false W A63.out hE9_
           try simp only [errW_none, errW_some] at CA63
           go_wp2_with (first | (go_at_call 20; (with_reducible refine (CA63 _ (ErrAll.below hE9.out pw)).mono ?_); rintro e w66 ⟨rfl, hb⟩; have n0_ := am (Kd.R_below (rk HO_728001) hb); have n1_ := bb BK714 hb; have n2_ := bb BK727 hb; have n3_ := am (below_step pw hb); clear HO_728001 BK714 BK727 HB; revert n0_ n1_ n2_ n3_; intro HO_728001 BK714 BK727 HB; (try clear hb); (try clear hb2); (try clear hk); (try clear hi))); go_meet
           case rel => exact ⟨_, (true), pr, H', ⟨by have := HJ3.out; have := HJ21.out; have := HJ46.out; have := HK4.out; have := HJ48.out; have := HJ55.out; first | omega | exact Nat.le_refl _⟩, ⟨by (with_reducible repeat (first | apply Kd.R_alloc | apply Kd.R_drewN | apply Kd.R_drew)); exact HO_728001.out⟩, ⟨pk⟩, ⟨pk⟩, ⟨pw⟩⟩
         as_aux_lemma =>
         clear HC62; (try clear c1); (try clear c2); (try clear p2); (try clear c3); (try clear c4); (try clear c5); (try clear c6); (try clear p6); (try clear c7); (try clear p7); (try clear q7); (try clear hx7); (try clear c8); (try clear c8b0); (try clear c8b1); (try clear c11); (try clear c19); (try clear c21); (try clear c22); (try clear c30); (try clear c41); (try clear c42); (try clear c43); (try clear c44); (try clear c44b0); (try clear c44b1); (try clear c45); (try clear c46); (try clear c48); (try clear c50); (try clear c50b0); (try clear c51); (try clear c52); (try clear c52b0); (try clear c53); (try clear c53b0); (try clear c55); (try clear c57); (try clear c57b0); (try clear c57b1); (try clear c59); (try clear c64); (try clear p64); (try clear hcz10_0); (try clear hcz10_1); (try clear hcz23_0); (try clear hcz23_1); (try clear hcz25_0); (try clear hcz25_1); (try clear hcz31_0); (try clear hcz31_1); (try clear hcz33_0); (try clear hcz33_1); (try clear hcz39_0); (try clear hcz39_1); (try clear hcz46_0); (try clear hcz46_1); (try clear hcz60_0); (try clear hcz60_1); (try clear hcz9_0); (try clear hcz9_1); (try clear hfz10_0); (try clear hfz10_1); (try clear hfz23_0); (try clear hfz23_1); (try clear hfz25_0); (try clear hfz25_1); (try clear hfz31_0); (try clear hfz31_1); (try clear hfz33_0); (try clear hfz33_1); (try clear hfz39_0); (try clear hfz39_1); (try clear hfz46_0); (try clear hfz46_1); (try clear hfz60_0); (try clear hfz60_1); (try clear hfz9_0); (try clear hfz9_1); (try clear hx743_0); (try clear p2); (try clear p6); (try clear p7); (try clear p743); (try clear q7); (try clear q743); obtain ⟨kq, x95_61, rfl, HA, HJ61, HO_728001, BK714, BK727, HB⟩ := hcut; cases kq with
         | zero => exact absurd HA.out (by simp [L2_OctClose.j6])
         | succ kj61 =>
          have H := HA.out; clear HA; simp only [L2_OctClose.j6] at H; by_cases c67 : x95_61 = true
          ·subst c67
           have H1 : (none) = some r := by rw [if_pos rfl] at H; exact H
           clear H; have H := H1; clear H1; exact absurd H (by simp)
          replace c67 := Bool.eq_false_iff.mpr c67; subst c67
          have H1 : (if t716 > 0 then ((L2_coded.f t726 t716).bind fun t747 => (if t747 = true then (if t725 = true then (none) else ((L2_noOct.f t721 t722).bind fun t748 => (some t748))) else (none))) else ((L2_near.f kj61 l0_1).bind fun t749 => (if t749 = true then ((R2_ClosedOct.f kj61 a0_0 l0_1).bind fun bt750 => (if t726.isNone = true then (if (t725 == bt750.2.2) = true then ((L2_isOct.f kj61 t721 t722 bt750.1 bt750.2.1).bind fun t757 => (some t757)) else (none)) else (none))) else (if t726.isNone = true then (some true) else (none))))) = some r := by rw [if_neg (show ¬ (false = true) by decide)] at H; exact H
          clear H; have H := H1; clear H1; by_cases c68 : t716 > 0
          ·rw [if_pos c68] at H
           have c68b0 : decide (0 < t716) = true := decide_eq_true c68; clear c68; replace H := Option.bind_eq_some_iff.mp H; obtain ⟨t747, A690, H⟩ := H; replace H : (if t747 = true then (if t725 = true then (none) else ((L2_noOct.f t721 t722).bind fun t748 => (some t748))) else (none)) = some r := H; have A69 := am A690; clear A690; by_cases c70 : t747 = true
           ·subst c70
            have H1 : (if t725 = true then (none) else ((L2_noOct.f t721 t722).bind fun t748 => (some t748))) = some r := by rw [if_pos rfl] at H; exact H
            clear H; have H := H1; clear H1; by_cases c71 : t725 = true
            ·subst c71
             have H1 : (none) = some r := by rw [if_pos rfl] at H; exact H
             clear H; have H := H1; clear H1; exact absurd H (by simp)
            replace c71 := Bool.eq_false_iff.mpr c71; subst c71
            have H1 : ((L2_noOct.f t721 t722).bind fun t748 => (some t748)) = some r := by rw [if_neg (show ¬ (false = true) by decide)] at H; exact H
            clear H; have H := H1; clear H1; replace H := Option.bind_eq_some_iff.mp H; obtain ⟨t748, A720, H⟩ := H; replace H : (some t748) = some r := H; have A72 := am A720; clear A720
            as_aux_lemma =>
             obtain rfl := Option.some.inj H; have CA69 := fun (W : World) (hE9_ : ErrAll W) => L2_coded.calls t726 t716 true W A69.out hE9_
             try simp only [errW_none, errW_some] at CA69
             go_wp2_with (first | (go_at_call 20; (with_reducible refine (CA69 _ (ErrAll.below hE9.out pw)).mono ?_); rintro e w73 ⟨rfl, hb⟩; have n0_ := am (Kd.R_below (rk HO_728001) hb); have n1_ := bb BK714 hb; have n2_ := bb BK727 hb; have n3_ := am (below_step pw hb); clear HO_728001 BK714 BK727 HB; revert n0_ n1_ n2_ n3_; intro HO_728001 BK714 BK727 HB; (try clear hb); (try clear hb2); (try clear hk); (try clear hi); have hnb74 := NB727_714.out; have hnc74 := NB714_727.out; have hcz75_0 : w73.cell? ⟨gb727, 0, none⟩ = some (.int .i64 t721) := bc BK727 0; have hcz75_1 : w73.cell? ⟨gb727, 1, none⟩ = some (.slice Ao32 t722.length co32) := bc BK727 1; have hfz75_0 := blk_frozen BK727.out 0; have hfz75_1 := blk_frozen BK727.out 1) | (go_at_call 48; (with_reducible refine (L2_noOct.calls t721 _ _ t722 t748 _ ?side1 ?side2 A72.out).mono ?_); (case side1 => repeat (first | exact (Kd.R_reads' HO_728001.out).2.2 | (with_reducible refine Kd.C_alloc ?_ _) | (with_reducible refine Kd.C_drewN ?_ _) | (with_reducible refine Kd.C_drew ?_))); (case side2 => exact (Kd.R_reads' HO_728001.out).2.1); rintro e w76 ⟨rfl, hb⟩; have n0_ := am (Kd.R_below (rk HO_728001) hb); have n1_ := bb BK714 hb; have n2_ := bb BK727 hb; have n3_ := am (below_step pw hb); clear HO_728001 BK714 BK727 HB; revert n0_ n1_ n2_ n3_; intro HO_728001 BK714 BK727 HB; (try clear hb); (try clear hb2); (try clear hk); (try clear hi)))
             go_ret; exact ⟨pe, pw⟩
           replace c70 := Bool.eq_false_iff.mpr c70; subst c70
           have H1 : (none) = some r := by rw [if_neg (show ¬ (false = true) by decide)] at H; exact H
           clear H; have H := H1; clear H1; exact absurd H (by simp)
          rw [if_neg c68] at H; have c68b0 : decide (0 < t716) = false := decide_eq_false c68; clear c68; replace H := Option.bind_eq_some_iff.mp H; obtain ⟨t749, A770, H⟩ := H; replace H : (if t749 = true then ((R2_ClosedOct.f kj61 a0_0 l0_1).bind fun bt750 => (if t726.isNone = true then (if (t725 == bt750.2.2) = true then ((L2_isOct.f kj61 t721 t722 bt750.1 bt750.2.1).bind fun t757 => (some t757)) else (none)) else (none))) else (if t726.isNone = true then (some true) else (none))) = some r := H; have A77 := am A770; clear A770; by_cases c78 : t749 = true
          ·subst c78
           have H1 : ((R2_ClosedOct.f kj61 a0_0 l0_1).bind fun bt750 => (if t726.isNone = true then (if (t725 == bt750.2.2) = true then ((L2_isOct.f kj61 t721 t722 bt750.1 bt750.2.1).bind fun t757 => (some t757)) else (none)) else (none))) = some r := by rw [if_pos rfl] at H; exact H
           clear H; have H := H1; clear H1; replace H := Option.bind_eq_some_iff.mp H; obtain ⟨⟨t750, t751, t754⟩, A790, H⟩ := H; replace H : (if t726.isNone = true then (if (t725 == t754) = true then ((L2_isOct.f kj61 t721 t722 t750 t751).bind fun t757 => (some t757)) else (none)) else (none)) = some r := H; have A79 := am A790; clear A790; rcases t726 with _ | q756
           ·have H1 : (if (t725 == t754) = true then ((L2_isOct.f kj61 t721 t722 t750 t751).bind fun t757 => (some t757)) else (none)) = some r := by rw [if_pos (show (none : Option Int).isNone = true by rfl)] at H; exact H
            clear H; have H := H1; clear H1
            try simp only [errW_none, errW_some]
            by_cases c80 : (t725 == t754) = true
            ·rw [if_pos c80] at H
             have c80b0 : (t725 == t754) = true := c80; (try (have c80b1 : decide (t725 = t754) = true := by simpa using c80)); (try (have c80b2 : (t725 == t754) = true := by simpa using c80)); clear c80; replace H := Option.bind_eq_some_iff.mp H; obtain ⟨t757, A810, H⟩ := H; replace H : (some t757) = some r := H; have A81 := am A810; clear A810
             as_aux_lemma =>
              obtain rfl := Option.some.inj H; have hnb82 := NB714_727.out; have hnc82 := NB727_714.out; have hcz83_0 : wc.cell? ⟨gb714, 0, none⟩ = some (.int .i64 a0_0) := bc BK714 0; have hcz83_1 : wc.cell? ⟨gb714, 1, none⟩ = some (.slice A0_1 l0_1.length c0_1) := bc BK714 1; have hfz83_0 := blk_frozen BK714.out 0; have hfz83_1 := blk_frozen BK714.out 1
              go_wp2_with (first | ((with_reducible refine gate_callee (f := 25) rfl ?_); refine goesL_ (some 111) rfl rfl Tryd.func25 kk rfl #[.slice A0_1 l0_1.length c0_1] rfl (by (try simp only [List.map_toArray, List.map_cons, List.map_nil]); first | done | rfl | (simp only [List.length_drop, List.length_take]; rfl)) ?_; (with_reducible refine (L2_near.calls kj61 _ _ l0_1 true _ ?side1 ?side2 A77.out).mono ?_); (case side1 => repeat (first | exact (Kd.C_below HR0_1.out HB.out) | (with_reducible refine Kd.C_alloc ?_ _) | (with_reducible refine Kd.C_drewN ?_ _) | (with_reducible refine Kd.C_drew ?_))); (case side2 => exact HC0_1.out); rintro e w' ⟨rfl, ⟨nd, rfl⟩⟩; refine ⟨_, rfl, ?_⟩; (try (rw [drewN_self wc]; generalize hq_ : World.drewN wc _ = wc; have n0_ : Aside0 (Kd.R k146 146 wc w.heap.size (fun _ => True) (.slice Ao32 t722.length co32) t722) := ⟨by rw [← hq_]; exact (rk HO_728001)⟩; have n1_ : Aside0 (wc.heap[gb714]? = some (.cells #[.int .i64 a0_0, .slice A0_1 l0_1.length c0_1] 70 (0, 0))) := ⟨by rw [← hq_]; exact pk⟩; have n2_ : Aside0 (wc.heap[gb727]? = some (.cells #[.int .i64 t721, .slice Ao32 t722.length co32] 74 (0, 0))) := ⟨by rw [← hq_]; exact pk⟩; have n3_ : Aside0 (Below w.heap.size w wc) := ⟨by rw [← hq_]; exact pw⟩; clear HO_728001 BK714 BK727 HB hq_; have HO_728001 := n0_; have BK714 := n1_; have BK727 := n2_; have HB := n3_; clear n0_ n1_ n2_ n3_; have hqz714_0 : wc.cell? ⟨gb714, 0, none⟩ = some (.int .i64 a0_0) := bc BK714 0; have hqf714_0 := blk_frozen BK714.out 0; have hqz714_1 : wc.cell? ⟨gb714, 1, none⟩ = some (.slice A0_1 l0_1.length c0_1) := bc BK714 1; have hqf714_1 := blk_frozen BK714.out 1; have hqz727_0 : wc.cell? ⟨gb727, 0, none⟩ = some (.int .i64 t721) := bc BK727 0; have hqf727_0 := blk_frozen BK727.out 0; have hqz727_1 : wc.cell? ⟨gb727, 1, none⟩ = some (.slice Ao32 t722.length co32) := bc BK727 1; have hqf727_1 := blk_frozen BK727.out 1))) | ((with_reducible refine gate_callee (f := 49) rfl ?_); refine goesL_ (some 117) rfl rfl Tryd.func49 kk rfl #[.agg #[.int .i64 a0_0, .slice A0_1 l0_1.length c0_1]] rfl (by (try simp only [List.map_toArray, List.map_cons, List.map_nil]); first | done | rfl | (simp only [List.length_drop, List.length_take]; rfl)) ?_; (with_reducible refine (R2_ClosedOct.calls kj61 a0_0 _ _ l0_1 t750 t751 t754 _ ?side1 ?side2 A79.out).mono ?_); (case side1 => repeat (first | exact (Kd.C_below HR0_1.out HB.out) | (with_reducible refine Kd.C_alloc ?_ _) | (with_reducible refine Kd.C_drewN ?_ _) | (with_reducible refine Kd.C_drew ?_))); (case side2 => exact HC0_1.out); rintro e w84 ⟨v752, rfl, ho0, hb⟩; refine ⟨_, rfl, ?_⟩; have n0_ := am (Kd.R_below (rk HO_728001) hb); have n1_ := am (Kd.R_lower ho0 (below_size pw)); have n2_ := bb BK714 hb; have n3_ := bb BK727 hb; have n4_ := am (below_step pw hb); clear HO_728001 BK714 BK727 HB; revert n0_ n1_ n2_ n3_ n4_; intro HO_728001 HO753 BK714 BK727 HB; (try clear hb); (try clear hb2); (try clear hk); (try clear hi); (try clear ho0)) | ((with_reducible refine gate_dst (N := 15) rfl ?_); (try (refine gate_guard (by rfl) ?_; dsimp only)); refine box_event ?hg (N := 15) ?hd (cs := #[.int .i64 0, .slice none 0 0]) (t := 70) ?hr ?_; (case hd => rfl); (case hg => rfl); (case hr => first | (go_simp; done) | (go_simp; rfl)); intro gb755 hg w85 hbox hb; have n0_ := am (Kd.R_below (rk HO_728001) hb); have n1_ := am (Kd.R_below (rk HO753) hb); have n2_ := bb BK714 hb; have n3_ := bb BK727 hb; have n4_ := am (below_step pw hb); have n5_ := am (hbox); have n6_ := am (sz (w := w) hg pw); have n7_ := am (sz (w := w) hg pw); have n8_ := am (nl BK714 hg); have n9_ := am ((nl BK714 hg).symm); have n10_ := am (nl BK727 hg); have n11_ := am ((nl BK727 hg).symm); clear HO_728001 HO753 BK714 BK727 HB; revert n0_ n1_ n2_ n3_ n4_ n5_ n6_ n7_ n8_ n9_ n10_ n11_; intro HO_728001 HO753 BK714 BK727 HB BK755 GW755 GE755 NB714_755 NB755_714 NB727_755 NB755_727; clear hb hbox hg; have hnb86 := NB755_714.out; have hnc86 := NB714_755.out; have hnb87 := NB755_727.out; have hnc87 := NB727_755.out; have hcz88_0 : w85.cell? ⟨gb755, 0, none⟩ = some (.int .i64 0) := bc BK755 0; have hcz88_1 : w85.cell? ⟨gb755, 1, none⟩ = some (.slice none 0 0) := bc BK755 1; have hfz88_0 := blk_frozen BK755.out 0; have hfz88_1 := blk_frozen BK755.out 1; obtain ⟨Ao89, co89, eo89⟩ := Kd.R_slice HO753.out; subst eo89; have hcz90_0 : w85.cell? ⟨gb727, 0, none⟩ = some (.int .i64 t721) := bc BK727 0; have hcz90_1 : w85.cell? ⟨gb727, 1, none⟩ = some (.slice Ao32 t722.length co32) := bc BK727 1; have hfz90_0 := blk_frozen BK727.out 0; have hfz90_1 := blk_frozen BK727.out 1) | (go_at_call 50; (with_reducible refine (L2_isOct.calls kj61 t721 _ _ t722 t750 _ _ t751 t757 _ ?side1 ?side2 ?side3 ?side4 A81.out).mono ?_); (case side1 => refine (Kd.R_reads' (e := 146) (base := w.heap.size) (ok := fun k_ => True) (n := t722.length) (c := co32) ?_).2.2; exact (by (with_reducible repeat (first | apply Kd.R_alloc | apply Kd.R_drewN | apply Kd.R_drew)); exact (Kd.R_mono (Kd.R_far (p := ⟨gb755, 1, none⟩) (Kd.R_far (p := ⟨gb755, 0, none⟩) (Kd.R_types HO_728001.out BK755.out (by decide)) (fun _ hk => hk.2) (.int .i64 t750)) (fun _ hk => hk.2) (.slice Ao89 t751.length co89)) (fun _ h_ => h_.1)))); (case side2 => exact (Kd.R_reads' HO_728001.out).2.1); (case side3 => refine (Kd.R_reads' (e := 67) (base := w.heap.size) (ok := fun k_ => True) (n := t751.length) (c := co89) ?_).2.2; exact (by (with_reducible repeat (first | apply Kd.R_alloc | apply Kd.R_drewN | apply Kd.R_drew)); exact (Kd.R_mono (Kd.R_far (p := ⟨gb755, 1, none⟩) (Kd.R_far (p := ⟨gb755, 0, none⟩) (Kd.R_types HO753.out BK755.out (by decide)) (fun _ hk => hk.2) (.int .i64 t750)) (fun _ hk => hk.2) (.slice Ao89 t751.length co89)) (fun _ h_ => h_.1)))); (case side4 => exact (Kd.R_reads' HO753.out).2.1); rintro e w91 ⟨rfl, hb⟩; have n0_ := am (Kd.R_below (by (with_reducible repeat (first | apply Kd.R_alloc | apply Kd.R_drewN | apply Kd.R_drew)); exact (Kd.R_mono (Kd.R_far (p := ⟨gb755, 1, none⟩) (Kd.R_far (p := ⟨gb755, 0, none⟩) (Kd.R_types HO_728001.out BK755.out (by decide)) (fun _ hk => hk.2) (.int .i64 t750)) (fun _ hk => hk.2) (.slice Ao89 t751.length co89)) (fun _ h_ => h_.1))) hb); have n1_ := am (Kd.R_below (by (with_reducible repeat (first | apply Kd.R_alloc | apply Kd.R_drewN | apply Kd.R_drew)); exact (Kd.R_mono (Kd.R_far (p := ⟨gb755, 1, none⟩) (Kd.R_far (p := ⟨gb755, 0, none⟩) (Kd.R_types HO753.out BK755.out (by decide)) (fun _ hk => hk.2) (.int .i64 t750)) (fun _ hk => hk.2) (.slice Ao89 t751.length co89)) (fun _ h_ => h_.1))) hb); have n2_ := am (blk_below (g := gb714) (o := .cells #[.int .i64 a0_0, .slice A0_1 l0_1.length c0_1] 70 (0, 0)) pff hb); have n3_ := am (blk_below (g := gb727) (o := .cells #[.int .i64 t721, .slice Ao32 t722.length co32] 74 (0, 0)) pff hb); have n4_ := am (blk_below (g := gb755) (o := .cells #[.int .i64 t750, .slice Ao89 t751.length co89] 70 (0, 0)) (by (with_reducible repeat (first | refine blk_drewN ?_ _ | refine blk_drew ?_ | refine blk_alloc ?_ _)); refine blk_put (cs := #[.int .i64 t750, .slice none 0 0]) ?_ 1 _ rfl; (with_reducible repeat (first | refine blk_drewN ?_ _ | refine blk_drew ?_ | refine blk_alloc ?_ _)); refine blk_put (cs := #[.int .i64 0, .slice none 0 0]) ?_ 0 _ rfl; (with_reducible repeat (first | refine blk_drewN ?_ _ | refine blk_drew ?_ | refine blk_alloc ?_ _)); exact BK755.out) hb); have n5_ := am (below_step pw hb); clear HO_728001 HO753 BK714 BK727 BK755 HB; revert n0_ n1_ n2_ n3_ n4_ n5_; intro HO_728001 HO753 BK714 BK727 BK755 HB; (try clear hb); (try clear hb2); (try clear hk); (try clear hi)))
              go_ret; exact ⟨pe, pw⟩
            rw [if_neg c80] at H; exact absurd H (by simp)
           have H1 : (none) = some r := by rw [if_neg (show ¬ (some q756).isNone = true by simp)] at H; exact H
           clear H; have H := H1; clear H1
           try simp only [errW_none, errW_some]
           exact absurd H (by simp)
          replace c78 := Bool.eq_false_iff.mpr c78; subst c78
          have H1 : (if t726.isNone = true then (some true) else (none)) = some r := by rw [if_neg (show ¬ (false = true) by decide)] at H; exact H
          clear H; have H := H1; clear H1; rcases t726 with _ | q758
          ·have H1 : (some true) = some r := by rw [if_pos (show (none : Option Int).isNone = true by rfl)] at H; exact H
           clear H; have H := H1; clear H1
           try simp only [errW_none, errW_some]
           as_aux_lemma =>
            obtain rfl := Option.some.inj H; have hnb92 := NB714_727.out; have hnc92 := NB727_714.out; have hcz93_0 : wc.cell? ⟨gb714, 0, none⟩ = some (.int .i64 a0_0) := bc BK714 0; have hcz93_1 : wc.cell? ⟨gb714, 1, none⟩ = some (.slice A0_1 l0_1.length c0_1) := bc BK714 1; have hfz93_0 := blk_frozen BK714.out 0; have hfz93_1 := blk_frozen BK714.out 1
            go_wp2_with (first | ((with_reducible refine gate_callee (f := 25) rfl ?_); refine goesL_ (some 111) rfl rfl Tryd.func25 kk rfl #[.slice A0_1 l0_1.length c0_1] rfl (by (try simp only [List.map_toArray, List.map_cons, List.map_nil]); first | done | rfl | (simp only [List.length_drop, List.length_take]; rfl)) ?_; (with_reducible refine (L2_near.calls kj61 _ _ l0_1 false _ ?side1 ?side2 A77.out).mono ?_); (case side1 => repeat (first | exact (Kd.C_below HR0_1.out HB.out) | (with_reducible refine Kd.C_alloc ?_ _) | (with_reducible refine Kd.C_drewN ?_ _) | (with_reducible refine Kd.C_drew ?_))); (case side2 => exact HC0_1.out); rintro e w' ⟨rfl, ⟨nd, rfl⟩⟩; refine ⟨_, rfl, ?_⟩))
            go_ret; exact ⟨pe, pw⟩
          have H1 : (none) = some r := by rw [if_neg (show ¬ (some q758).isNone = true by simp)] at H; exact H
          clear H; have H := H1; clear H1
          try simp only [errW_none, errW_some]
          exact absurd H (by simp)
  replace c21 := Bool.eq_false_iff.mpr c21
  subst c21
  have H1 : (none) = some r := by rw [if_neg (show ¬ (false = true) by decide)] at H; exact H
  clear H
  have H := H1
  clear H1
  exact absurd H (by simp)

end Go.Proofs.YtcalcnfppnbooaaDoor.Z
