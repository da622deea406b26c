import Derived.Test.YtcalcnfppnbooaaDoorOxSp
import Derived.Test.YtcalcnfppnbooaaDoorOxEb
import Derived.Test.YtcalcnfppnbooaaDoorOxFldO
import Derived.Test.YtcalcnfppnbooaaDoorOxCd
import Derived.Test.YtcalcnfppnbooaaDoorOxQg
import Derived.Test.YtcalcnfppnbooaaDoorOxZ0
import Derived.Test.YtcalcnfppnbooaaDoorOxZ4
import Derived.Test.YtcalcnfppnbooaaDoorOxZ5
import Derived.Test.YtcalcnfppnbooaaDoorOxZ23
import Derived.Test.YtcalcnfppnbooaaDoorOxZ24
import Derived.Test.YtcalcnfppnbooaaDoorOxZ25
import Derived.Test.YtcalcnfppnbooaaDoorOxZ26
import Derived.Test.YtcalcnfppnbooaaDoorOxZ34
-- Written by wip/xprint.py (the session's program over the kit's print).
namespace Go.Proofs.YtcalcnfppnbooaaDoor.Z
open Go.RowKit Go.Proofs.YtcalcnfppnbooaaDoorW.PrintWords Go.Proofs.YtcalcnfppnbooaaDoorW.PrintLast Go.Proofs.YtcalcnfppnbooaaDoorW.PrintMore Go.Proofs.Rcg Go.Proofs.Rco
attribute [local go_sem] Go.Proofs.Rcg.fld_oct1 Go.Proofs.Rcg.fld_roct1 max2_int min2_int max_two min_two max_three min_three max_four min_four   -- for this text's walks alone
set_option linter.unusedVariables false
set_option linter.unusedSimpArgs false

/-! ### L2_OctGuard: function 8 -/
mutual
def L2_OctGuard.j0 : Nat → Int → Int → Int → Int → Int → Bool → Bool → Int → List (S67) → Option (Bool)
 | 0, _, _, _, _, _, _, _, _, _ => none
 | k + 1, x1, x2, x3, x4, x5, x13, x28, x1100000, x1100001 => if x28 = true then (some x13) else ((R2_OctError.f k x1100000 x1100001).bind fun t1101 => (if t1101 = 0 then (if x2 < 0 then (L2_OctGuard.j1 k x1 x2 x3 x4 x5 t1101 true x1100000 x1100001) else (if x2 ≥ x1100000 then (L2_OctGuard.j1 k x1 x2 x3 x4 x5 t1101 true x1100000 x1100001) else (if x4 < 0 then (L2_OctGuard.j1 k x1 x2 x3 x4 x5 t1101 true x1100000 x1100001) else (if x4 ≥ x1100000 then (L2_OctGuard.j1 k x1 x2 x3 x4 x5 t1101 true x1100000 x1100001) else (L2_OctGuard.j1 k x1 x2 x3 x4 x5 t1101 (x2 == x4) x1100000 x1100001))))) else (L2_OctGuard.j1 k x1 x2 x3 x4 x5 t1101 false x1100000 x1100001)))
def L2_OctGuard.j1 : Nat → Int → Int → Int → Int → Int → Int → Bool → Int → List (S67) → Option (Bool)
 | 0, _, _, _, _, _, _, _, _, _ => none
 | k + 1, x1, x2, x3, x4, x5, x14, x58, x1100000, x1100001 => if x58 = true then (L2_OctGuard.j2 k x1 x2 x3 x4 x5 3 x1100000 x1100001) else (L2_OctGuard.j2 k x1 x2 x3 x4 x5 x14 x1100000 x1100001)
def L2_OctGuard.j2 : Nat → Int → Int → Int → Int → Int → Int → Int → List (S67) → Option (Bool)
 | 0, _, _, _, _, _, _, _, _ => none
 | k + 1, x1, x2, x3, x4, x5, x14, x1100000, x1100001 => if x14 = 0 then (if x1 < (-1) then (L2_OctGuard.j3 k x1 x2 x3 x4 x5 x14 true x1100000 x1100001) else (if x1 > 1 then (L2_OctGuard.j3 k x1 x2 x3 x4 x5 x14 true x1100000 x1100001) else (if x3 < (-1) then (L2_OctGuard.j3 k x1 x2 x3 x4 x5 x14 true x1100000 x1100001) else (L2_OctGuard.j3 k x1 x2 x3 x4 x5 x14 (decide (x3 > 1)) x1100000 x1100001)))) else (L2_OctGuard.j3 k x1 x2 x3 x4 x5 x14 false x1100000 x1100001)
def L2_OctGuard.j3 : Nat → Int → Int → Int → Int → Int → Int → Bool → Int → List (S67) → Option (Bool)
 | 0, _, _, _, _, _, _, _, _, _ => none
 | k + 1, x1, x2, x3, x4, x5, x14, x76, x1100000, x1100001 => if x76 = true then (L2_OctGuard.j4 k x1 x2 x3 x4 x5 3 x1100000 x1100001) else (L2_OctGuard.j4 k x1 x2 x3 x4 x5 x14 x1100000 x1100001)
def L2_OctGuard.j4 : Nat → Int → Int → Int → Int → Int → Int → Int → List (S67) → Option (Bool)
 | 0, _, _, _, _, _, _, _, _ => none
 | k + 1, x1, x2, x3, x4, x5, x14, x1100000, x1100001 => if x14 = 0 then ((R2_Far.f x5 1099511627776).bind fun t1102 => (L2_OctGuard.j5 k x1 x2 x3 x4 x5 x14 t1102 x1100000 x1100001)) else (L2_OctGuard.j5 k x1 x2 x3 x4 x5 x14 false x1100000 x1100001)
def L2_OctGuard.j5 : Nat → Int → Int → Int → Int → Int → Int → Bool → Int → List (S67) → Option (Bool)
 | 0, _, _, _, _, _, _, _, _, _ => none
 | k + 1, x1, x2, x3, x4, x5, x14, x82, x1100000, x1100001 => if x82 = true then (L2_OctGuard.j6 k x1 x2 x3 x4 x5 2 x1100000 x1100001) else (L2_OctGuard.j6 k x1 x2 x3 x4 x5 x14 x1100000 x1100001)
def L2_OctGuard.j6 : Nat → Int → Int → Int → Int → Int → Int → Int → List (S67) → Option (Bool)
 | 0, _, _, _, _, _, _, _, _ => none
 | k + 1, x1, x2, x3, x4, x5, x14, x1100000, x1100001 => (L2_octOf.f k x1100000 x1100001).bind fun bt1103 => ((octagon_Guard.f bt1103.1 bt1103.2 x1 x2 x3 x4 x5).bind fun bt1107 => (if x14 > 0 then ((L2_coded.f bt1107.2.2.2 x14).bind fun t1114 => (if t1114 = true then (if bt1107.2.2.1 = true then (none) else ((L2_noOct.f bt1107.1 bt1107.2.1).bind fun t1115 => (some t1115))) else (none))) else ((L2_near.f k x1100001).bind fun t1116 => (if t1116 = true then ((R2_Far.f x5 1048576).bind fun t1117 => (L2_OctGuard.j7 k x1 x2 x3 x4 x5 bt1107.2.2.1 bt1107.2.2.2 t1117 x1100000 x1100001 bt1107.1 bt1107.2.1)) else (L2_OctGuard.j7 k x1 x2 x3 x4 x5 bt1107.2.2.1 bt1107.2.2.2 true x1100000 x1100001 bt1107.1 bt1107.2.1)))))
def L2_OctGuard.j7 : Nat → Int → Int → Int → Int → Int → Bool → Option Int → Bool → Int → List (S67) → Int → List (S146) → Option (Bool)
 | 0, _, _, _, _, _, _, _, _, _, _, _, _ => none
 | k + 1, x1, x2, x3, x4, x5, x16, x17, x115, x1100000, x1100001, x1114000, x1114001 => if x115 = true then (some true) else ((R2_ClosedOct.f k x1100000 x1100001).bind fun bt1118 => (if x1 = 0 then (L2_OctGuard.j8 k x1 x2 x3 x4 x5 x16 x17 bt1118.2.2 (x3 != 0) x1100000 x1100001 x1114000 x1114001 bt1118.1 bt1118.2.1) else (L2_OctGuard.j8 k x1 x2 x3 x4 x5 x16 x17 bt1118.2.2 true x1100000 x1100001 x1114000 x1114001 bt1118.1 bt1118.2.1)))
def L2_OctGuard.j8 : Nat → Int → Int → Int → Int → Int → Bool → Option Int → Bool → Bool → Int → List (S67) → Int → List (S146) → Int → List (S67) → Option (Bool)
 | 0, _, _, _, _, _, _, _, _, _, _, _, _, _, _, _ => none
 | k + 1, x1, x2, x3, x4, x5, x16, x17, x19, x126, x1100000, x1100001, x1114000, x1114001, x1124000, x1124001 => if x126 = true then ((R2_BoundOct.f k x1100000 x1100001 x1 x2 x3 x4 x5).bind fun bt1124 => ((R2_ClosedOct.f k bt1124.1 bt1124.2).bind fun bt1128 => (if x17.isNone = true then (if (x16 == bt1128.2.2) = true then ((L2_isOct.f k x1114000 x1114001 bt1128.1 bt1128.2.1).bind fun t1134 => (some t1134)) else (none)) else (none)))) else (if x5 < 0 then (if x17.isNone = true then (if (x16 == false) = true then ((L2_isOct.f k x1114000 x1114001 0 ([] : List (S67))).bind fun t1136 => (some t1136)) else (none)) else (none)) else (if x17.isNone = true then (if (x16 == x19) = true then ((L2_isOct.f k x1114000 x1114001 x1124000 x1124001).bind fun t1138 => (some t1138)) else (none)) else (none)))
end
def L2_OctGuard.f (k : Nat) (a0_0 : Int) (l0_1 : List (S67)) (a1 : Int) (a2 : Int) (a3 : Int) (a4 : Int) (a5 : Int) : Option (Bool) := (L2_odd.f k).bind fun t1100 => (if t1100 = true then (L2_OctGuard.j0 k a1 a2 a3 a4 a5 t1100 (decide ((l0_1.length : Int) > 100)) a0_0 l0_1) else (L2_OctGuard.j0 k a1 a2 a3 a4 a5 t1100 true a0_0 l0_1))
theorem L2_OctGuard.mono_l : ∀ k, (∀ y0 y1 y2 y3 y4 y5 y6 y7 y8, LeO (L2_OctGuard.j0 k y0 y1 y2 y3 y4 y5 y6 y7 y8) (L2_OctGuard.j0 (k + 1) y0 y1 y2 y3 y4 y5 y6 y7 y8)) ∧ (∀ y0 y1 y2 y3 y4 y5 y6 y7 y8, LeO (L2_OctGuard.j1 k y0 y1 y2 y3 y4 y5 y6 y7 y8) (L2_OctGuard.j1 (k + 1) y0 y1 y2 y3 y4 y5 y6 y7 y8)) ∧ (∀ y0 y1 y2 y3 y4 y5 y6 y7, LeO (L2_OctGuard.j2 k y0 y1 y2 y3 y4 y5 y6 y7) (L2_OctGuard.j2 (k + 1) y0 y1 y2 y3 y4 y5 y6 y7)) ∧ (∀ y0 y1 y2 y3 y4 y5 y6 y7 y8, LeO (L2_OctGuard.j3 k y0 y1 y2 y3 y4 y5 y6 y7 y8) (L2_OctGuard.j3 (k + 1) y0 y1 y2 y3 y4 y5 y6 y7 y8)) ∧ (∀ y0 y1 y2 y3 y4 y5 y6 y7, LeO (L2_OctGuard.j4 k y0 y1 y2 y3 y4 y5 y6 y7) (L2_OctGuard.j4 (k + 1) y0 y1 y2 y3 y4 y5 y6 y7)) ∧ (∀ y0 y1 y2 y3 y4 y5 y6 y7 y8, LeO (L2_OctGuard.j5 k y0 y1 y2 y3 y4 y5 y6 y7 y8) (L2_OctGuard.j5 (k + 1) y0 y1 y2 y3 y4 y5 y6 y7 y8)) ∧ (∀ y0 y1 y2 y3 y4 y5 y6 y7, LeO (L2_OctGuard.j6 k y0 y1 y2 y3 y4 y5 y6 y7) (L2_OctGuard.j6 (k + 1) y0 y1 y2 y3 y4 y5 y6 y7)) ∧ (∀ y0 y1 y2 y3 y4 y5 y6 y7 y8 y9 y10 y11, LeO (L2_OctGuard.j7 k y0 y1 y2 y3 y4 y5 y6 y7 y8 y9 y10 y11) (L2_OctGuard.j7 (k + 1) y0 y1 y2 y3 y4 y5 y6 y7 y8 y9 y10 y11)) ∧ (∀ y0 y1 y2 y3 y4 y5 y6 y7 y8 y9 y10 y11 y12 y13 y14, LeO (L2_OctGuard.j8 k y0 y1 y2 y3 y4 y5 y6 y7 y8 y9 y10 y11 y12 y13 y14) (L2_OctGuard.j8 (k + 1) y0 y1 y2 y3 y4 y5 y6 y7 y8 y9 y10 y11 y12 y13 y14))
 | 0 => ⟨fun _ _ _ _ _ _ _ _ _ r h => by simp [L2_OctGuard.j0] at h, fun _ _ _ _ _ _ _ _ _ r h => by simp [L2_OctGuard.j1] at h, fun _ _ _ _ _ _ _ _ r h => by simp [L2_OctGuard.j2] at h, fun _ _ _ _ _ _ _ _ _ r h => by simp [L2_OctGuard.j3] at h, fun _ _ _ _ _ _ _ _ r h => by simp [L2_OctGuard.j4] at h, fun _ _ _ _ _ _ _ _ _ r h => by simp [L2_OctGuard.j5] at h, fun _ _ _ _ _ _ _ _ r h => by simp [L2_OctGuard.j6] at h, fun _ _ _ _ _ _ _ _ _ _ _ _ r h => by simp [L2_OctGuard.j7] at h, fun _ _ _ _ _ _ _ _ _ _ _ _ _ _ _ r h => by simp [L2_OctGuard.j8] at h⟩
 | k + 1 => by
  obtain ⟨ih0, ih1, ih2, ih3, ih4, ih5, ih6, ih7, ih8⟩ := L2_OctGuard.mono_l k
  refine ⟨?_, ?_, ?_, ?_, ?_, ?_, ?_, ?_, ?_⟩
  ·intro y0 y1 y2 y3 y4 y5 y6 y7 y8
   unfold L2_OctGuard.j0
   repeat' first
   | (with_reducible exact ih0 _ _ _ _ _ _ _ _ _)
   | (with_reducible exact ih1 _ _ _ _ _ _ _ _ _)
   | (with_reducible exact ih2 _ _ _ _ _ _ _ _)
   | (with_reducible exact ih3 _ _ _ _ _ _ _ _ _)
   | (with_reducible exact ih4 _ _ _ _ _ _ _ _)
   | (with_reducible exact ih5 _ _ _ _ _ _ _ _ _)
   | (with_reducible exact ih6 _ _ _ _ _ _ _ _)
   | (with_reducible exact ih7 _ _ _ _ _ _ _ _ _ _ _ _)
   | (with_reducible exact ih8 _ _ _ _ _ _ _ _ _ _ _ _ _ _ _)
   | (with_reducible exact L2_isOct.mono _ _ _ _ _)
   | (with_reducible exact L2_near.mono _ _)
   | (with_reducible exact L2_octOf.mono _ _ _)
   | (with_reducible exact L2_odd.mono _)
   | (with_reducible exact R2_BoundOct.mono _ _ _ _ _ _ _ _)
   | (with_reducible exact R2_ClosedOct.mono _ _ _)
   | (with_reducible exact R2_OctError.mono _ _ _)
   | (with_reducible exact LeO.refl _)
   | (with_reducible exact LeO.none _)
   | (with_reducible refine LeO.ite ?_ ?_)
   | (with_reducible refine LeO.bind ?_ (fun _ => ?_))
   | exact ih0 _ _ _ _ _ _ _ _ _
   | exact ih1 _ _ _ _ _ _ _ _ _
   | exact ih2 _ _ _ _ _ _ _ _
   | exact ih3 _ _ _ _ _ _ _ _ _
   | exact ih4 _ _ _ _ _ _ _ _
   | exact ih5 _ _ _ _ _ _ _ _ _
   | exact ih6 _ _ _ _ _ _ _ _
   | exact ih7 _ _ _ _ _ _ _ _ _ _ _ _
   | exact ih8 _ _ _ _ _ _ _ _ _ _ _ _ _ _ _
   | exact L2_isOct.mono _ _ _ _ _
   | exact L2_near.mono _ _
   | exact L2_octOf.mono _ _ _
   | exact L2_odd.mono _
   | exact R2_BoundOct.mono _ _ _ _ _ _ _ _
   | exact R2_ClosedOct.mono _ _ _
   | exact R2_OctError.mono _ _ _
   | exact LeO.none _
   | refine LeO.ite ?_ ?_
   | refine LeO.bind ?_ (fun _ => ?_)
  ·intro y0 y1 y2 y3 y4 y5 y6 y7 y8
   unfold L2_OctGuard.j1
   repeat' first
   | (with_reducible exact ih0 _ _ _ _ _ _ _ _ _)
   | (with_reducible exact ih1 _ _ _ _ _ _ _ _ _)
   | (with_reducible exact ih2 _ _ _ _ _ _ _ _)
   | (with_reducible exact ih3 _ _ _ _ _ _ _ _ _)
   | (with_reducible exact ih4 _ _ _ _ _ _ _ _)
   | (with_reducible exact ih5 _ _ _ _ _ _ _ _ _)
   | (with_reducible exact ih6 _ _ _ _ _ _ _ _)
   | (with_reducible exact ih7 _ _ _ _ _ _ _ _ _ _ _ _)
   | (with_reducible exact ih8 _ _ _ _ _ _ _ _ _ _ _ _ _ _ _)
   | (with_reducible exact L2_isOct.mono _ _ _ _ _)
   | (with_reducible exact L2_near.mono _ _)
   | (with_reducible exact L2_octOf.mono _ _ _)
   | (with_reducible exact L2_odd.mono _)
   | (with_reducible exact R2_BoundOct.mono _ _ _ _ _ _ _ _)
   | (with_reducible exact R2_ClosedOct.mono _ _ _)
   | (with_reducible exact R2_OctError.mono _ _ _)
   | (with_reducible exact LeO.refl _)
   | (with_reducible exact LeO.none _)
   | (with_reducible refine LeO.ite ?_ ?_)
   | (with_reducible refine LeO.bind ?_ (fun _ => ?_))
   | exact ih0 _ _ _ _ _ _ _ _ _
   | exact ih1 _ _ _ _ _ _ _ _ _
   | exact ih2 _ _ _ _ _ _ _ _
   | exact ih3 _ _ _ _ _ _ _ _ _
   | exact ih4 _ _ _ _ _ _ _ _
   | exact ih5 _ _ _ _ _ _ _ _ _
   | exact ih6 _ _ _ _ _ _ _ _
   | exact ih7 _ _ _ _ _ _ _ _ _ _ _ _
   | exact ih8 _ _ _ _ _ _ _ _ _ _ _ _ _ _ _
   | exact L2_isOct.mono _ _ _ _ _
   | exact L2_near.mono _ _
   | exact L2_octOf.mono _ _ _
   | exact L2_odd.mono _
   | exact R2_BoundOct.mono _ _ _ _ _ _ _ _
   | exact R2_ClosedOct.mono _ _ _
   | exact R2_OctError.mono _ _ _
   | exact LeO.none _
   | refine LeO.ite ?_ ?_
   | refine LeO.bind ?_ (fun _ => ?_)
  ·intro y0 y1 y2 y3 y4 y5 y6 y7
   unfold L2_OctGuard.j2
   repeat' first
   | (with_reducible exact ih0 _ _ _ _ _ _ _ _ _)
   | (with_reducible exact ih1 _ _ _ _ _ _ _ _ _)
   | (with_reducible exact ih2 _ _ _ _ _ _ _ _)
   | (with_reducible exact ih3 _ _ _ _ _ _ _ _ _)
   | (with_reducible exact ih4 _ _ _ _ _ _ _ _)
   | (with_reducible exact ih5 _ _ _ _ _ _ _ _ _)
   | (with_reducible exact ih6 _ _ _ _ _ _ _ _)
   | (with_reducible exact ih7 _ _ _ _ _ _ _ _ _ _ _ _)
   | (with_reducible exact ih8 _ _ _ _ _ _ _ _ _ _ _ _ _ _ _)
   | (with_reducible exact L2_isOct.mono _ _ _ _ _)
   | (with_reducible exact L2_near.mono _ _)
   | (with_reducible exact L2_octOf.mono _ _ _)
   | (with_reducible exact L2_odd.mono _)
   | (with_reducible exact R2_BoundOct.mono _ _ _ _ _ _ _ _)
   | (with_reducible exact R2_ClosedOct.mono _ _ _)
   | (with_reducible exact R2_OctError.mono _ _ _)
   | (with_reducible exact LeO.refl _)
   | (with_reducible exact LeO.none _)
   | (with_reducible refine LeO.ite ?_ ?_)
   | (with_reducible refine LeO.bind ?_ (fun _ => ?_))
   | exact ih0 _ _ _ _ _ _ _ _ _
   | exact ih1 _ _ _ _ _ _ _ _ _
   | exact ih2 _ _ _ _ _ _ _ _
   | exact ih3 _ _ _ _ _ _ _ _ _
   | exact ih4 _ _ _ _ _ _ _ _
   | exact ih5 _ _ _ _ _ _ _ _ _
   | exact ih6 _ _ _ _ _ _ _ _
   | exact ih7 _ _ _ _ _ _ _ _ _ _ _ _
   | exact ih8 _ _ _ _ _ _ _ _ _ _ _ _ _ _ _
   | exact L2_isOct.mono _ _ _ _ _
   | exact L2_near.mono _ _
   | exact L2_octOf.mono _ _ _
   | exact L2_odd.mono _
   | exact R2_BoundOct.mono _ _ _ _ _ _ _ _
   | exact R2_ClosedOct.mono _ _ _
   | exact R2_OctError.mono _ _ _
   | exact LeO.none _
   | refine LeO.ite ?_ ?_
   | refine LeO.bind ?_ (fun _ => ?_)
  ·intro y0 y1 y2 y3 y4 y5 y6 y7 y8
   unfold L2_OctGuard.j3
   repeat' first
   | (with_reducible exact ih0 _ _ _ _ _ _ _ _ _)
   | (with_reducible exact ih1 _ _ _ _ _ _ _ _ _)
   | (with_reducible exact ih2 _ _ _ _ _ _ _ _)
   | (with_reducible exact ih3 _ _ _ _ _ _ _ _ _)
   | (with_reducible exact ih4 _ _ _ _ _ _ _ _)
   | (with_reducible exact ih5 _ _ _ _ _ _ _ _ _)
   | (with_reducible exact ih6 _ _ _ _ _ _ _ _)
   | (with_reducible exact ih7 _ _ _ _ _ _ _ _ _ _ _ _)
   | (with_reducible exact ih8 _ _ _ _ _ _ _ _ _ _ _ _ _ _ _)
   | (with_reducible exact L2_isOct.mono _ _ _ _ _)
   | (with_reducible exact L2_near.mono _ _)
   | (with_reducible exact L2_octOf.mono _ _ _)
   | (with_reducible exact L2_odd.mono _)
   | (with_reducible exact R2_BoundOct.mono _ _ _ _ _ _ _ _)
   | (with_reducible exact R2_ClosedOct.mono _ _ _)
   | (with_reducible exact R2_OctError.mono _ _ _)
   | (with_reducible exact LeO.refl _)
   | (with_reducible exact LeO.none _)
   | (with_reducible refine LeO.ite ?_ ?_)
   | (with_reducible refine LeO.bind ?_ (fun _ => ?_))
   | exact ih0 _ _ _ _ _ _ _ _ _
   | exact ih1 _ _ _ _ _ _ _ _ _
   | exact ih2 _ _ _ _ _ _ _ _
   | exact ih3 _ _ _ _ _ _ _ _ _
   | exact ih4 _ _ _ _ _ _ _ _
   | exact ih5 _ _ _ _ _ _ _ _ _
   | exact ih6 _ _ _ _ _ _ _ _
   | exact ih7 _ _ _ _ _ _ _ _ _ _ _ _
   | exact ih8 _ _ _ _ _ _ _ _ _ _ _ _ _ _ _
   | exact L2_isOct.mono _ _ _ _ _
   | exact L2_near.mono _ _
   | exact L2_octOf.mono _ _ _
   | exact L2_odd.mono _
   | exact R2_BoundOct.mono _ _ _ _ _ _ _ _
   | exact R2_ClosedOct.mono _ _ _
   | exact R2_OctError.mono _ _ _
   | exact LeO.none _
   | refine LeO.ite ?_ ?_
   | refine LeO.bind ?_ (fun _ => ?_)
  ·intro y0 y1 y2 y3 y4 y5 y6 y7
   unfold L2_OctGuard.j4
   repeat' first
   | (with_reducible exact ih0 _ _ _ _ _ _ _ _ _)
   | (with_reducible exact ih1 _ _ _ _ _ _ _ _ _)
   | (with_reducible exact ih2 _ _ _ _ _ _ _ _)
   | (with_reducible exact ih3 _ _ _ _ _ _ _ _ _)
   | (with_reducible exact ih4 _ _ _ _ _ _ _ _)
   | (with_reducible exact ih5 _ _ _ _ _ _ _ _ _)
   | (with_reducible exact ih6 _ _ _ _ _ _ _ _)
   | (with_reducible exact ih7 _ _ _ _ _ _ _ _ _ _ _ _)
   | (with_reducible exact ih8 _ _ _ _ _ _ _ _ _ _ _ _ _ _ _)
   | (with_reducible exact L2_isOct.mono _ _ _ _ _)
   | (with_reducible exact L2_near.mono _ _)
   | (with_reducible exact L2_octOf.mono _ _ _)
   | (with_reducible exact L2_odd.mono _)
   | (with_reducible exact R2_BoundOct.mono _ _ _ _ _ _ _ _)
   | (with_reducible exact R2_ClosedOct.mono _ _ _)
   | (with_reducible exact R2_OctError.mono _ _ _)
   | (with_reducible exact LeO.refl _)
   | (with_reducible exact LeO.none _)
   | (with_reducible refine LeO.ite ?_ ?_)
   | (with_reducible refine LeO.bind ?_ (fun _ => ?_))
   | exact ih0 _ _ _ _ _ _ _ _ _
   | exact ih1 _ _ _ _ _ _ _ _ _
   | exact ih2 _ _ _ _ _ _ _ _
   | exact ih3 _ _ _ _ _ _ _ _ _
   | exact ih4 _ _ _ _ _ _ _ _
   | exact ih5 _ _ _ _ _ _ _ _ _
   | exact ih6 _ _ _ _ _ _ _ _
   | exact ih7 _ _ _ _ _ _ _ _ _ _ _ _
   | exact ih8 _ _ _ _ _ _ _ _ _ _ _ _ _ _ _
   | exact L2_isOct.mono _ _ _ _ _
   | exact L2_near.mono _ _
   | exact L2_octOf.mono _ _ _
   | exact L2_odd.mono _
   | exact R2_BoundOct.mono _ _ _ _ _ _ _ _
   | exact R2_ClosedOct.mono _ _ _
   | exact R2_OctError.mono _ _ _
   | exact LeO.none _
   | refine LeO.ite ?_ ?_
   | refine LeO.bind ?_ (fun _ => ?_)
  ·intro y0 y1 y2 y3 y4 y5 y6 y7 y8
   unfold L2_OctGuard.j5
   repeat' first
   | (with_reducible exact ih0 _ _ _ _ _ _ _ _ _)
   | (with_reducible exact ih1 _ _ _ _ _ _ _ _ _)
   | (with_reducible exact ih2 _ _ _ _ _ _ _ _)
   | (with_reducible exact ih3 _ _ _ _ _ _ _ _ _)
   | (with_reducible exact ih4 _ _ _ _ _ _ _ _)
   | (with_reducible exact ih5 _ _ _ _ _ _ _ _ _)
   | (with_reducible exact ih6 _ _ _ _ _ _ _ _)
   | (with_reducible exact ih7 _ _ _ _ _ _ _ _ _ _ _ _)
   | (with_reducible exact ih8 _ _ _ _ _ _ _ _ _ _ _ _ _ _ _)
   | (with_reducible exact L2_isOct.mono _ _ _ _ _)
   | (with_reducible exact L2_near.mono _ _)
   | (with_reducible exact L2_octOf.mono _ _ _)
   | (with_reducible exact L2_odd.mono _)
   | (with_reducible exact R2_BoundOct.mono _ _ _ _ _ _ _ _)
   | (with_reducible exact R2_ClosedOct.mono _ _ _)
   | (with_reducible exact R2_OctError.mono _ _ _)
   | (with_reducible exact LeO.refl _)
   | (with_reducible exact LeO.none _)
   | (with_reducible refine LeO.ite ?_ ?_)
   | (with_reducible refine LeO.bind ?_ (fun _ => ?_))
   | exact ih0 _ _ _ _ _ _ _ _ _
   | exact ih1 _ _ _ _ _ _ _ _ _
   | exact ih2 _ _ _ _ _ _ _ _
   | exact ih3 _ _ _ _ _ _ _ _ _
   | exact ih4 _ _ _ _ _ _ _ _
   | exact ih5 _ _ _ _ _ _ _ _ _
   | exact ih6 _ _ _ _ _ _ _ _
   | exact ih7 _ _ _ _ _ _ _ _ _ _ _ _
   | exact ih8 _ _ _ _ _ _ _ _ _ _ _ _ _ _ _
   | exact L2_isOct.mono _ _ _ _ _
   | exact L2_near.mono _ _
   | exact L2_octOf.mono _ _ _
   | exact L2_odd.mono _
   | exact R2_BoundOct.mono _ _ _ _ _ _ _ _
   | exact R2_ClosedOct.mono _ _ _
   | exact R2_OctError.mono _ _ _
   | exact LeO.none _
   | refine LeO.ite ?_ ?_
   | refine LeO.bind ?_ (fun _ => ?_)
  ·intro y0 y1 y2 y3 y4 y5 y6 y7
   unfold L2_OctGuard.j6
   repeat' first
   | (with_reducible exact ih0 _ _ _ _ _ _ _ _ _)
   | (with_reducible exact ih1 _ _ _ _ _ _ _ _ _)
   | (with_reducible exact ih2 _ _ _ _ _ _ _ _)
   | (with_reducible exact ih3 _ _ _ _ _ _ _ _ _)
   | (with_reducible exact ih4 _ _ _ _ _ _ _ _)
   | (with_reducible exact ih5 _ _ _ _ _ _ _ _ _)
   | (with_reducible exact ih6 _ _ _ _ _ _ _ _)
   | (with_reducible exact ih7 _ _ _ _ _ _ _ _ _ _ _ _)
   | (with_reducible exact ih8 _ _ _ _ _ _ _ _ _ _ _ _ _ _ _)
   | (with_reducible exact L2_isOct.mono _ _ _ _ _)
   | (with_reducible exact L2_near.mono _ _)
   | (with_reducible exact L2_octOf.mono _ _ _)
   | (with_reducible exact L2_odd.mono _)
   | (with_reducible exact R2_BoundOct.mono _ _ _ _ _ _ _ _)
   | (with_reducible exact R2_ClosedOct.mono _ _ _)
   | (with_reducible exact R2_OctError.mono _ _ _)
   | (with_reducible exact LeO.refl _)
   | (with_reducible exact LeO.none _)
   | (with_reducible refine LeO.ite ?_ ?_)
   | (with_reducible refine LeO.bind ?_ (fun _ => ?_))
   | exact ih0 _ _ _ _ _ _ _ _ _
   | exact ih1 _ _ _ _ _ _ _ _ _
   | exact ih2 _ _ _ _ _ _ _ _
   | exact ih3 _ _ _ _ _ _ _ _ _
   | exact ih4 _ _ _ _ _ _ _ _
   | exact ih5 _ _ _ _ _ _ _ _ _
   | exact ih6 _ _ _ _ _ _ _ _
   | exact ih7 _ _ _ _ _ _ _ _ _ _ _ _
   | exact ih8 _ _ _ _ _ _ _ _ _ _ _ _ _ _ _
   | exact L2_isOct.mono _ _ _ _ _
   | exact L2_near.mono _ _
   | exact L2_octOf.mono _ _ _
   | exact L2_odd.mono _
   | exact R2_BoundOct.mono _ _ _ _ _ _ _ _
   | exact R2_ClosedOct.mono _ _ _
   | exact R2_OctError.mono _ _ _
   | exact LeO.none _
   | refine LeO.ite ?_ ?_
   | refine LeO.bind ?_ (fun _ => ?_)
  ·intro y0 y1 y2 y3 y4 y5 y6 y7 y8 y9 y10 y11
   unfold L2_OctGuard.j7
   repeat' first
   | (with_reducible exact ih0 _ _ _ _ _ _ _ _ _)
   | (with_reducible exact ih1 _ _ _ _ _ _ _ _ _)
   | (with_reducible exact ih2 _ _ _ _ _ _ _ _)
   | (with_reducible exact ih3 _ _ _ _ _ _ _ _ _)
   | (with_reducible exact ih4 _ _ _ _ _ _ _ _)
   | (with_reducible exact ih5 _ _ _ _ _ _ _ _ _)
   | (with_reducible exact ih6 _ _ _ _ _ _ _ _)
   | (with_reducible exact ih7 _ _ _ _ _ _ _ _ _ _ _ _)
   | (with_reducible exact ih8 _ _ _ _ _ _ _ _ _ _ _ _ _ _ _)
   | (with_reducible exact L2_isOct.mono _ _ _ _ _)
   | (with_reducible exact L2_near.mono _ _)
   | (with_reducible exact L2_octOf.mono _ _ _)
   | (with_reducible exact L2_odd.mono _)
   | (with_reducible exact R2_BoundOct.mono _ _ _ _ _ _ _ _)
   | (with_reducible exact R2_ClosedOct.mono _ _ _)
   | (with_reducible exact R2_OctError.mono _ _ _)
   | (with_reducible exact LeO.refl _)
   | (with_reducible exact LeO.none _)
   | (with_reducible refine LeO.ite ?_ ?_)
   | (with_reducible refine LeO.bind ?_ (fun _ => ?_))
   | exact ih0 _ _ _ _ _ _ _ _ _
   | exact ih1 _ _ _ _ _ _ _ _ _
   | exact ih2 _ _ _ _ _ _ _ _
   | exact ih3 _ _ _ _ _ _ _ _ _
   | exact ih4 _ _ _ _ _ _ _ _
   | exact ih5 _ _ _ _ _ _ _ _ _
   | exact ih6 _ _ _ _ _ _ _ _
   | exact ih7 _ _ _ _ _ _ _ _ _ _ _ _
   | exact ih8 _ _ _ _ _ _ _ _ _ _ _ _ _ _ _
   | exact L2_isOct.mono _ _ _ _ _
   | exact L2_near.mono _ _
   | exact L2_octOf.mono _ _ _
   | exact L2_odd.mono _
   | exact R2_BoundOct.mono _ _ _ _ _ _ _ _
   | exact R2_ClosedOct.mono _ _ _
   | exact R2_OctError.mono _ _ _
   | exact LeO.none _
   | refine LeO.ite ?_ ?_
   | refine LeO.bind ?_ (fun _ => ?_)
  intro y0 y1 y2 y3 y4 y5 y6 y7 y8 y9 y10 y11 y12 y13 y14
  unfold L2_OctGuard.j8
  repeat' first
  | (with_reducible exact ih0 _ _ _ _ _ _ _ _ _)
  | (with_reducible exact ih1 _ _ _ _ _ _ _ _ _)
  | (with_reducible exact ih2 _ _ _ _ _ _ _ _)
  | (with_reducible exact ih3 _ _ _ _ _ _ _ _ _)
  | (with_reducible exact ih4 _ _ _ _ _ _ _ _)
  | (with_reducible exact ih5 _ _ _ _ _ _ _ _ _)
  | (with_reducible exact ih6 _ _ _ _ _ _ _ _)
  | (with_reducible exact ih7 _ _ _ _ _ _ _ _ _ _ _ _)
  | (with_reducible exact ih8 _ _ _ _ _ _ _ _ _ _ _ _ _ _ _)
  | (with_reducible exact L2_isOct.mono _ _ _ _ _)
  | (with_reducible exact L2_near.mono _ _)
  | (with_reducible exact L2_octOf.mono _ _ _)
  | (with_reducible exact L2_odd.mono _)
  | (with_reducible exact R2_BoundOct.mono _ _ _ _ _ _ _ _)
  | (with_reducible exact R2_ClosedOct.mono _ _ _)
  | (with_reducible exact R2_OctError.mono _ _ _)
  | (with_reducible exact LeO.refl _)
  | (with_reducible exact LeO.none _)
  | (with_reducible refine LeO.ite ?_ ?_)
  | (with_reducible refine LeO.bind ?_ (fun _ => ?_))
  | exact ih0 _ _ _ _ _ _ _ _ _
  | exact ih1 _ _ _ _ _ _ _ _ _
  | exact ih2 _ _ _ _ _ _ _ _
  | exact ih3 _ _ _ _ _ _ _ _ _
  | exact ih4 _ _ _ _ _ _ _ _
  | exact ih5 _ _ _ _ _ _ _ _ _
  | exact ih6 _ _ _ _ _ _ _ _
  | exact ih7 _ _ _ _ _ _ _ _ _ _ _ _
  | exact ih8 _ _ _ _ _ _ _ _ _ _ _ _ _ _ _
  | exact L2_isOct.mono _ _ _ _ _
  | exact L2_near.mono _ _
  | exact L2_octOf.mono _ _ _
  | exact L2_odd.mono _
  | exact R2_BoundOct.mono _ _ _ _ _ _ _ _
  | exact R2_ClosedOct.mono _ _ _
  | exact R2_OctError.mono _ _ _
  | exact LeO.none _
  | refine LeO.ite ?_ ?_
  | refine LeO.bind ?_ (fun _ => ?_)
theorem L2_OctGuard.mono : ∀ a0 a1 a2 a3 a4 a5 a6 k, LeO (L2_OctGuard.f k a0 a1 a2 a3 a4 a5 a6) (L2_OctGuard.f (k + 1) a0 a1 a2 a3 a4 a5 a6) := by
 intro a0 a1 a2 a3 a4 a5 a6 k
 obtain ⟨ih0, ih1, ih2, ih3, ih4, ih5, ih6, ih7, ih8⟩ := L2_OctGuard.mono_l k
 unfold L2_OctGuard.f
 repeat' first
   | (with_reducible exact ih0 _ _ _ _ _ _ _ _ _)
   | (with_reducible exact ih1 _ _ _ _ _ _ _ _ _)
   | (with_reducible exact ih2 _ _ _ _ _ _ _ _)
   | (with_reducible exact ih3 _ _ _ _ _ _ _ _ _)
   | (with_reducible exact ih4 _ _ _ _ _ _ _ _)
   | (with_reducible exact ih5 _ _ _ _ _ _ _ _ _)
   | (with_reducible exact ih6 _ _ _ _ _ _ _ _)
   | (with_reducible exact ih7 _ _ _ _ _ _ _ _ _ _ _ _)
   | (with_reducible exact ih8 _ _ _ _ _ _ _ _ _ _ _ _ _ _ _)
   | (with_reducible exact L2_isOct.mono _ _ _ _ _)
   | (with_reducible exact L2_near.mono _ _)
   | (with_reducible exact L2_octOf.mono _ _ _)
   | (with_reducible exact L2_odd.mono _)
   | (with_reducible exact R2_BoundOct.mono _ _ _ _ _ _ _ _)
   | (with_reducible exact R2_ClosedOct.mono _ _ _)
   | (with_reducible exact R2_OctError.mono _ _ _)
   | (with_reducible exact LeO.refl _)
   | (with_reducible exact LeO.none _)
   | (with_reducible refine LeO.ite ?_ ?_)
   | (with_reducible refine LeO.bind ?_ (fun _ => ?_))
   | exact ih0 _ _ _ _ _ _ _ _ _
   | exact ih1 _ _ _ _ _ _ _ _ _
   | exact ih2 _ _ _ _ _ _ _ _
   | exact ih3 _ _ _ _ _ _ _ _ _
   | exact ih4 _ _ _ _ _ _ _ _
   | exact ih5 _ _ _ _ _ _ _ _ _
   | exact ih6 _ _ _ _ _ _ _ _
   | exact ih7 _ _ _ _ _ _ _ _ _ _ _ _
   | exact ih8 _ _ _ _ _ _ _ _ _ _ _ _ _ _ _
   | exact L2_isOct.mono _ _ _ _ _
   | exact L2_near.mono _ _
   | exact L2_octOf.mono _ _ _
   | exact L2_odd.mono _
   | exact R2_BoundOct.mono _ _ _ _ _ _ _ _
   | exact R2_ClosedOct.mono _ _ _
   | exact R2_OctError.mono _ _ _
   | exact LeO.none _
   | refine LeO.ite ?_ ?_
   | refine LeO.bind ?_ (fun _ => ?_)
set_option maxHeartbeats 8000000 in
set_option maxRecDepth 100000 in
theorem L2_OctGuard.calls [EA] (k : Nat) (a0_0 : Int) (A0_1 : Option Addr) (c0_1 : Nat) (l0_1 : List (S67)) (a1 : Int) (a2 : Int) (a3 : Int) (a4 : Int) (a5 : Int) (r : Bool) (w : World) (hr0_1 : Kd.C k67 w A0_1 l0_1.length l0_1) (hc0_1 : l0_1.length ≤ c0_1) (h : L2_OctGuard.f k a0_0 l0_1 a1 a2 a3 a4 a5 = some r) (h2_ : ErrAt 2 1 w) (h3_ : ErrAt 3 0 w) (h7_ : ErrAt 7 3 w) (h9_ : ErrAll w) :
  Calls Tryd.prog 8 #[.agg #[.int .i64 a0_0, .slice A0_1 l0_1.length c0_1], .int .i64 a1, .int .i64 a2, .int .i64 a3, .int .i64 a4, .int .i64 a5] w fun e w' => e = .returned (.bool r) ∧ Below w.heap.size w w' := by
 have hE2 := am h2_
 clear h2_
 have hE3 := am h3_
 clear h3_
 have hE7 := am h7_
 clear h7_
 have hE9 := am h9_
 clear h9_
 have hu70 := Tryd.underlying70
 have hu74 := Tryd.underlying74
 have hu32 := Tryd.underlying32
 have HR0_1 := am hr0_1
 have HC0_1 := am hc0_1
 clear hr0_1 hc0_1
 have HB := am (Below.refl w.heap.size w)
 have H : ((L2_odd.f k).bind fun t1100 => (if t1100 = true then (L2_OctGuard.j0 k a1 a2 a3 a4 a5 t1100 (decide ((l0_1.length : Int) > 100)) a0_0 l0_1) else (L2_OctGuard.j0 k a1 a2 a3 a4 a5 t1100 true a0_0 l0_1))) = some r := h
 clear h
 replace H := Option.bind_eq_some_iff.mp H
 obtain ⟨t1100, A70, H⟩ := H
 replace H : (if t1100 = true then (L2_OctGuard.j0 k a1 a2 a3 a4 a5 t1100 (decide ((l0_1.length : Int) > 100)) a0_0 l0_1) else (L2_OctGuard.j0 k a1 a2 a3 a4 a5 t1100 true a0_0 l0_1)) = some r := H
 have A7 := am A70
 clear A70
 have HC8 := am H
 clear H
 go_enter Tryd.func8, Tryd.ntmps8
 go_upto_region 2 with (first | ((with_reducible refine gate_dst (N := 6) rfl ?_); (try (refine gate_guard (by rfl) ?_; dsimp only)); refine box_event ?hg (N := 6) ?hd (cs := #[.int .i64 a0_0, .slice A0_1 l0_1.length c0_1]) (t := 70) ?hr ?_; (case hd => rfl); (case hg => rfl); (case hr => first | (go_simp; done) | (go_simp; rfl)); intro gb1099 hg w9 hbox hb; have n0_ := am (below_step pw hb); have n1_ := am (hbox); have n2_ := am (sz (w := w) hg pw); have n3_ := am (sz (w := w) hg pw); clear HB; revert n0_ n1_ n2_ n3_; intro HB BK1099 GW1099 GE1099; clear hb hbox hg) | ((with_reducible refine gate_callee (f := 41) rfl ?_); refine goesL_ (some 20) rfl rfl Tryd.func41 kk rfl #[] rfl (by (try simp only [List.map_toArray, List.map_cons, List.map_nil]); first | done | rfl | (simp only [List.length_drop, List.length_take]; rfl)) ?_; (with_reducible refine (L2_odd.calls k  t1100 _ A7.out (am (ErrAt.below hE2.out pw)).out (am (ErrAt.below hE3.out pw)).out (am (ErrAt.below hE7.out pw)).out).mono ?_); rintro e w10 ⟨rfl, hb⟩; refine ⟨_, rfl, ?_⟩; have n0_ := bb BK1099 hb; have n1_ := am (below_step pw hb); clear BK1099 HB; revert n0_ n1_; intro BK1099 HB; (try clear hb); (try clear hb2); (try clear hk); (try clear hi)))
 (try simp only [Act.put, List.setIfInBounds_toArray, List.set_cons_zero, List.set_cons_succ])
 go_cut [28] (fun v28 wc => ∃ (kq : Nat) (x28_7 : Bool), v28 = .bool x28_7 ∧ Aside0 (L2_OctGuard.j0 kq a1 a2 a3 a4 a5 t1100 x28_7 a0_0 l0_1 = some r) ∧ Aside0 (kq ≤ k) ∧ Aside0 (wc.heap[gb1099]? = some (.cells #[.int .i64 a0_0, (.slice A0_1 l0_1.length c0_1)] 70 (0, 0))) ∧ Aside0 (Below w.heap.size w wc))
 case first =>
  have H := HC8.out
  clear HC8
  by_cases c11 : t1100 = true
  ·subst c11
   have H1 : (L2_OctGuard.j0 k a1 a2 a3 a4 a5 true (decide ((l0_1.length : Int) > 100)) a0_0 l0_1) = some r := by rw [if_pos rfl] at H; exact H
   clear H; have H := H1; clear H1
   as_aux_lemma =>
    have H' := am H; clear H; have hcz12_0 : w10.cell? ⟨gb1099, 0, none⟩ = some (.int .i64 a0_0) := bc BK1099 0; have hcz12_1 : w10.cell? ⟨gb1099, 1, none⟩ = some (.slice A0_1 l0_1.length c0_1) := bc BK1099 1; have hfz12_0 := blk_frozen BK1099.out 0; have hfz12_1 := blk_frozen BK1099.out 1; go_wp2; go_meet
    case rel => exact ⟨_, (decide ((l0_1.length : Int) > 100)), pr, H', ⟨by first | omega | exact Nat.le_refl _⟩, ⟨pk⟩, ⟨pw⟩⟩
  replace c11 := Bool.eq_false_iff.mpr c11
  subst c11
  have H1 : (L2_OctGuard.j0 k a1 a2 a3 a4 a5 false true a0_0 l0_1) = some r := by rw [if_neg (show ¬ (false = true) by decide)] at H; exact H
  clear H
  have H := H1
  clear H1
  as_aux_lemma =>
   have H' := am H; clear H; go_wp2; go_meet
   case rel => exact ⟨_, (true), pr, H', ⟨by first | omega | exact Nat.le_refl _⟩, ⟨pk⟩, ⟨pw⟩⟩
 as_aux_lemma =>
 clear HC8
 (try clear c1)
 (try clear p2)
 (try clear c4)
 (try clear c8)
 (try clear c11)
 (try clear hcz12_0)
 (try clear hcz12_1)
 (try clear hfz12_0)
 (try clear hfz12_1)
 obtain ⟨kq, x28_7, rfl, HA, HJ7, BK1099, HB⟩ := hcut
 cases kq with
 | zero => exact absurd HA.out (by simp [L2_OctGuard.j0])
 | succ kj7 =>
  have H := HA.out
  clear HA
  simp only [L2_OctGuard.j0] at H
  by_cases c13 : x28_7 = true
  ·subst c13
   have H1 : (some t1100) = some r := by rw [if_pos rfl] at H; exact H
   clear H; have H := H1; clear H1
   as_aux_lemma =>
    obtain rfl := Option.some.inj H; go_wp2; go_ret; exact ⟨pe, pw⟩
  replace c13 := Bool.eq_false_iff.mpr c13
  subst c13
  have H1 : ((R2_OctError.f kj7 a0_0 l0_1).bind fun t1101 => (if t1101 = 0 then (if a2 < 0 then (L2_OctGuard.j1 kj7 a1 a2 a3 a4 a5 t1101 true a0_0 l0_1) else (if a2 ≥ a0_0 then (L2_OctGuard.j1 kj7 a1 a2 a3 a4 a5 t1101 true a0_0 l0_1) else (if a4 < 0 then (L2_OctGuard.j1 kj7 a1 a2 a3 a4 a5 t1101 true a0_0 l0_1) else (if a4 ≥ a0_0 then (L2_OctGuard.j1 kj7 a1 a2 a3 a4 a5 t1101 true a0_0 l0_1) else (L2_OctGuard.j1 kj7 a1 a2 a3 a4 a5 t1101 (a2 == a4) a0_0 l0_1))))) else (L2_OctGuard.j1 kj7 a1 a2 a3 a4 a5 t1101 false a0_0 l0_1))) = some r := by rw [if_neg (show ¬ (false = true) by decide)] at H; exact H
  clear H
  have H := H1
  clear H1
  replace H := Option.bind_eq_some_iff.mp H
  obtain ⟨t1101, A140, H⟩ := H
  replace H : (if t1101 = 0 then (if a2 < 0 then (L2_OctGuard.j1 kj7 a1 a2 a3 a4 a5 t1101 true a0_0 l0_1) else (if a2 ≥ a0_0 then (L2_OctGuard.j1 kj7 a1 a2 a3 a4 a5 t1101 true a0_0 l0_1) else (if a4 < 0 then (L2_OctGuard.j1 kj7 a1 a2 a3 a4 a5 t1101 true a0_0 l0_1) else (if a4 ≥ a0_0 then (L2_OctGuard.j1 kj7 a1 a2 a3 a4 a5 t1101 true a0_0 l0_1) else (L2_OctGuard.j1 kj7 a1 a2 a3 a4 a5 t1101 (a2 == a4) a0_0 l0_1))))) else (L2_OctGuard.j1 kj7 a1 a2 a3 a4 a5 t1101 false a0_0 l0_1)) = some r := H
  have A14 := am A140
  clear A140
  have HC15 := am H
  clear H
  have hcz16_0 : wc.cell? ⟨gb1099, 0, none⟩ = some (.int .i64 a0_0) := bc BK1099 0
  have hcz16_1 : wc.cell? ⟨gb1099, 1, none⟩ = some (.slice A0_1 l0_1.length c0_1) := bc BK1099 1
  have hfz16_0 := blk_frozen BK1099.out 0
  have hfz16_1 := blk_frozen BK1099.out 1
  go_upto_region 5 with (first | ((with_reducible refine gate_callee (f := 42) rfl ?_); refine goesL_ (some 31) rfl rfl Tryd.func42 kk rfl #[.agg #[.int .i64 a0_0, .slice A0_1 l0_1.length c0_1]] rfl (by (try simp only [List.map_toArray, List.map_cons, List.map_nil]); first | done | rfl | (simp only [List.length_drop, List.length_take]; rfl)) ?_; (with_reducible refine (R2_OctError.calls kj7 a0_0 _ _ l0_1 t1101 _ ?side1 ?side2 A14.out).mono ?_); (case side1 => repeat (first | exact (Kd.C_below HR0_1.out HB.out) | (with_reducible refine Kd.C_alloc ?_ _) | (with_reducible refine Kd.C_drewN ?_ _) | (with_reducible refine Kd.C_drew ?_))); (case side2 => exact HC0_1.out); rintro e w17 ⟨rfl, hb⟩; refine ⟨_, rfl, ?_⟩; have n0_ := bb BK1099 hb; have n1_ := am (below_step pw hb); clear BK1099 HB; revert n0_ n1_; intro BK1099 HB; (try clear hb); (try clear hb2); (try clear hk); (try clear hi)))
  (try simp only [Act.put, List.setIfInBounds_toArray, List.set_cons_zero, List.set_cons_succ])
  go_cut [58] (fun v58 wc => ∃ (kq : Nat) (x58_14 : Bool), v58 = .bool x58_14 ∧ Aside0 (L2_OctGuard.j1 kq a1 a2 a3 a4 a5 t1101 x58_14 a0_0 l0_1 = some r) ∧ Aside0 (kq ≤ kj7) ∧ Aside0 (wc.heap[gb1099]? = some (.cells #[.int .i64 a0_0, (.slice A0_1 l0_1.length c0_1)] 70 (0, 0))) ∧ Aside0 (Below w.heap.size w wc))
  case first =>
   have H := HC15.out; clear HC15; by_cases c18 : t1101 = 0
   ·rw [if_pos c18] at H
    have c18b0 : (t1101 == 0) = true := beq_iff_eq.mpr c18; have c18b1 : (t1101 != 0) = false := bne_eq_false_iff_eq.mpr c18; clear c18; (first | rw [c18b0] | (simp only [i64_w, i32_w]; rw [c18b0]) | skip); by_cases c19 : a2 < 0
    ·rw [if_pos c19] at H
     have c19b0 : decide (a2 < 0) = true := decide_eq_true c19; clear c19
     as_aux_lemma =>
      have H' := am H; clear H; go_wp2; go_meet
      case rel => exact ⟨_, (true), pr, H', ⟨by have := HJ7.out; first | omega | exact Nat.le_refl _⟩, ⟨pk⟩, ⟨pw⟩⟩
    rw [if_neg c19] at H; have c19b0 : decide (a2 < 0) = false := decide_eq_false c19; clear c19; by_cases c20 : a2 ≥ a0_0
    ·rw [if_pos c20] at H
     have c20b0 : decide (a0_0 ≤ a2) = true := decide_eq_true c20; clear c20
     as_aux_lemma =>
      have H' := am H; clear H; have hcz21_0 : w17.cell? ⟨gb1099, 0, none⟩ = some (.int .i64 a0_0) := bc BK1099 0; have hcz21_1 : w17.cell? ⟨gb1099, 1, none⟩ = some (.slice A0_1 l0_1.length c0_1) := bc BK1099 1; have hfz21_0 := blk_frozen BK1099.out 0; have hfz21_1 := blk_frozen BK1099.out 1; go_wp2; go_meet
      case rel => exact ⟨_, (true), pr, H', ⟨by have := HJ7.out; first | omega | exact Nat.le_refl _⟩, ⟨pk⟩, ⟨pw⟩⟩
    rw [if_neg c20] at H; have c20b0 : decide (a0_0 ≤ a2) = false := decide_eq_false c20; clear c20; by_cases c22 : a4 < 0
    ·rw [if_pos c22] at H
     have c22b0 : decide (a4 < 0) = true := decide_eq_true c22; clear c22
     as_aux_lemma =>
      have H' := am H; clear H; have hcz23_0 : w17.cell? ⟨gb1099, 0, none⟩ = some (.int .i64 a0_0) := bc BK1099 0; have hcz23_1 : w17.cell? ⟨gb1099, 1, none⟩ = some (.slice A0_1 l0_1.length c0_1) := bc BK1099 1; have hfz23_0 := blk_frozen BK1099.out 0; have hfz23_1 := blk_frozen BK1099.out 1; go_wp2; go_meet
      case rel => exact ⟨_, (true), pr, H', ⟨by have := HJ7.out; first | omega | exact Nat.le_refl _⟩, ⟨pk⟩, ⟨pw⟩⟩
    rw [if_neg c22] at H; have c22b0 : decide (a4 < 0) = false := decide_eq_false c22; clear c22; by_cases c24 : a4 ≥ a0_0
    ·rw [if_pos c24] at H
     have c24b0 : decide (a0_0 ≤ a4) = true := decide_eq_true c24; clear c24
     as_aux_lemma =>
      have H' := am H; clear H; have hcz25_0 : w17.cell? ⟨gb1099, 0, none⟩ = some (.int .i64 a0_0) := bc BK1099 0; have hcz25_1 : w17.cell? ⟨gb1099, 1, none⟩ = some (.slice A0_1 l0_1.length c0_1) := bc BK1099 1; have hfz25_0 := blk_frozen BK1099.out 0; have hfz25_1 := blk_frozen BK1099.out 1; go_wp2; go_meet
      case rel => exact ⟨_, (true), pr, H', ⟨by have := HJ7.out; first | omega | exact Nat.le_refl _⟩, ⟨pk⟩, ⟨pw⟩⟩
    rw [if_neg c24] at H; have c24b0 : decide (a0_0 ≤ a4) = false := decide_eq_false c24; clear c24
    as_aux_lemma =>
     have H' := am H; clear H; have hcz26_0 : w17.cell? ⟨gb1099, 0, none⟩ = some (.int .i64 a0_0) := bc BK1099 0; have hcz26_1 : w17.cell? ⟨gb1099, 1, none⟩ = some (.slice A0_1 l0_1.length c0_1) := bc BK1099 1; have hfz26_0 := blk_frozen BK1099.out 0; have hfz26_1 := blk_frozen BK1099.out 1; go_wp2; go_meet
     case rel => exact ⟨_, ((a2 == a4)), pr, H', ⟨by have := HJ7.out; first | omega | exact Nat.le_refl _⟩, ⟨pk⟩, ⟨pw⟩⟩
   rw [if_neg c18] at H; have c18b0 : (t1101 == 0) = false := beq_eq_false_iff_ne.mpr c18; have c18b1 : (t1101 != 0) = true := bne_iff_ne.mpr c18; (first | rw [c18b0] | (simp only [i64_w, i32_w]; rw [c18b0]) | skip)
   as_aux_lemma =>
    have H' := am H; clear H; go_wp2; go_meet
    case rel => exact ⟨_, (false), pr, H', ⟨by have := HJ7.out; first | omega | exact Nat.le_refl _⟩, ⟨pk⟩, ⟨pw⟩⟩
  as_aux_lemma =>
  clear HC15
  (try clear c1)
  (try clear c2)
  (try clear p2)
  (try clear c4)
  (try clear c8)
  (try clear c11)
  (try clear c13)
  (try clear c18)
  (try clear c18b0)
  (try clear c18b1)
  (try clear c19)
  (try clear c19b0)
  (try clear c20)
  (try clear c20b0)
  (try clear c22)
  (try clear c22b0)
  (try clear c24)
  (try clear c24b0)
  (try clear hcz12_0)
  (try clear hcz12_1)
  (try clear hcz16_0)
  (try clear hcz16_1)
  (try clear hcz21_0)
  (try clear hcz21_1)
  (try clear hcz23_0)
  (try clear hcz23_1)
  (try clear hcz25_0)
  (try clear hcz25_1)
  (try clear hcz26_0)
  (try clear hcz26_1)
  (try clear hfz12_0)
  (try clear hfz12_1)
  (try clear hfz16_0)
  (try clear hfz16_1)
  (try clear hfz21_0)
  (try clear hfz21_1)
  (try clear hfz23_0)
  (try clear hfz23_1)
  (try clear hfz25_0)
  (try clear hfz25_1)
  (try clear hfz26_0)
  (try clear hfz26_1)
  (try clear p2)
  obtain ⟨kq, x58_14, rfl, HA, HJ14, BK1099, HB⟩ := hcut
  cases kq with
  | zero => exact absurd HA.out (by simp [L2_OctGuard.j1])
  | succ kj14 =>
   have H := HA.out; clear HA; simp only [L2_OctGuard.j1] at H; have HC27 := am H; clear H; go_upto_if 58 with (fail); go_cut [14] (fun v14 wc => ∃ (kq : Nat) (x14_26 : Int), v14 = .int .i64 x14_26 ∧ Aside0 (L2_OctGuard.j2 kq a1 a2 a3 a4 a5 x14_26 a0_0 l0_1 = some r) ∧ Aside0 (kq ≤ kj14) ∧ Aside0 (wc.heap[gb1099]? = some (.cells #[.int .i64 a0_0, (.slice A0_1 l0_1.length c0_1)] 70 (0, 0))) ∧ Aside0 (Below w.heap.size w wc))
   case first =>
    have H := HC27.out; clear HC27; by_cases c28 : x58_14 = true
    ·subst c28
     have H1 : (L2_OctGuard.j2 kj14 a1 a2 a3 a4 a5 3 a0_0 l0_1) = some r := by rw [if_pos rfl] at H; exact H
     clear H; have H := H1; clear H1
     as_aux_lemma =>
      have H' := am H; clear H; go_wp2; go_meet
      case rel => exact ⟨_, (3), pr, H', ⟨by have := HJ7.out; have := HJ14.out; first | omega | exact Nat.le_refl _⟩, ⟨pk⟩, ⟨pw⟩⟩
    replace c28 := Bool.eq_false_iff.mpr c28; subst c28
    have H1 : (L2_OctGuard.j2 kj14 a1 a2 a3 a4 a5 t1101 a0_0 l0_1) = some r := by rw [if_neg (show ¬ (false = true) by decide)] at H; exact H
    clear H; have H := H1; clear H1
    as_aux_lemma =>
     have H' := am H; clear H; go_wp2; go_meet
     case rel => exact ⟨_, (t1101), pr, H', ⟨by have := HJ7.out; have := HJ14.out; first | omega | exact Nat.le_refl _⟩, ⟨pk⟩, ⟨pw⟩⟩
   as_aux_lemma =>
   clear HC27; (try clear c1); (try clear c2); (try clear p2); (try clear c4); (try clear c8); (try clear c11); (try clear c13); (try clear c18); (try clear c18b0); (try clear c18b1); (try clear c19); (try clear c19b0); (try clear c20); (try clear c20b0); (try clear c22); (try clear c22b0); (try clear c24); (try clear c24b0); (try clear c28); (try clear hcz12_0); (try clear hcz12_1); (try clear hcz16_0); (try clear hcz16_1); (try clear hcz21_0); (try clear hcz21_1); (try clear hcz23_0); (try clear hcz23_1); (try clear hcz25_0); (try clear hcz25_1); (try clear hcz26_0); (try clear hcz26_1); (try clear hfz12_0); (try clear hfz12_1); (try clear hfz16_0); (try clear hfz16_1); (try clear hfz21_0); (try clear hfz21_1); (try clear hfz23_0); (try clear hfz23_1); (try clear hfz25_0); (try clear hfz25_1); (try clear hfz26_0); (try clear hfz26_1); (try clear p2); obtain ⟨kq, x14_26, rfl, HA, HJ26, BK1099, HB⟩ := hcut; cases kq with
   | zero => exact absurd HA.out (by simp [L2_OctGuard.j2])
   | succ kj26 =>
    have H := HA.out; clear HA; simp only [L2_OctGuard.j2] at H; have HC29 := am H; clear H; go_upto_region 7 with (fail); go_cut [76] (fun v76 wc => ∃ (kq : Nat) (x76_28 : Bool), v76 = .bool x76_28 ∧ Aside0 (L2_OctGuard.j3 kq a1 a2 a3 a4 a5 x14_26 x76_28 a0_0 l0_1 = some r) ∧ Aside0 (kq ≤ kj26) ∧ Aside0 (wc.heap[gb1099]? = some (.cells #[.int .i64 a0_0, (.slice A0_1 l0_1.length c0_1)] 70 (0, 0))) ∧ Aside0 (Below w.heap.size w wc))
    case first =>
     have H := HC29.out; clear HC29; by_cases c30 : x14_26 = 0
     ·rw [if_pos c30] at H
      have c30b0 : (x14_26 == 0) = true := beq_iff_eq.mpr c30; have c30b1 : (x14_26 != 0) = false := bne_eq_false_iff_eq.mpr c30; clear c30; (first | rw [c30b0] | (simp only [i64_w, i32_w]; rw [c30b0]) | skip); by_cases c31 : a1 < (-1)
      ·rw [if_pos c31] at H
       have c31b0 : decide (a1 < (-1)) = true := decide_eq_true c31; clear c31
       as_aux_lemma =>
        have H' := am H; clear H; go_wp2; go_meet
        case rel => exact ⟨_, (true), pr, H', ⟨by have := HJ7.out; have := HJ14.out; have := HJ26.out; first | omega | exact Nat.le_refl _⟩, ⟨pk⟩, ⟨pw⟩⟩
      rw [if_neg c31] at H; have c31b0 : decide (a1 < (-1)) = false := decide_eq_false c31; clear c31; by_cases c32 : a1 > 1
      ·rw [if_pos c32] at H
       have c32b0 : decide (1 < a1) = true := decide_eq_true c32; clear c32
       as_aux_lemma =>
        have H' := am H; clear H; go_wp2; go_meet
        case rel => exact ⟨_, (true), pr, H', ⟨by have := HJ7.out; have := HJ14.out; have := HJ26.out; first | omega | exact Nat.le_refl _⟩, ⟨pk⟩, ⟨pw⟩⟩
      rw [if_neg c32] at H; have c32b0 : decide (1 < a1) = false := decide_eq_false c32; clear c32; by_cases c33 : a3 < (-1)
      ·rw [if_pos c33] at H
       have c33b0 : decide (a3 < (-1)) = true := decide_eq_true c33; clear c33
       as_aux_lemma =>
        have H' := am H; clear H; go_wp2; go_meet
        case rel => exact ⟨_, (true), pr, H', ⟨by have := HJ7.out; have := HJ14.out; have := HJ26.out; first | omega | exact Nat.le_refl _⟩, ⟨pk⟩, ⟨pw⟩⟩
      rw [if_neg c33] at H; have c33b0 : decide (a3 < (-1)) = false := decide_eq_false c33; clear c33
      as_aux_lemma =>
       have H' := am H; clear H; go_wp2; go_meet
       case rel => exact ⟨_, (decide (a3 > 1)), pr, H', ⟨by have := HJ7.out; have := HJ14.out; have := HJ26.out; first | omega | exact Nat.le_refl _⟩, ⟨pk⟩, ⟨pw⟩⟩
     rw [if_neg c30] at H; have c30b0 : (x14_26 == 0) = false := beq_eq_false_iff_ne.mpr c30; have c30b1 : (x14_26 != 0) = true := bne_iff_ne.mpr c30; (first | rw [c30b0] | (simp only [i64_w, i32_w]; rw [c30b0]) | skip)
     as_aux_lemma =>
      have H' := am H; clear H; go_wp2; go_meet
      case rel => exact ⟨_, (false), pr, H', ⟨by have := HJ7.out; have := HJ14.out; have := HJ26.out; first | omega | exact Nat.le_refl _⟩, ⟨pk⟩, ⟨pw⟩⟩
    as_aux_lemma =>
    clear HC29; (try clear c1); (try clear c2); (try clear p2); (try clear c3); (try clear c4); (try clear c8); (try clear c11); (try clear c13); (try clear c18); (try clear c18b0); (try clear c18b1); (try clear c19); (try clear c19b0); (try clear c20); (try clear c20b0); (try clear c22); (try clear c22b0); (try clear c24); (try clear c24b0); (try clear c28); (try clear c30); (try clear c30b0); (try clear c30b1); (try clear c31); (try clear c31b0); (try clear c32); (try clear c32b0); (try clear c33); (try clear c33b0); (try clear hcz12_0); (try clear hcz12_1); (try clear hcz16_0); (try clear hcz16_1); (try clear hcz21_0); (try clear hcz21_1); (try clear hcz23_0); (try clear hcz23_1); (try clear hcz25_0); (try clear hcz25_1); (try clear hcz26_0); (try clear hcz26_1); (try clear hfz12_0); (try clear hfz12_1); (try clear hfz16_0); (try clear hfz16_1); (try clear hfz21_0); (try clear hfz21_1); (try clear hfz23_0); (try clear hfz23_1); (try clear hfz25_0); (try clear hfz25_1); (try clear hfz26_0); (try clear hfz26_1); (try clear p2); obtain ⟨kq, x76_28, rfl, HA, HJ28, BK1099, HB⟩ := hcut; cases kq with
    | zero => exact absurd HA.out (by simp [L2_OctGuard.j3])
    | succ kj28 =>
     have H := HA.out; clear HA; simp only [L2_OctGuard.j3] at H; have HC34 := am H; clear H; go_upto_if 76 with (fail); go_cut [14] (fun v14 wc => ∃ (kq : Nat) (x14_33 : Int), v14 = .int .i64 x14_33 ∧ Aside0 (L2_OctGuard.j4 kq a1 a2 a3 a4 a5 x14_33 a0_0 l0_1 = some r) ∧ Aside0 (kq ≤ kj28) ∧ Aside0 (wc.heap[gb1099]? = some (.cells #[.int .i64 a0_0, (.slice A0_1 l0_1.length c0_1)] 70 (0, 0))) ∧ Aside0 (Below w.heap.size w wc))
     case first =>
      have H := HC34.out; clear HC34; by_cases c35 : x76_28 = true
      ·subst c35
       have H1 : (L2_OctGuard.j4 kj28 a1 a2 a3 a4 a5 3 a0_0 l0_1) = some r := by rw [if_pos rfl] at H; exact H
       clear H; have H := H1; clear H1
       as_aux_lemma =>
        have H' := am H; clear H; go_wp2; go_meet
        case rel => exact ⟨_, (3), pr, H', ⟨by have := HJ7.out; have := HJ14.out; have := HJ26.out; have := HJ28.out; first | omega | exact Nat.le_refl _⟩, ⟨pk⟩, ⟨pw⟩⟩
      replace c35 := Bool.eq_false_iff.mpr c35; subst c35
      have H1 : (L2_OctGuard.j4 kj28 a1 a2 a3 a4 a5 x14_26 a0_0 l0_1) = some r := by rw [if_neg (show ¬ (false = true) by decide)] at H; exact H
      clear H; have H := H1; clear H1
      as_aux_lemma =>
       have H' := am H; clear H; go_wp2; go_meet
       case rel => exact ⟨_, (x14_26), pr, H', ⟨by have := HJ7.out; have := HJ14.out; have := HJ26.out; have := HJ28.out; first | omega | exact Nat.le_refl _⟩, ⟨pk⟩, ⟨pw⟩⟩
     as_aux_lemma =>
     clear HC34; (try clear c1); (try clear c2); (try clear p2); (try clear c3); (try clear c4); (try clear c8); (try clear c11); (try clear c13); (try clear c18); (try clear c18b0); (try clear c18b1); (try clear c19); (try clear c19b0); (try clear c20); (try clear c20b0); (try clear c22); (try clear c22b0); (try clear c24); (try clear c24b0); (try clear c28); (try clear c30); (try clear c30b0); (try clear c30b1); (try clear c31); (try clear c31b0); (try clear c32); (try clear c32b0); (try clear c33); (try clear c33b0); (try clear c35); (try clear hcz12_0); (try clear hcz12_1); (try clear hcz16_0); (try clear hcz16_1); (try clear hcz21_0); (try clear hcz21_1); (try clear hcz23_0); (try clear hcz23_1); (try clear hcz25_0); (try clear hcz25_1); (try clear hcz26_0); (try clear hcz26_1); (try clear hfz12_0); (try clear hfz12_1); (try clear hfz16_0); (try clear hfz16_1); (try clear hfz21_0); (try clear hfz21_1); (try clear hfz23_0); (try clear hfz23_1); (try clear hfz25_0); (try clear hfz25_1); (try clear hfz26_0); (try clear hfz26_1); (try clear p2); obtain ⟨kq, x14_33, rfl, HA, HJ33, BK1099, HB⟩ := hcut; cases kq with
     | zero => exact absurd HA.out (by simp [L2_OctGuard.j4])
     | succ kj33 =>
      have H := HA.out; clear HA; simp only [L2_OctGuard.j4] at H; have HC36 := am H; clear H; go_upto_region 9 with (fail); go_cut [82] (fun v82 wc => ∃ (kq : Nat) (x82_35 : Bool), v82 = .bool x82_35 ∧ Aside0 (L2_OctGuard.j5 kq a1 a2 a3 a4 a5 x14_33 x82_35 a0_0 l0_1 = some r) ∧ Aside0 (kq ≤ kj33) ∧ Aside0 (wc.heap[gb1099]? = some (.cells #[.int .i64 a0_0, (.slice A0_1 l0_1.length c0_1)] 70 (0, 0))) ∧ Aside0 (Below w.heap.size w wc))
      case first =>
       have H := HC36.out; clear HC36; by_cases c37 : x14_33 = 0
       ·rw [if_pos c37] at H
        have c37b0 : (x14_33 == 0) = true := beq_iff_eq.mpr c37; have c37b1 : (x14_33 != 0) = false := bne_eq_false_iff_eq.mpr c37; clear c37; (first | rw [c37b0] | (simp only [i64_w, i32_w]; rw [c37b0]) | skip); replace H := Option.bind_eq_some_iff.mp H; obtain ⟨t1102, A380, H⟩ := H; replace H : (L2_OctGuard.j5 kj33 a1 a2 a3 a4 a5 x14_33 t1102 a0_0 l0_1) = some r := H; have A38 := am A380; clear A380
        as_aux_lemma =>
         have H' := am H; clear H; go_wp2_with (first | (go_at_call 22; (with_reducible refine (R2_Far.calls a5 1099511627776 t1102 _ A38.out).mono ?_); rintro e w' ⟨rfl, ⟨nd, rfl⟩⟩)); go_meet
         case rel => exact ⟨_, (t1102), pr, H', ⟨by have := HJ7.out; have := HJ14.out; have := HJ26.out; have := HJ28.out; have := HJ33.out; first | omega | exact Nat.le_refl _⟩, ⟨pk⟩, ⟨pw⟩⟩
       rw [if_neg c37] at H; have c37b0 : (x14_33 == 0) = false := beq_eq_false_iff_ne.mpr c37; have c37b1 : (x14_33 != 0) = true := bne_iff_ne.mpr c37; (first | rw [c37b0] | (simp only [i64_w, i32_w]; rw [c37b0]) | skip)
       as_aux_lemma =>
        have H' := am H; clear H; go_wp2; go_meet
        case rel => exact ⟨_, (false), pr, H', ⟨by have := HJ7.out; have := HJ14.out; have := HJ26.out; have := HJ28.out; have := HJ33.out; first | omega | exact Nat.le_refl _⟩, ⟨pk⟩, ⟨pw⟩⟩
      as_aux_lemma =>
      clear HC36; (try clear c1); (try clear c2); (try clear p2); (try clear c3); (try clear c4); (try clear c8); (try clear c11); (try clear c13); (try clear c18); (try clear c18b0); (try clear c18b1); (try clear c19); (try clear c19b0); (try clear c20); (try clear c20b0); (try clear c22); (try clear c22b0); (try clear c24); (try clear c24b0); (try clear c28); (try clear c30); (try clear c30b0); (try clear c30b1); (try clear c31); (try clear c31b0); (try clear c32); (try clear c32b0); (try clear c33); (try clear c33b0); (try clear c35); (try clear c37); (try clear c37b0); (try clear c37b1); (try clear hcz12_0); (try clear hcz12_1); (try clear hcz16_0); (try clear hcz16_1); (try clear hcz21_0); (try clear hcz21_1); (try clear hcz23_0); (try clear hcz23_1); (try clear hcz25_0); (try clear hcz25_1); (try clear hcz26_0); (try clear hcz26_1); (try clear hfz12_0); (try clear hfz12_1); (try clear hfz16_0); (try clear hfz16_1); (try clear hfz21_0); (try clear hfz21_1); (try clear hfz23_0); (try clear hfz23_1); (try clear hfz25_0); (try clear hfz25_1); (try clear hfz26_0); (try clear hfz26_1); (try clear p2); obtain ⟨kq, x82_35, rfl, HA, HJ35, BK1099, HB⟩ := hcut; cases kq with
      | zero => exact absurd HA.out (by simp [L2_OctGuard.j5])
      | succ kj35 =>
       have H := HA.out; clear HA; simp only [L2_OctGuard.j5] at H; have HC39 := am H; clear H; go_upto_if 82 with (fail); go_cut [14] (fun v14 wc => ∃ (kq : Nat) (x14_38 : Int), v14 = .int .i64 x14_38 ∧ Aside0 (L2_OctGuard.j6 kq a1 a2 a3 a4 a5 x14_38 a0_0 l0_1 = some r) ∧ Aside0 (kq ≤ kj35) ∧ Aside0 (wc.heap[gb1099]? = some (.cells #[.int .i64 a0_0, (.slice A0_1 l0_1.length c0_1)] 70 (0, 0))) ∧ Aside0 (Below w.heap.size w wc))
       case first =>
        have H := HC39.out; clear HC39; by_cases c40 : x82_35 = true
        ·subst c40
         have H1 : (L2_OctGuard.j6 kj35 a1 a2 a3 a4 a5 2 a0_0 l0_1) = some r := by rw [if_pos rfl] at H; exact H
         clear H; have H := H1; clear H1
         as_aux_lemma =>
          have H' := am H; clear H; go_wp2; go_meet
          case rel => exact ⟨_, (2), pr, H', ⟨by have := HJ7.out; have := HJ14.out; have := HJ26.out; have := HJ28.out; have := HJ33.out; have := HJ35.out; first | omega | exact Nat.le_refl _⟩, ⟨pk⟩, ⟨pw⟩⟩
        replace c40 := Bool.eq_false_iff.mpr c40; subst c40
        have H1 : (L2_OctGuard.j6 kj35 a1 a2 a3 a4 a5 x14_33 a0_0 l0_1) = some r := by rw [if_neg (show ¬ (false = true) by decide)] at H; exact H
        clear H; have H := H1; clear H1
        as_aux_lemma =>
         have H' := am H; clear H; go_wp2; go_meet
         case rel => exact ⟨_, (x14_33), pr, H', ⟨by have := HJ7.out; have := HJ14.out; have := HJ26.out; have := HJ28.out; have := HJ33.out; have := HJ35.out; first | omega | exact Nat.le_refl _⟩, ⟨pk⟩, ⟨pw⟩⟩
       as_aux_lemma =>
       clear HC39; (try clear c1); (try clear c2); (try clear p2); (try clear c3); (try clear c4); (try clear c8); (try clear c11); (try clear c13); (try clear c18); (try clear c18b0); (try clear c18b1); (try clear c19); (try clear c19b0); (try clear c20); (try clear c20b0); (try clear c22); (try clear c22b0); (try clear c24); (try clear c24b0); (try clear c28); (try clear c30); (try clear c30b0); (try clear c30b1); (try clear c31); (try clear c31b0); (try clear c32); (try clear c32b0); (try clear c33); (try clear c33b0); (try clear c35); (try clear c37); (try clear c37b0); (try clear c37b1); (try clear c40); (try clear hcz12_0); (try clear hcz12_1); (try clear hcz16_0); (try clear hcz16_1); (try clear hcz21_0); (try clear hcz21_1); (try clear hcz23_0); (try clear hcz23_1); (try clear hcz25_0); (try clear hcz25_1); (try clear hcz26_0); (try clear hcz26_1); (try clear hfz12_0); (try clear hfz12_1); (try clear hfz16_0); (try clear hfz16_1); (try clear hfz21_0); (try clear hfz21_1); (try clear hfz23_0); (try clear hfz23_1); (try clear hfz25_0); (try clear hfz25_1); (try clear hfz26_0); (try clear hfz26_1); (try clear p2); obtain ⟨kq, x14_38, rfl, HA, HJ38, BK1099, HB⟩ := hcut; cases kq with
       | zero => exact absurd HA.out (by simp [L2_OctGuard.j6])
       | succ kj38 =>
        have H := HA.out; clear HA; simp only [L2_OctGuard.j6] at H; replace H := Option.bind_eq_some_iff.mp H; obtain ⟨⟨t1103, t1104⟩, A410, H⟩ := H; replace H : ((octagon_Guard.f t1103 t1104 a1 a2 a3 a4 a5).bind fun bt1107 => (if x14_38 > 0 then ((L2_coded.f bt1107.2.2.2 x14_38).bind fun t1114 => (if t1114 = true then (if bt1107.2.2.1 = true then (none) else ((L2_noOct.f bt1107.1 bt1107.2.1).bind fun t1115 => (some t1115))) else (none))) else ((L2_near.f kj38 l0_1).bind fun t1116 => (if t1116 = true then ((R2_Far.f a5 1048576).bind fun t1117 => (L2_OctGuard.j7 kj38 a1 a2 a3 a4 a5 bt1107.2.2.1 bt1107.2.2.2 t1117 a0_0 l0_1 bt1107.1 bt1107.2.1)) else (L2_OctGuard.j7 kj38 a1 a2 a3 a4 a5 bt1107.2.2.1 bt1107.2.2.2 true a0_0 l0_1 bt1107.1 bt1107.2.1))))) = some r := H; have A41 := am A410; clear A410; replace H := Option.bind_eq_some_iff.mp H; obtain ⟨⟨t1107, t1108, t1111, t1112⟩, A420, H⟩ := H; replace H : (if x14_38 > 0 then ((L2_coded.f t1112 x14_38).bind fun t1114 => (if t1114 = true then (if t1111 = true then (none) else ((L2_noOct.f t1107 t1108).bind fun t1115 => (some t1115))) else (none))) else ((L2_near.f kj38 l0_1).bind fun t1116 => (if t1116 = true then ((R2_Far.f a5 1048576).bind fun t1117 => (L2_OctGuard.j7 kj38 a1 a2 a3 a4 a5 t1111 t1112 t1117 a0_0 l0_1 t1107 t1108)) else (L2_OctGuard.j7 kj38 a1 a2 a3 a4 a5 t1111 t1112 true a0_0 l0_1 t1107 t1108)))) = some r := H; have A42 := am A420; clear A420; by_cases c43 : x14_38 > 0
        ·rw [if_pos c43] at H
         have c43b0 : decide (0 < x14_38) = true := decide_eq_true c43; clear c43; replace H := Option.bind_eq_some_iff.mp H; obtain ⟨t1114, A440, H⟩ := H; replace H : (if t1114 = true then (if t1111 = true then (none) else ((L2_noOct.f t1107 t1108).bind fun t1115 => (some t1115))) else (none)) = some r := H; have A44 := am A440; clear A440; by_cases c45 : t1114 = true
         ·subst c45
          have H1 : (if t1111 = true then (none) else ((L2_noOct.f t1107 t1108).bind fun t1115 => (some t1115))) = some r := by rw [if_pos rfl] at H; exact H
          clear H; have H := H1; clear H1; by_cases c46 : t1111 = true
          ·subst c46
           have H1 : (none) = some r := by rw [if_pos rfl] at H; exact H
           clear H; have H := H1; clear H1; exact absurd H (by simp)
          replace c46 := Bool.eq_false_iff.mpr c46; subst c46
          have H1 : ((L2_noOct.f t1107 t1108).bind fun t1115 => (some t1115)) = some r := by rw [if_neg (show ¬ (false = true) by decide)] at H; exact H
          clear H; have H := H1; clear H1; replace H := Option.bind_eq_some_iff.mp H; obtain ⟨t1115, A470, H⟩ := H; replace H : (some t1115) = some r := H; have A47 := am A470; clear A470
          as_aux_lemma =>
           obtain rfl := Option.some.inj H; have hcz48_0 : wc.cell? ⟨gb1099, 0, none⟩ = some (.int .i64 a0_0) := bc BK1099 0; have hcz48_1 : wc.cell? ⟨gb1099, 1, none⟩ = some (.slice A0_1 l0_1.length c0_1) := bc BK1099 1; have hfz48_0 := blk_frozen BK1099.out 0; have hfz48_1 := blk_frozen BK1099.out 1
           go_wp2_with (first | ((with_reducible refine gate_callee (f := 44) rfl ?_); refine goesL_ (some 85) rfl rfl Tryd.func44 kk rfl #[.agg #[.int .i64 a0_0, .slice A0_1 l0_1.length c0_1]] rfl (by (try simp only [List.map_toArray, List.map_cons, List.map_nil]); first | done | rfl | (simp only [List.length_drop, List.length_take]; rfl)) ?_; (with_reducible refine (L2_octOf.calls kj38 a0_0 _ _ l0_1 t1103 t1104 _ ?side1 ?side2 A41.out).mono ?_); (case side1 => repeat (first | exact (Kd.C_below HR0_1.out HB.out) | (with_reducible refine Kd.C_alloc ?_ _) | (with_reducible refine Kd.C_drewN ?_ _) | (with_reducible refine Kd.C_drew ?_))); (case side2 => exact HC0_1.out); rintro e w49 ⟨v1105, rfl, ho0, hb⟩; refine ⟨_, rfl, ?_⟩; have n0_ := am (Kd.R_lower ho0 (below_size pw)); have n1_ := bb BK1099 hb; have n2_ := am (below_step pw hb); clear BK1099 HB; revert n0_ n1_ n2_; intro HO1106 BK1099 HB; (try clear hb); (try clear hb2); (try clear hk); (try clear hi); (try clear ho0); obtain ⟨Ao50, co50, eo50⟩ := Kd.R_slice HO1106.out; subst eo50) | ((with_reducible refine gate_callee (f := 57) rfl ?_); refine goesL_ (some 91) rfl rfl Tryd.func57 kk rfl #[.agg #[.int .i64 t1103, .slice Ao50 t1104.length co50], .int .i64 a1, .int .i64 a2, .int .i64 a3, .int .i64 a4, .int .i64 a5] rfl (by (try simp only [List.map_toArray, List.map_cons, List.map_nil]); first | done | rfl | (simp only [List.length_drop, List.length_take]; rfl)) ?_; (with_reducible refine (octagon_Guard.calls t1103 _ _ t1104 a1 a2 a3 a4 a5 t1107 t1108 false t1112 _ ?side1 ?side2 A42.out (am (ErrAt.below hE2.out pw)).out (am (ErrAt.below hE3.out pw)).out (am (ErrAt.below hE7.out pw)).out).mono ?_); (case side1 => repeat (first | exact (Kd.R_reads' HO1106.out).2.2 | (with_reducible refine Kd.C_alloc ?_ _) | (with_reducible refine Kd.C_drewN ?_ _) | (with_reducible refine Kd.C_drew ?_))); (case side2 => exact (Kd.R_reads' HO1106.out).2.1); rintro e w51 ⟨v1109, rfl, ho0, hb⟩; refine ⟨_, rfl, ?_⟩; have n0_ := am (Kd.R_elder' (rk HO1106) (Kd.R_base ho0) hb); have n1_ := am (Kd.R_lower (Kd.R_new' ho0 (Kd.R_lt (rk HO1106))) (below_size pw)); have n2_ := bb BK1099 hb; have n3_ := am (below_step pw hb); clear HO1106 BK1099 HB; revert n0_ n1_ n2_ n3_; intro HO1106 HO1110 BK1099 HB; (try clear hb); (try clear hb2); (try clear hk); (try clear hi); (try clear ho0); (try simp only [errW_none, errW_some])) | ((with_reducible refine gate_dst (N := 15) rfl ?_); (try (refine gate_guard (by rfl) ?_; dsimp only)); refine box_event ?hg (N := 15) ?hd (cs := #[.int .i64 0, .slice none 0 0]) (t := 74) ?hr ?_; (case hd => rfl); (case hg => rfl); (case hr => first | (go_simp; done) | (go_simp; rfl)); intro gb1113 hg w52 hbox hb; have n0_ := am (Kd.R_below (rk HO1106) hb); have n1_ := am (Kd.R_below (rk HO1110) hb); have n2_ := bb BK1099 hb; have n3_ := am (below_step pw hb); have n4_ := am (hbox); have n5_ := am (sz (w := w) hg pw); have n6_ := am (sz (w := w) hg pw); have n7_ := am (nl BK1099 hg); have n8_ := am ((nl BK1099 hg).symm); clear HO1106 HO1110 BK1099 HB; revert n0_ n1_ n2_ n3_ n4_ n5_ n6_ n7_ n8_; intro HO1106 HO1110 BK1099 HB BK1113 GW1113 GE1113 NB1099_1113 NB1113_1099; clear hb hbox hg; have hnb53 := NB1113_1099.out; have hnc53 := NB1099_1113.out; have hcz54_0 : w52.cell? ⟨gb1113, 0, none⟩ = some (.int .i64 0) := bc BK1113 0; have hcz54_1 : w52.cell? ⟨gb1113, 1, none⟩ = some (.slice none 0 0) := bc BK1113 1; have hfz54_0 := blk_frozen BK1113.out 0; have hfz54_1 := blk_frozen BK1113.out 1; obtain ⟨Ao55, co55, eo55⟩ := Kd.R_slice HO1110.out; subst eo55; have CA44 := fun (W : World) (hE9_ : ErrAll W) => L2_coded.calls t1112 x14_38 true W A44.out hE9_; try simp only [errW_none, errW_some] at CA44) | (go_at_call 20; (with_reducible refine (CA44 _ (ErrAll.below hE9.out pw)).mono ?_); rintro e w56 ⟨rfl, hb⟩; have n0_ := am (Kd.R_below (by (with_reducible repeat (first | apply Kd.R_alloc | apply Kd.R_drewN | apply Kd.R_drew)); exact (Kd.R_mono (Kd.R_far (p := ⟨gb1113, 1, none⟩) (Kd.R_far (p := ⟨gb1113, 0, none⟩) (Kd.R_types HO1106.out BK1113.out (by decide)) (fun _ hk => hk.2) (.int .i64 t1107)) (fun _ hk => hk.2) (.slice Ao55 t1108.length co55)) (fun _ h_ => h_.1))) hb); have n1_ := am (Kd.R_below (by (with_reducible repeat (first | apply Kd.R_alloc | apply Kd.R_drewN | apply Kd.R_drew)); exact (Kd.R_mono (Kd.R_far (p := ⟨gb1113, 1, none⟩) (Kd.R_far (p := ⟨gb1113, 0, none⟩) (Kd.R_types HO1110.out BK1113.out (by decide)) (fun _ hk => hk.2) (.int .i64 t1107)) (fun _ hk => hk.2) (.slice Ao55 t1108.length co55)) (fun _ h_ => h_.1))) hb); have n2_ := am (blk_below (g := gb1099) (o := .cells #[.int .i64 a0_0, .slice A0_1 l0_1.length c0_1] 70 (0, 0)) pff hb); have n3_ := am (blk_below (g := gb1113) (o := .cells #[.int .i64 t1107, .slice Ao55 t1108.length co55] 74 (0, 0)) (by (with_reducible repeat (first | refine blk_drewN ?_ _ | refine blk_drew ?_ | refine blk_alloc ?_ _)); refine blk_put (cs := #[.int .i64 t1107, .slice none 0 0]) ?_ 1 _ rfl; (with_reducible repeat (first | refine blk_drewN ?_ _ | refine blk_drew ?_ | refine blk_alloc ?_ _)); refine blk_put (cs := #[.int .i64 0, .slice none 0 0]) ?_ 0 _ rfl; (with_reducible repeat (first | refine blk_drewN ?_ _ | refine blk_drew ?_ | refine blk_alloc ?_ _)); exact BK1113.out) hb); have n4_ := am (below_step pw hb); clear HO1106 HO1110 BK1099 BK1113 HB; revert n0_ n1_ n2_ n3_ n4_; intro HO1106 HO1110 BK1099 BK1113 HB; (try clear hb); (try clear hb2); (try clear hk); (try clear hi); have hcz57_0 : w56.cell? ⟨gb1113, 0, none⟩ = some (.int .i64 t1107) := bc BK1113 0; have hcz57_1 : w56.cell? ⟨gb1113, 1, none⟩ = some (.slice Ao55 t1108.length co55) := bc BK1113 1; have hfz57_0 := blk_frozen BK1113.out 0; have hfz57_1 := blk_frozen BK1113.out 1) | (go_at_call 48; (with_reducible refine (L2_noOct.calls t1107 _ _ t1108 t1115 _ ?side1 ?side2 A47.out).mono ?_); (case side1 => repeat (first | exact (Kd.R_reads' HO1110.out).2.2 | (with_reducible refine Kd.C_alloc ?_ _) | (with_reducible refine Kd.C_drewN ?_ _) | (with_reducible refine Kd.C_drew ?_))); (case side2 => exact (Kd.R_reads' HO1110.out).2.1); rintro e w58 ⟨rfl, hb⟩; have n0_ := am (Kd.R_below (rk HO1106) hb); have n1_ := am (Kd.R_below (rk HO1110) hb); have n2_ := bb BK1099 hb; have n3_ := bb BK1113 hb; have n4_ := am (below_step pw hb); clear HO1106 HO1110 BK1099 BK1113 HB; revert n0_ n1_ n2_ n3_ n4_; intro HO1106 HO1110 BK1099 BK1113 HB; (try clear hb); (try clear hb2); (try clear hk); (try clear hi)))
           go_ret; exact ⟨pe, pw⟩
         replace c45 := Bool.eq_false_iff.mpr c45; subst c45
         have H1 : (none) = some r := by rw [if_neg (show ¬ (false = true) by decide)] at H; exact H
         clear H; have H := H1; clear H1; exact absurd H (by simp)
        rw [if_neg c43] at H; have c43b0 : decide (0 < x14_38) = false := decide_eq_false c43; clear c43; have HC59 := am H; clear H; have hcz60_0 : wc.cell? ⟨gb1099, 0, none⟩ = some (.int .i64 a0_0) := bc BK1099 0; have hcz60_1 : wc.cell? ⟨gb1099, 1, none⟩ = some (.slice A0_1 l0_1.length c0_1) := bc BK1099 1; have hfz60_0 := blk_frozen BK1099.out 0; have hfz60_1 := blk_frozen BK1099.out 1
        go_upto_region 14 with (first | ((with_reducible refine gate_callee (f := 44) rfl ?_); refine goesL_ (some 85) rfl rfl Tryd.func44 kk rfl #[.agg #[.int .i64 a0_0, .slice A0_1 l0_1.length c0_1]] rfl (by (try simp only [List.map_toArray, List.map_cons, List.map_nil]); first | done | rfl | (simp only [List.length_drop, List.length_take]; rfl)) ?_; (with_reducible refine (L2_octOf.calls kj38 a0_0 _ _ l0_1 t1103 t1104 _ ?side1 ?side2 A41.out).mono ?_); (case side1 => repeat (first | exact (Kd.C_below HR0_1.out HB.out) | (with_reducible refine Kd.C_alloc ?_ _) | (with_reducible refine Kd.C_drewN ?_ _) | (with_reducible refine Kd.C_drew ?_))); (case side2 => exact HC0_1.out); rintro e w61 ⟨v1105, rfl, ho0, hb⟩; refine ⟨_, rfl, ?_⟩; have n0_ := am (Kd.R_lower ho0 (below_size pw)); have n1_ := bb BK1099 hb; have n2_ := am (below_step pw hb); clear BK1099 HB; revert n0_ n1_ n2_; intro HO1106 BK1099 HB; (try clear hb); (try clear hb2); (try clear hk); (try clear hi); (try clear ho0); obtain ⟨Ao62, co62, eo62⟩ := Kd.R_slice HO1106.out; subst eo62) | ((with_reducible refine gate_callee (f := 57) rfl ?_); refine goesL_ (some 91) rfl rfl Tryd.func57 kk rfl #[.agg #[.int .i64 t1103, .slice Ao62 t1104.length co62], .int .i64 a1, .int .i64 a2, .int .i64 a3, .int .i64 a4, .int .i64 a5] rfl (by (try simp only [List.map_toArray, List.map_cons, List.map_nil]); first | done | rfl | (simp only [List.length_drop, List.length_take]; rfl)) ?_; (with_reducible refine (octagon_Guard.calls t1103 _ _ t1104 a1 a2 a3 a4 a5 t1107 t1108 t1111 t1112 _ ?side1 ?side2 A42.out (am (ErrAt.below hE2.out pw)).out (am (ErrAt.below hE3.out pw)).out (am (ErrAt.below hE7.out pw)).out).mono ?_); (case side1 => repeat (first | exact (Kd.R_reads' HO1106.out).2.2 | (with_reducible refine Kd.C_alloc ?_ _) | (with_reducible refine Kd.C_drewN ?_ _) | (with_reducible refine Kd.C_drew ?_))); (case side2 => exact (Kd.R_reads' HO1106.out).2.1); rintro e w63 ⟨v1109, rfl, ho0, hb⟩; refine ⟨_, rfl, ?_⟩; have n0_ := am (Kd.R_elder' (rk HO1106) (Kd.R_base ho0) hb); have n1_ := am (Kd.R_lower (Kd.R_new' ho0 (Kd.R_lt (rk HO1106))) (below_size pw)); have n2_ := bb BK1099 hb; have n3_ := am (below_step pw hb); clear HO1106 BK1099 HB; revert n0_ n1_ n2_ n3_; intro HO1106 HO1110 BK1099 HB; (try clear hb); (try clear hb2); (try clear hk); (try clear hi); (try clear ho0); (try simp only [errW_none, errW_some])) | ((with_reducible refine gate_dst (N := 15) rfl ?_); (try (refine gate_guard (by rfl) ?_; dsimp only)); refine box_event ?hg (N := 15) ?hd (cs := #[.int .i64 0, .slice none 0 0]) (t := 74) ?hr ?_; (case hd => rfl); (case hg => rfl); (case hr => first | (go_simp; done) | (go_simp; rfl)); intro gb1113 hg w64 hbox hb; have n0_ := am (Kd.R_below (rk HO1106) hb); have n1_ := am (Kd.R_below (rk HO1110) hb); have n2_ := bb BK1099 hb; have n3_ := am (below_step pw hb); have n4_ := am (hbox); have n5_ := am (sz (w := w) hg pw); have n6_ := am (sz (w := w) hg pw); have n7_ := am (nl BK1099 hg); have n8_ := am ((nl BK1099 hg).symm); clear HO1106 HO1110 BK1099 HB; revert n0_ n1_ n2_ n3_ n4_ n5_ n6_ n7_ n8_; intro HO1106 HO1110 BK1099 HB BK1113 GW1113 GE1113 NB1099_1113 NB1113_1099; clear hb hbox hg; have hnb65 := NB1113_1099.out; have hnc65 := NB1099_1113.out; have hcz66_0 : w64.cell? ⟨gb1113, 0, none⟩ = some (.int .i64 0) := bc BK1113 0; have hcz66_1 : w64.cell? ⟨gb1113, 1, none⟩ = some (.slice none 0 0) := bc BK1113 1; have hfz66_0 := blk_frozen BK1113.out 0; have hfz66_1 := blk_frozen BK1113.out 1; obtain ⟨Ao67, co67, eo67⟩ := Kd.R_slice HO1110.out; subst eo67))
        (try simp only [Act.put, List.setIfInBounds_toArray, List.set_cons_zero, List.set_cons_succ]); go_cut [115] (fun v115 wc => ∃ (kq : Nat) (x115_58 : Bool), v115 = .bool x115_58 ∧ Aside0 (L2_OctGuard.j7 kq a1 a2 a3 a4 a5 t1111 t1112 x115_58 a0_0 l0_1 t1107 t1108 = some r) ∧ Aside0 (kq ≤ kj38) ∧ Aside0 (Kd.R k146 146 wc w.heap.size (fun _ => True) (.slice Ao67 t1108.length co67) t1108) ∧ Aside0 (wc.heap[gb1099]? = some (.cells #[.int .i64 a0_0, (.slice A0_1 l0_1.length c0_1)] 70 (0, 0))) ∧ Aside0 (wc.heap[gb1113]? = some (.cells #[.int .i64 t1107, (.slice Ao67 t1108.length co67)] 74 (0, 0))) ∧ Aside0 (Below w.heap.size w wc))
        case first =>
         have H := HC59.out; clear HC59; replace H := Option.bind_eq_some_iff.mp H; obtain ⟨t1116, A680, H⟩ := H; replace H : (if t1116 = true then ((R2_Far.f a5 1048576).bind fun t1117 => (L2_OctGuard.j7 kj38 a1 a2 a3 a4 a5 t1111 t1112 t1117 a0_0 l0_1 t1107 t1108)) else (L2_OctGuard.j7 kj38 a1 a2 a3 a4 a5 t1111 t1112 true a0_0 l0_1 t1107 t1108)) = some r := H; have A68 := am A680; clear A680; by_cases c69 : t1116 = true
         ·subst c69
          have H1 : ((R2_Far.f a5 1048576).bind fun t1117 => (L2_OctGuard.j7 kj38 a1 a2 a3 a4 a5 t1111 t1112 t1117 a0_0 l0_1 t1107 t1108)) = some r := by rw [if_pos rfl] at H; exact H
          clear H; have H := H1; clear H1; replace H := Option.bind_eq_some_iff.mp H; obtain ⟨t1117, A700, H⟩ := H; replace H : (L2_OctGuard.j7 kj38 a1 a2 a3 a4 a5 t1111 t1112 t1117 a0_0 l0_1 t1107 t1108) = some r := H; have A70 := am A700; clear A700
          as_aux_lemma =>
           have H' := am H; clear H; have hnb71 := NB1099_1113.out; have hnc71 := NB1113_1099.out; have hcz72_0 : w64.cell? ⟨gb1099, 0, none⟩ = some (.int .i64 a0_0) := bc BK1099 0; have hcz72_1 : w64.cell? ⟨gb1099, 1, none⟩ = some (.slice A0_1 l0_1.length c0_1) := bc BK1099 1; have hfz72_0 := blk_frozen BK1099.out 0; have hfz72_1 := blk_frozen BK1099.out 1; go_wp2_with (first | ((with_reducible refine gate_callee (f := 25) rfl ?_); refine goesL_ (some 110) rfl rfl Tryd.func25 kk rfl #[.slice A0_1 l0_1.length c0_1] rfl (by (try simp only [List.map_toArray, List.map_cons, List.map_nil]); first | done | rfl | (simp only [List.length_drop, List.length_take]; rfl)) ?_; (with_reducible refine (L2_near.calls kj38 _ _ l0_1 true _ ?side1 ?side2 A68.out).mono ?_); (case side1 => exact Kd.C_below HR0_1.out pw); (case side2 => exact HC0_1.out); rintro e w' ⟨rfl, ⟨nd, rfl⟩⟩; refine ⟨_, rfl, ?_⟩) | (go_at_call 22; (with_reducible refine (R2_Far.calls a5 1048576 t1117 _ A70.out).mono ?_); rintro e w' ⟨rfl, ⟨nd, rfl⟩⟩)); go_meet
           case rel => exact ⟨_, (t1117), pr, H', ⟨by have := HJ7.out; have := HJ14.out; have := HJ26.out; have := HJ28.out; have := HJ33.out; have := HJ35.out; have := HJ38.out; first | omega | exact Nat.le_refl _⟩, ⟨by (with_reducible repeat (first | apply Kd.R_alloc | apply Kd.R_drewN | apply Kd.R_drew)); exact Kd.R_mono (Kd.R_far (p := ⟨gb1113, 1, none⟩) (Kd.R_far (p := ⟨gb1113, 0, none⟩) (Kd.R_types HO1110.out BK1113.out (by decide)) (fun _ hk => hk.2) (.int .i64 t1107)) (fun _ hk => hk.2) (.slice Ao67 t1108.length co67)) (fun _ hk => trivial)⟩, ⟨by (with_reducible repeat (first | refine blk_drewN ?_ _ | refine blk_drew ?_ | refine blk_alloc ?_ _)); refine blk_far ?_ NB1099_1113.out _; (with_reducible repeat (first | refine blk_drewN ?_ _ | refine blk_drew ?_ | refine blk_alloc ?_ _)); refine blk_far ?_ NB1099_1113.out _; (with_reducible repeat (first | refine blk_drewN ?_ _ | refine blk_drew ?_ | refine blk_alloc ?_ _)); exact BK1099.out⟩, ⟨by (with_reducible repeat (first | refine blk_drewN ?_ _ | refine blk_drew ?_ | refine blk_alloc ?_ _)); refine blk_put (cs := #[.int .i64 t1107, .slice none 0 0]) ?_ 1 _ rfl; (with_reducible repeat (first | refine blk_drewN ?_ _ | refine blk_drew ?_ | refine blk_alloc ?_ _)); refine blk_put (cs := #[.int .i64 0, .slice none 0 0]) ?_ 0 _ rfl; (with_reducible repeat (first | refine blk_drewN ?_ _ | refine blk_drew ?_ | refine blk_alloc ?_ _)); exact BK1113.out⟩, ⟨pw⟩⟩
         replace c69 := Bool.eq_false_iff.mpr c69; subst c69
         have H1 : (L2_OctGuard.j7 kj38 a1 a2 a3 a4 a5 t1111 t1112 true a0_0 l0_1 t1107 t1108) = some r := by rw [if_neg (show ¬ (false = true) by decide)] at H; exact H
         clear H; have H := H1; clear H1
         as_aux_lemma =>
          have H' := am H; clear H; have hnb73 := NB1099_1113.out; have hnc73 := NB1113_1099.out; have hcz74_0 : w64.cell? ⟨gb1099, 0, none⟩ = some (.int .i64 a0_0) := bc BK1099 0; have hcz74_1 : w64.cell? ⟨gb1099, 1, none⟩ = some (.slice A0_1 l0_1.length c0_1) := bc BK1099 1; have hfz74_0 := blk_frozen BK1099.out 0; have hfz74_1 := blk_frozen BK1099.out 1; go_wp2_with (first | ((with_reducible refine gate_callee (f := 25) rfl ?_); refine goesL_ (some 110) rfl rfl Tryd.func25 kk rfl #[.slice A0_1 l0_1.length c0_1] rfl (by (try simp only [List.map_toArray, List.map_cons, List.map_nil]); first | done | rfl | (simp only [List.length_drop, List.length_take]; rfl)) ?_; (with_reducible refine (L2_near.calls kj38 _ _ l0_1 false _ ?side1 ?side2 A68.out).mono ?_); (case side1 => exact Kd.C_below HR0_1.out pw); (case side2 => exact HC0_1.out); rintro e w' ⟨rfl, ⟨nd, rfl⟩⟩; refine ⟨_, rfl, ?_⟩)); go_meet
          case rel => exact ⟨_, (true), pr, H', ⟨by have := HJ7.out; have := HJ14.out; have := HJ26.out; have := HJ28.out; have := HJ33.out; have := HJ35.out; have := HJ38.out; first | omega | exact Nat.le_refl _⟩, ⟨by (with_reducible repeat (first | apply Kd.R_alloc | apply Kd.R_drewN | apply Kd.R_drew)); exact Kd.R_mono (Kd.R_far (p := ⟨gb1113, 1, none⟩) (Kd.R_far (p := ⟨gb1113, 0, none⟩) (Kd.R_types HO1110.out BK1113.out (by decide)) (fun _ hk => hk.2) (.int .i64 t1107)) (fun _ hk => hk.2) (.slice Ao67 t1108.length co67)) (fun _ hk => trivial)⟩, ⟨by (with_reducible repeat (first | refine blk_drewN ?_ _ | refine blk_drew ?_ | refine blk_alloc ?_ _)); refine blk_far ?_ NB1099_1113.out _; (with_reducible repeat (first | refine blk_drewN ?_ _ | refine blk_drew ?_ | refine blk_alloc ?_ _)); refine blk_far ?_ NB1099_1113.out _; (with_reducible repeat (first | refine blk_drewN ?_ _ | refine blk_drew ?_ | refine blk_alloc ?_ _)); exact BK1099.out⟩, ⟨by (with_reducible repeat (first | refine blk_drewN ?_ _ | refine blk_drew ?_ | refine blk_alloc ?_ _)); refine blk_put (cs := #[.int .i64 t1107, .slice none 0 0]) ?_ 1 _ rfl; (with_reducible repeat (first | refine blk_drewN ?_ _ | refine blk_drew ?_ | refine blk_alloc ?_ _)); refine blk_put (cs := #[.int .i64 0, .slice none 0 0]) ?_ 0 _ rfl; (with_reducible repeat (first | refine blk_drewN ?_ _ | refine blk_drew ?_ | refine blk_alloc ?_ _)); exact BK1113.out⟩, ⟨pw⟩⟩
        as_aux_lemma =>
        clear HC59; (try clear c1); (try clear c2); (try clear p2); (try clear c3); (try clear c4); (try clear c5); (try clear c6); (try clear c7); (try clear c8); (try clear c11); (try clear c13); (try clear c18); (try clear c18b0); (try clear c18b1); (try clear c19); (try clear c19b0); (try clear c20); (try clear c20b0); (try clear c22); (try clear c22b0); (try clear c24); (try clear c24b0); (try clear c25); (try clear c28); (try clear c30); (try clear c30b0); (try clear c30b1); (try clear c31); (try clear c31b0); (try clear c32); (try clear c32b0); (try clear c33); (try clear c33b0); (try clear c35); (try clear c37); (try clear c37b0); (try clear c37b1); (try clear c40); (try clear c43); (try clear c43b0); (try clear c44); (try clear c45); (try clear c46); (try clear c53); (try clear c57); (try clear c65); (try clear c69); (try clear c71); (try clear c73); (try clear hcz12_0); (try clear hcz12_1); (try clear hcz16_0); (try clear hcz16_1); (try clear hcz21_0); (try clear hcz21_1); (try clear hcz23_0); (try clear hcz23_1); (try clear hcz25_0); (try clear hcz25_1); (try clear hcz26_0); (try clear hcz26_1); (try clear hcz48_0); (try clear hcz48_1); (try clear hcz54_0); (try clear hcz54_1); (try clear hcz57_0); (try clear hcz57_1); (try clear hcz60_0); (try clear hcz60_1); (try clear hcz66_0); (try clear hcz66_1); (try clear hcz72_0); (try clear hcz72_1); (try clear hcz74_0); (try clear hcz74_1); (try clear hfz12_0); (try clear hfz12_1); (try clear hfz16_0); (try clear hfz16_1); (try clear hfz21_0); (try clear hfz21_1); (try clear hfz23_0); (try clear hfz23_1); (try clear hfz25_0); (try clear hfz25_1); (try clear hfz26_0); (try clear hfz26_1); (try clear hfz48_0); (try clear hfz48_1); (try clear hfz54_0); (try clear hfz54_1); (try clear hfz57_0); (try clear hfz57_1); (try clear hfz60_0); (try clear hfz60_1); (try clear hfz66_0); (try clear hfz66_1); (try clear hfz72_0); (try clear hfz72_1); (try clear hfz74_0); (try clear hfz74_1); (try clear p2); obtain ⟨kq, x115_58, rfl, HA, HJ58, HO_1114001, BK1099, BK1113, HB⟩ := hcut; cases kq with
        | zero => exact absurd HA.out (by simp [L2_OctGuard.j7])
        | succ kj58 =>
         have H := HA.out; clear HA; simp only [L2_OctGuard.j7] at H; by_cases c75 : x115_58 = true
         ·subst c75
          have H1 : (some true) = some r := by rw [if_pos rfl] at H; exact H
          clear H; have H := H1; clear H1
          as_aux_lemma =>
           obtain rfl := Option.some.inj H; go_wp2; go_ret; exact ⟨pe, pw⟩
         replace c75 := Bool.eq_false_iff.mpr c75; subst c75
         have H1 : ((R2_ClosedOct.f kj58 a0_0 l0_1).bind fun bt1118 => (if a1 = 0 then (L2_OctGuard.j8 kj58 a1 a2 a3 a4 a5 t1111 t1112 bt1118.2.2 (a3 != 0) a0_0 l0_1 t1107 t1108 bt1118.1 bt1118.2.1) else (L2_OctGuard.j8 kj58 a1 a2 a3 a4 a5 t1111 t1112 bt1118.2.2 true a0_0 l0_1 t1107 t1108 bt1118.1 bt1118.2.1))) = some r := by rw [if_neg (show ¬ (false = true) by decide)] at H; exact H
         clear H; have H := H1; clear H1; replace H := Option.bind_eq_some_iff.mp H; obtain ⟨⟨t1118, t1119, t1122⟩, A760, H⟩ := H; replace H : (if a1 = 0 then (L2_OctGuard.j8 kj58 a1 a2 a3 a4 a5 t1111 t1112 t1122 (a3 != 0) a0_0 l0_1 t1107 t1108 t1118 t1119) else (L2_OctGuard.j8 kj58 a1 a2 a3 a4 a5 t1111 t1112 t1122 true a0_0 l0_1 t1107 t1108 t1118 t1119)) = some r := H; have A76 := am A760; clear A760; have HC77 := am H; clear H; have hnb78 := NB1099_1113.out; have hnc78 := NB1113_1099.out; have hcz79_0 : wc.cell? ⟨gb1099, 0, none⟩ = some (.int .i64 a0_0) := bc BK1099 0; have hcz79_1 : wc.cell? ⟨gb1099, 1, none⟩ = some (.slice A0_1 l0_1.length c0_1) := bc BK1099 1; have hfz79_0 := blk_frozen BK1099.out 0; have hfz79_1 := blk_frozen BK1099.out 1
         go_upto_region 17 with (first | ((with_reducible refine gate_callee (f := 49) rfl ?_); refine goesL_ (some 118) rfl rfl Tryd.func49 kk rfl #[.agg #[.int .i64 a0_0, .slice A0_1 l0_1.length c0_1]] rfl (by (try simp only [List.map_toArray, List.map_cons, List.map_nil]); first | done | rfl | (simp only [List.length_drop, List.length_take]; rfl)) ?_; (with_reducible refine (R2_ClosedOct.calls kj58 a0_0 _ _ l0_1 t1118 t1119 t1122 _ ?side1 ?side2 A76.out).mono ?_); (case side1 => repeat (first | exact (Kd.C_below HR0_1.out HB.out) | (with_reducible refine Kd.C_alloc ?_ _) | (with_reducible refine Kd.C_drewN ?_ _) | (with_reducible refine Kd.C_drew ?_))); (case side2 => exact HC0_1.out); rintro e w80 ⟨v1120, rfl, ho0, hb⟩; refine ⟨_, rfl, ?_⟩; have n0_ := am (Kd.R_below (rk HO_1114001) hb); have n1_ := am (Kd.R_lower ho0 (below_size pw)); have n2_ := bb BK1099 hb; have n3_ := bb BK1113 hb; have n4_ := am (below_step pw hb); clear HO_1114001 BK1099 BK1113 HB; revert n0_ n1_ n2_ n3_ n4_; intro HO_1114001 HO1121 BK1099 BK1113 HB; (try clear hb); (try clear hb2); (try clear hk); (try clear hi); (try clear ho0)) | ((with_reducible refine gate_dst (N := 18) rfl ?_); (try (refine gate_guard (by rfl) ?_; dsimp only)); refine box_event ?hg (N := 18) ?hd (cs := #[.int .i64 0, .slice none 0 0]) (t := 70) ?hr ?_; (case hd => rfl); (case hg => rfl); (case hr => first | (go_simp; done) | (go_simp; rfl)); intro gb1123 hg w81 hbox hb; have n0_ := am (Kd.R_below (rk HO_1114001) hb); have n1_ := am (Kd.R_below (rk HO1121) hb); have n2_ := bb BK1099 hb; have n3_ := bb BK1113 hb; have n4_ := am (below_step pw hb); have n5_ := am (hbox); have n6_ := am (sz (w := w) hg pw); have n7_ := am (sz (w := w) hg pw); have n8_ := am (nl BK1099 hg); have n9_ := am ((nl BK1099 hg).symm); have n10_ := am (nl BK1113 hg); have n11_ := am ((nl BK1113 hg).symm); clear HO_1114001 HO1121 BK1099 BK1113 HB; revert n0_ n1_ n2_ n3_ n4_ n5_ n6_ n7_ n8_ n9_ n10_ n11_; intro HO_1114001 HO1121 BK1099 BK1113 HB BK1123 GW1123 GE1123 NB1099_1123 NB1123_1099 NB1113_1123 NB1123_1113; clear hb hbox hg; have hnb82 := NB1123_1099.out; have hnc82 := NB1099_1123.out; have hnb83 := NB1123_1113.out; have hnc83 := NB1113_1123.out; have hcz84_0 : w81.cell? ⟨gb1123, 0, none⟩ = some (.int .i64 0) := bc BK1123 0; have hcz84_1 : w81.cell? ⟨gb1123, 1, none⟩ = some (.slice none 0 0) := bc BK1123 1; have hfz84_0 := blk_frozen BK1123.out 0; have hfz84_1 := blk_frozen BK1123.out 1; obtain ⟨Ao85, co85, eo85⟩ := Kd.R_slice HO1121.out; subst eo85))
         (try simp only [Act.put, List.setIfInBounds_toArray, List.set_cons_zero, List.set_cons_succ]); go_cut [126] (fun v126 wc => ∃ (kq : Nat) (x126_76 : Bool), v126 = .bool x126_76 ∧ Aside0 (L2_OctGuard.j8 kq a1 a2 a3 a4 a5 t1111 t1112 t1122 x126_76 a0_0 l0_1 t1107 t1108 t1118 t1119 = some r) ∧ Aside0 (kq ≤ kj58) ∧ Aside0 (Kd.R k146 146 wc w.heap.size (fun _ => True) (.slice Ao67 t1108.length co67) t1108) ∧ Aside0 (Kd.R k67 67 wc w.heap.size (fun _ => True) (.slice Ao85 t1119.length co85) t1119) ∧ Aside0 (wc.heap[gb1099]? = some (.cells #[.int .i64 a0_0, (.slice A0_1 l0_1.length c0_1)] 70 (0, 0))) ∧ Aside0 (wc.heap[gb1113]? = some (.cells #[.int .i64 t1107, (.slice Ao67 t1108.length co67)] 74 (0, 0))) ∧ Aside0 (wc.heap[gb1123]? = some (.cells #[.int .i64 t1118, (.slice Ao85 t1119.length co85)] 70 (0, 0))) ∧ Aside0 (Below w.heap.size w wc))
         case first =>
          have H := HC77.out; clear HC77; by_cases c86 : a1 = 0
          ·rw [if_pos c86] at H
           have c86b0 : (a1 == 0) = true := beq_iff_eq.mpr c86; have c86b1 : (a1 != 0) = false := bne_eq_false_iff_eq.mpr c86; clear c86; (first | rw [c86b0] | (simp only [i64_w, i32_w]; rw [c86b0]) | skip)
           as_aux_lemma =>
            have H' := am H; clear H; go_wp2; go_meet
            case rel => exact ⟨_, ((a3 != 0)), pr, H', ⟨by have := HJ7.out; have := HJ14.out; have := HJ26.out; have := HJ28.out; have := HJ33.out; have := HJ35.out; have := HJ38.out; have := HJ58.out; first | omega | exact Nat.le_refl _⟩, ⟨by (with_reducible repeat (first | apply Kd.R_alloc | apply Kd.R_drewN | apply Kd.R_drew)); exact Kd.R_mono (Kd.R_far (p := ⟨gb1123, 1, none⟩) (Kd.R_far (p := ⟨gb1123, 0, none⟩) (Kd.R_types HO_1114001.out BK1123.out (by decide)) (fun _ hk => hk.2) (.int .i64 t1118)) (fun _ hk => hk.2) (.slice Ao85 t1119.length co85)) (fun _ hk => trivial)⟩, ⟨by (with_reducible repeat (first | apply Kd.R_alloc | apply Kd.R_drewN | apply Kd.R_drew)); exact Kd.R_mono (Kd.R_far (p := ⟨gb1123, 1, none⟩) (Kd.R_far (p := ⟨gb1123, 0, none⟩) (Kd.R_types HO1121.out BK1123.out (by decide)) (fun _ hk => hk.2) (.int .i64 t1118)) (fun _ hk => hk.2) (.slice Ao85 t1119.length co85)) (fun _ hk => trivial)⟩, ⟨by (with_reducible repeat (first | refine blk_drewN ?_ _ | refine blk_drew ?_ | refine blk_alloc ?_ _)); refine blk_far ?_ NB1099_1123.out _; (with_reducible repeat (first | refine blk_drewN ?_ _ | refine blk_drew ?_ | refine blk_alloc ?_ _)); refine blk_far ?_ NB1099_1123.out _; (with_reducible repeat (first | refine blk_drewN ?_ _ | refine blk_drew ?_ | refine blk_alloc ?_ _)); exact BK1099.out⟩, ⟨by (with_reducible repeat (first | refine blk_drewN ?_ _ | refine blk_drew ?_ | refine blk_alloc ?_ _)); refine blk_far ?_ NB1113_1123.out _; (with_reducible repeat (first | refine blk_drewN ?_ _ | refine blk_drew ?_ | refine blk_alloc ?_ _)); refine blk_far ?_ NB1113_1123.out _; (with_reducible repeat (first | refine blk_drewN ?_ _ | refine blk_drew ?_ | refine blk_alloc ?_ _)); exact BK1113.out⟩, ⟨by (with_reducible repeat (first | refine blk_drewN ?_ _ | refine blk_drew ?_ | refine blk_alloc ?_ _)); refine blk_put (cs := #[.int .i64 t1118, .slice none 0 0]) ?_ 1 _ rfl; (with_reducible repeat (first | refine blk_drewN ?_ _ | refine blk_drew ?_ | refine blk_alloc ?_ _)); refine blk_put (cs := #[.int .i64 0, .slice none 0 0]) ?_ 0 _ rfl; (with_reducible repeat (first | refine blk_drewN ?_ _ | refine blk_drew ?_ | refine blk_alloc ?_ _)); exact BK1123.out⟩, ⟨pw⟩⟩
          rw [if_neg c86] at H; have c86b0 : (a1 == 0) = false := beq_eq_false_iff_ne.mpr c86; have c86b1 : (a1 != 0) = true := bne_iff_ne.mpr c86; (first | rw [c86b0] | (simp only [i64_w, i32_w]; rw [c86b0]) | skip)
          as_aux_lemma =>
           have H' := am H; clear H; go_wp2; go_meet
           case rel => exact ⟨_, (true), pr, H', ⟨by have := HJ7.out; have := HJ14.out; have := HJ26.out; have := HJ28.out; have := HJ33.out; have := HJ35.out; have := HJ38.out; have := HJ58.out; first | omega | exact Nat.le_refl _⟩, ⟨by (with_reducible repeat (first | apply Kd.R_alloc | apply Kd.R_drewN | apply Kd.R_drew)); exact Kd.R_mono (Kd.R_far (p := ⟨gb1123, 1, none⟩) (Kd.R_far (p := ⟨gb1123, 0, none⟩) (Kd.R_types HO_1114001.out BK1123.out (by decide)) (fun _ hk => hk.2) (.int .i64 t1118)) (fun _ hk => hk.2) (.slice Ao85 t1119.length co85)) (fun _ hk => trivial)⟩, ⟨by (with_reducible repeat (first | apply Kd.R_alloc | apply Kd.R_drewN | apply Kd.R_drew)); exact Kd.R_mono (Kd.R_far (p := ⟨gb1123, 1, none⟩) (Kd.R_far (p := ⟨gb1123, 0, none⟩) (Kd.R_types HO1121.out BK1123.out (by decide)) (fun _ hk => hk.2) (.int .i64 t1118)) (fun _ hk => hk.2) (.slice Ao85 t1119.length co85)) (fun _ hk => trivial)⟩, ⟨by (with_reducible repeat (first | refine blk_drewN ?_ _ | refine blk_drew ?_ | refine blk_alloc ?_ _)); refine blk_far ?_ NB1099_1123.out _; (with_reducible repeat (first | refine blk_drewN ?_ _ | refine blk_drew ?_ | refine blk_alloc ?_ _)); refine blk_far ?_ NB1099_1123.out _; (with_reducible repeat (first | refine blk_drewN ?_ _ | refine blk_drew ?_ | refine blk_alloc ?_ _)); exact BK1099.out⟩, ⟨by (with_reducible repeat (first | refine blk_drewN ?_ _ | refine blk_drew ?_ | refine blk_alloc ?_ _)); refine blk_far ?_ NB1113_1123.out _; (with_reducible repeat (first | refine blk_drewN ?_ _ | refine blk_drew ?_ | refine blk_alloc ?_ _)); refine blk_far ?_ NB1113_1123.out _; (with_reducible repeat (first | refine blk_drewN ?_ _ | refine blk_drew ?_ | refine blk_alloc ?_ _)); exact BK1113.out⟩, ⟨by (with_reducible repeat (first | refine blk_drewN ?_ _ | refine blk_drew ?_ | refine blk_alloc ?_ _)); refine blk_put (cs := #[.int .i64 t1118, .slice none 0 0]) ?_ 1 _ rfl; (with_reducible repeat (first | refine blk_drewN ?_ _ | refine blk_drew ?_ | refine blk_alloc ?_ _)); refine blk_put (cs := #[.int .i64 0, .slice none 0 0]) ?_ 0 _ rfl; (with_reducible repeat (first | refine blk_drewN ?_ _ | refine blk_drew ?_ | refine blk_alloc ?_ _)); exact BK1123.out⟩, ⟨pw⟩⟩
         as_aux_lemma =>
         clear HC77; (try clear c1); (try clear c2); (try clear p2); (try clear c3); (try clear c4); (try clear c5); (try clear c6); (try clear c7); (try clear c8); (try clear c11); (try clear c13); (try clear c18); (try clear c18b0); (try clear c18b1); (try clear c19); (try clear c19b0); (try clear c20); (try clear c20b0); (try clear c22); (try clear c22b0); (try clear c24); (try clear c24b0); (try clear c25); (try clear c28); (try clear c30); (try clear c30b0); (try clear c30b1); (try clear c31); (try clear c31b0); (try clear c32); (try clear c32b0); (try clear c33); (try clear c33b0); (try clear c35); (try clear c37); (try clear c37b0); (try clear c37b1); (try clear c40); (try clear c43); (try clear c43b0); (try clear c44); (try clear c45); (try clear c46); (try clear c49); (try clear c53); (try clear c57); (try clear c65); (try clear c69); (try clear c71); (try clear c73); (try clear c75); (try clear c78); (try clear c82); (try clear c83); (try clear c86); (try clear c86b0); (try clear c86b1); (try clear hcz12_0); (try clear hcz12_1); (try clear hcz16_0); (try clear hcz16_1); (try clear hcz21_0); (try clear hcz21_1); (try clear hcz23_0); (try clear hcz23_1); (try clear hcz25_0); (try clear hcz25_1); (try clear hcz26_0); (try clear hcz26_1); (try clear hcz48_0); (try clear hcz48_1); (try clear hcz54_0); (try clear hcz54_1); (try clear hcz57_0); (try clear hcz57_1); (try clear hcz60_0); (try clear hcz60_1); (try clear hcz66_0); (try clear hcz66_1); (try clear hcz72_0); (try clear hcz72_1); (try clear hcz74_0); (try clear hcz74_1); (try clear hcz79_0); (try clear hcz79_1); (try clear hcz84_0); (try clear hcz84_1); (try clear hfz12_0); (try clear hfz12_1); (try clear hfz16_0); (try clear hfz16_1); (try clear hfz21_0); (try clear hfz21_1); (try clear hfz23_0); (try clear hfz23_1); (try clear hfz25_0); (try clear hfz25_1); (try clear hfz26_0); (try clear hfz26_1); (try clear hfz48_0); (try clear hfz48_1); (try clear hfz54_0); (try clear hfz54_1); (try clear hfz57_0); (try clear hfz57_1); (try clear hfz60_0); (try clear hfz60_1); (try clear hfz66_0); (try clear hfz66_1); (try clear hfz72_0); (try clear hfz72_1); (try clear hfz74_0); (try clear hfz74_1); (try clear hfz79_0); (try clear hfz79_1); (try clear hfz84_0); (try clear hfz84_1); (try clear p2); obtain ⟨kq, x126_76, rfl, HA, HJ76, HO_1114001, HO_1124001, BK1099, BK1113, BK1123, HB⟩ := hcut; cases kq with
         | zero => exact absurd HA.out (by simp [L2_OctGuard.j8])
         | succ kj76 =>
          have H := HA.out; clear HA; simp only [L2_OctGuard.j8] at H; by_cases c87 : x126_76 = true
          ·subst c87
           have H1 : ((R2_BoundOct.f kj76 a0_0 l0_1 a1 a2 a3 a4 a5).bind fun bt1124 => ((R2_ClosedOct.f kj76 bt1124.1 bt1124.2).bind fun bt1128 => (if t1112.isNone = true then (if (t1111 == bt1128.2.2) = true then ((L2_isOct.f kj76 t1107 t1108 bt1128.1 bt1128.2.1).bind fun t1134 => (some t1134)) else (none)) else (none)))) = some r := by rw [if_pos rfl] at H; exact H
           clear H; have H := H1; clear H1; replace H := Option.bind_eq_some_iff.mp H; obtain ⟨⟨t1124, t1125⟩, A880, H⟩ := H; replace H : ((R2_ClosedOct.f kj76 t1124 t1125).bind fun bt1128 => (if t1112.isNone = true then (if (t1111 == bt1128.2.2) = true then ((L2_isOct.f kj76 t1107 t1108 bt1128.1 bt1128.2.1).bind fun t1134 => (some t1134)) else (none)) else (none))) = some r := H; have A88 := am A880; clear A880; replace H := Option.bind_eq_some_iff.mp H; obtain ⟨⟨t1128, t1129, t1132⟩, A890, H⟩ := H; replace H : (if t1112.isNone = true then (if (t1111 == t1132) = true then ((L2_isOct.f kj76 t1107 t1108 t1128 t1129).bind fun t1134 => (some t1134)) else (none)) else (none)) = some r := H; have A89 := am A890; clear A890; rcases t1112 with _ | q1133
           ·have H1 : (if (t1111 == t1132) = true then ((L2_isOct.f kj76 t1107 t1108 t1128 t1129).bind fun t1134 => (some t1134)) else (none)) = some r := by rw [if_pos (show (none : Option Int).isNone = true by rfl)] at H; exact H
            clear H; have H := H1; clear H1
            try simp only [errW_none, errW_some]
            by_cases c90 : (t1111 == t1132) = true
            ·rw [if_pos c90] at H
             have c90b0 : (t1111 == t1132) = true := c90; (try (have c90b1 : decide (t1111 = t1132) = true := by simpa using c90)); (try (have c90b2 : (t1111 == t1132) = true := by simpa using c90)); clear c90; replace H := Option.bind_eq_some_iff.mp H; obtain ⟨t1134, A910, H⟩ := H; replace H : (some t1134) = some r := H; have A91 := am A910; clear A910
             as_aux_lemma =>
              obtain rfl := Option.some.inj H; have hnb92 := NB1099_1113.out; have hnc92 := NB1113_1099.out; have hnb93 := NB1099_1123.out; have hnc93 := NB1123_1099.out; have hcz94_0 : wc.cell? ⟨gb1099, 0, none⟩ = some (.int .i64 a0_0) := bc BK1099 0; have hcz94_1 : wc.cell? ⟨gb1099, 1, none⟩ = some (.slice A0_1 l0_1.length c0_1) := bc BK1099 1; have hfz94_0 := blk_frozen BK1099.out 0; have hfz94_1 := blk_frozen BK1099.out 1
              go_wp2_with (first | ((with_reducible refine gate_callee (f := 58) rfl ?_); refine goesL_ (some 134) rfl rfl Tryd.func58 kk rfl #[.agg #[.int .i64 a0_0, .slice A0_1 l0_1.length c0_1], .int .i64 a1, .int .i64 a2, .int .i64 a3, .int .i64 a4, .int .i64 a5] rfl (by (try simp only [List.map_toArray, List.map_cons, List.map_nil]); first | done | rfl | (simp only [List.length_drop, List.length_take]; rfl)) ?_; (with_reducible refine (R2_BoundOct.calls kj76 a0_0 _ _ l0_1 a1 a2 a3 a4 a5 t1124 t1125 _ ?side1 ?side2 A88.out).mono ?_); (case side1 => repeat (first | exact (Kd.C_below HR0_1.out HB.out) | (with_reducible refine Kd.C_alloc ?_ _) | (with_reducible refine Kd.C_drewN ?_ _) | (with_reducible refine Kd.C_drew ?_))); (case side2 => exact HC0_1.out); rintro e w95 ⟨v1126, rfl, ho0, hb⟩; refine ⟨_, rfl, ?_⟩; have n0_ := am (Kd.R_below (rk HO_1114001) hb); have n1_ := am (Kd.R_elder' (rk HO_1124001) (Kd.R_base ho0) hb); have n2_ := am (Kd.R_lower (Kd.R_new' ho0 (Kd.R_lt (rk HO_1124001))) (below_size pw)); have n3_ := bb BK1099 hb; have n4_ := bb BK1113 hb; have n5_ := bb BK1123 hb; have n6_ := am (below_step pw hb); clear HO_1114001 HO_1124001 BK1099 BK1113 BK1123 HB; revert n0_ n1_ n2_ n3_ n4_ n5_ n6_; intro HO_1114001 HO_1124001 HO1127 BK1099 BK1113 BK1123 HB; (try clear hb); (try clear hb2); (try clear hk); (try clear hi); (try clear ho0); obtain ⟨Ao96, co96, eo96⟩ := Kd.R_slice HO1127.out; subst eo96) | ((with_reducible refine gate_callee (f := 49) rfl ?_); refine goesL_ (some 135) rfl rfl Tryd.func49 kk rfl #[.agg #[.int .i64 t1124, .slice Ao96 t1125.length co96]] rfl (by (try simp only [List.map_toArray, List.map_cons, List.map_nil]); first | done | rfl | (simp only [List.length_drop, List.length_take]; rfl)) ?_; (with_reducible refine (R2_ClosedOct.calls kj76 t1124 _ _ t1125 t1128 t1129 t1132 _ ?side1 ?side2 A89.out).mono ?_); (case side1 => repeat (first | exact (Kd.R_reads' HO1127.out).2.2 | (with_reducible refine Kd.C_alloc ?_ _) | (with_reducible refine Kd.C_drewN ?_ _) | (with_reducible refine Kd.C_drew ?_))); (case side2 => exact (Kd.R_reads' HO1127.out).2.1); rintro e w97 ⟨v1130, rfl, ho0, hb⟩; refine ⟨_, rfl, ?_⟩; have n0_ := am (Kd.R_below (rk HO_1114001) hb); have n1_ := am (Kd.R_elder' (rk HO_1124001) (Kd.R_base ho0) hb); have n2_ := am (Kd.R_elder' (rk HO1127) (Kd.R_base ho0) hb); have n3_ := am (Kd.R_lower (Kd.R_new' (Kd.R_new' ho0 (Kd.R_lt (rk HO_1124001))) (Kd.R_lt (rk HO1127))) (below_size pw)); have n4_ := bb BK1099 hb; have n5_ := bb BK1113 hb; have n6_ := bb BK1123 hb; have n7_ := am (below_step pw hb); clear HO_1114001 HO_1124001 HO1127 BK1099 BK1113 BK1123 HB; revert n0_ n1_ n2_ n3_ n4_ n5_ n6_ n7_; intro HO_1114001 HO_1124001 HO1127 HO1131 BK1099 BK1113 BK1123 HB; (try clear hb); (try clear hb2); (try clear hk); (try clear hi); (try clear ho0); have hnb98 := NB1123_1113.out; have hnc98 := NB1113_1123.out; have hcz99_0 : w97.cell? ⟨gb1123, 0, none⟩ = some (.int .i64 t1118) := bc BK1123 0; have hcz99_1 : w97.cell? ⟨gb1123, 1, none⟩ = some (.slice Ao85 t1119.length co85) := bc BK1123 1; have hfz99_0 := blk_frozen BK1123.out 0; have hfz99_1 := blk_frozen BK1123.out 1; obtain ⟨Ao100, co100, eo100⟩ := Kd.R_slice HO1131.out; subst eo100; have hcz101_0 : w97.cell? ⟨gb1113, 0, none⟩ = some (.int .i64 t1107) := bc BK1113 0; have hcz101_1 : w97.cell? ⟨gb1113, 1, none⟩ = some (.slice Ao67 t1108.length co67) := bc BK1113 1; have hfz101_0 := blk_frozen BK1113.out 0; have hfz101_1 := blk_frozen BK1113.out 1) | (go_at_call 50; (with_reducible refine (L2_isOct.calls kj76 t1107 _ _ t1108 t1128 _ _ t1129 t1134 _ ?side1 ?side2 ?side3 ?side4 A91.out).mono ?_); (case side1 => refine (Kd.R_reads' (e := 146) (base := w.heap.size) (ok := fun k_ => True) (n := t1108.length) (c := co67) ?_).2.2; exact (by (with_reducible repeat (first | apply Kd.R_alloc | apply Kd.R_drewN | apply Kd.R_drew)); exact (Kd.R_mono (Kd.R_far (p := ⟨gb1123, 1, none⟩) (Kd.R_far (p := ⟨gb1123, 0, none⟩) (Kd.R_types HO_1114001.out BK1123.out (by decide)) (fun _ hk => hk.2) (.int .i64 t1128)) (fun _ hk => hk.2) (.slice Ao100 t1129.length co100)) (fun _ h_ => h_.1)))); (case side2 => exact (Kd.R_reads' HO_1114001.out).2.1); (case side3 => refine (Kd.R_reads' (e := 67) (base := w.heap.size) (ok := fun k_ => ((True ∧ some k_ ≠ (.slice Ao85 t1119.length co85 : Value).ownBlock) ∧ some k_ ≠ (.slice Ao96 t1125.length co96 : Value).ownBlock)) (n := t1129.length) (c := co100) ?_).2.2; exact (by (with_reducible repeat (first | apply Kd.R_alloc | apply Kd.R_drewN | apply Kd.R_drew)); exact (Kd.R_mono (Kd.R_far (p := ⟨gb1123, 1, none⟩) (Kd.R_far (p := ⟨gb1123, 0, none⟩) (Kd.R_types HO1131.out BK1123.out (by decide)) (fun _ hk => hk.2) (.int .i64 t1128)) (fun _ hk => hk.2) (.slice Ao100 t1129.length co100)) (fun _ h_ => h_.1)))); (case side4 => exact (Kd.R_reads' HO1131.out).2.1); rintro e w102 ⟨rfl, hb⟩; have n0_ := am (Kd.R_below (by (with_reducible repeat (first | apply Kd.R_alloc | apply Kd.R_drewN | apply Kd.R_drew)); exact (Kd.R_mono (Kd.R_far (p := ⟨gb1123, 1, none⟩) (Kd.R_far (p := ⟨gb1123, 0, none⟩) (Kd.R_types HO_1114001.out BK1123.out (by decide)) (fun _ hk => hk.2) (.int .i64 t1128)) (fun _ hk => hk.2) (.slice Ao100 t1129.length co100)) (fun _ h_ => h_.1))) hb); have n1_ := am (Kd.R_below (by (with_reducible repeat (first | apply Kd.R_alloc | apply Kd.R_drewN | apply Kd.R_drew)); exact (Kd.R_mono (Kd.R_far (p := ⟨gb1123, 1, none⟩) (Kd.R_far (p := ⟨gb1123, 0, none⟩) (Kd.R_types HO_1124001.out BK1123.out (by decide)) (fun _ hk => hk.2) (.int .i64 t1128)) (fun _ hk => hk.2) (.slice Ao100 t1129.length co100)) (fun _ h_ => h_.1))) hb); have n2_ := am (Kd.R_below (by (with_reducible repeat (first | apply Kd.R_alloc | apply Kd.R_drewN | apply Kd.R_drew)); exact (Kd.R_mono (Kd.R_far (p := ⟨gb1123, 1, none⟩) (Kd.R_far (p := ⟨gb1123, 0, none⟩) (Kd.R_types HO1127.out BK1123.out (by decide)) (fun _ hk => hk.2) (.int .i64 t1128)) (fun _ hk => hk.2) (.slice Ao100 t1129.length co100)) (fun _ h_ => h_.1))) hb); have n3_ := am (Kd.R_below (by (with_reducible repeat (first | apply Kd.R_alloc | apply Kd.R_drewN | apply Kd.R_drew)); exact (Kd.R_mono (Kd.R_far (p := ⟨gb1123, 1, none⟩) (Kd.R_far (p := ⟨gb1123, 0, none⟩) (Kd.R_types HO1131.out BK1123.out (by decide)) (fun _ hk => hk.2) (.int .i64 t1128)) (fun _ hk => hk.2) (.slice Ao100 t1129.length co100)) (fun _ h_ => h_.1))) hb); have n4_ := am (blk_below (g := gb1099) (o := .cells #[.int .i64 a0_0, .slice A0_1 l0_1.length c0_1] 70 (0, 0)) pff hb); have n5_ := am (blk_below (g := gb1113) (o := .cells #[.int .i64 t1107, .slice Ao67 t1108.length co67] 74 (0, 0)) pff hb); have n6_ := am (blk_below (g := gb1123) (o := .cells #[.int .i64 t1128, .slice Ao100 t1129.length co100] 70 (0, 0)) (by (with_reducible repeat (first | refine blk_drewN ?_ _ | refine blk_drew ?_ | refine blk_alloc ?_ _)); refine blk_put (cs := #[.int .i64 t1128, .slice Ao85 t1119.length co85]) ?_ 1 _ rfl; (with_reducible repeat (first | refine blk_drewN ?_ _ | refine blk_drew ?_ | refine blk_alloc ?_ _)); refine blk_put (cs := #[.int .i64 t1118, .slice Ao85 t1119.length co85]) ?_ 0 _ rfl; (with_reducible repeat (first | refine blk_drewN ?_ _ | refine blk_drew ?_ | refine blk_alloc ?_ _)); exact BK1123.out) hb); have n7_ := am (below_step pw hb); clear HO_1114001 HO_1124001 HO1127 HO1131 BK1099 BK1113 BK1123 HB; revert n0_ n1_ n2_ n3_ n4_ n5_ n6_ n7_; intro HO_1114001 HO_1124001 HO1127 HO1131 BK1099 BK1113 BK1123 HB; (try clear hb); (try clear hb2); (try clear hk); (try clear hi)))
              go_ret; exact ⟨pe, pw⟩
            rw [if_neg c90] at H; exact absurd H (by simp)
           have H1 : (none) = some r := by rw [if_neg (show ¬ (some q1133).isNone = true by simp)] at H; exact H
           clear H; have H := H1; clear H1
           try simp only [errW_none, errW_some]
           exact absurd H (by simp)
          replace c87 := Bool.eq_false_iff.mpr c87; subst c87
          have H1 : (if a5 < 0 then (if t1112.isNone = true then (if (t1111 == false) = true then ((L2_isOct.f kj76 t1107 t1108 0 ([] : List (S67))).bind fun t1136 => (some t1136)) else (none)) else (none)) else (if t1112.isNone = true then (if (t1111 == t1122) = true then ((L2_isOct.f kj76 t1107 t1108 t1118 t1119).bind fun t1138 => (some t1138)) else (none)) else (none))) = some r := by rw [if_neg (show ¬ (false = true) by decide)] at H; exact H
          clear H; have H := H1; clear H1; by_cases c103 : a5 < 0
          ·rw [if_pos c103] at H
           have c103b0 : decide (a5 < 0) = true := decide_eq_true c103; clear c103; rcases t1112 with _ | q1135
           ·have H1 : (if (t1111 == false) = true then ((L2_isOct.f kj76 t1107 t1108 0 ([] : List (S67))).bind fun t1136 => (some t1136)) else (none)) = some r := by rw [if_pos (show (none : Option Int).isNone = true by rfl)] at H; exact H
            clear H; have H := H1; clear H1
            try simp only [errW_none, errW_some]
            by_cases c104 : (t1111 == false) = true
            ·rw [if_pos c104] at H
             have c104b0 : (t1111 == false) = true := c104; (try (have c104b1 : decide (t1111 = false) = true := by simpa using c104)); (try (have c104b2 : (t1111 == false) = true := by simpa using c104)); clear c104; replace H := Option.bind_eq_some_iff.mp H; obtain ⟨t1136, A1050, H⟩ := H; replace H : (some t1136) = some r := H; have A105 := am A1050; clear A1050
             as_aux_lemma =>
              obtain rfl := Option.some.inj H; have hnb106 := NB1123_1099.out; have hnc106 := NB1099_1123.out; have hnb107 := NB1123_1113.out; have hnc107 := NB1113_1123.out; have hcz108_0 : wc.cell? ⟨gb1123, 0, none⟩ = some (.int .i64 t1118) := bc BK1123 0; have hcz108_1 : wc.cell? ⟨gb1123, 1, none⟩ = some (.slice Ao85 t1119.length co85) := bc BK1123 1; have hfz108_0 := blk_frozen BK1123.out 0; have hfz108_1 := blk_frozen BK1123.out 1; have hnb109 := NB1113_1099.out; have hnc109 := NB1099_1113.out; have hcz110_0 : wc.cell? ⟨gb1113, 0, none⟩ = some (.int .i64 t1107) := bc BK1113 0; have hcz110_1 : wc.cell? ⟨gb1113, 1, none⟩ = some (.slice Ao67 t1108.length co67) := bc BK1113 1; have hfz110_0 := blk_frozen BK1113.out 0; have hfz110_1 := blk_frozen BK1113.out 1
              go_wp2_with (first | (go_at_call 50; (refine (L2_isOct.calls kj76 t1107 _ _ t1108 0 _ _ ([] : List (S67)) t1136 _ ?side1 ?side2 ?side3 ?side4 A105.out).mono ?_); (case side1 => refine (Kd.R_reads' (e := 146) (base := w.heap.size) (ok := fun k_ => True) (n := t1108.length) (c := co67) ?_).2.2; exact (by (with_reducible repeat (first | apply Kd.R_alloc | apply Kd.R_drewN | apply Kd.R_drew)); exact (Kd.R_mono (Kd.R_far (p := ⟨gb1123, 1, none⟩) (Kd.R_far (p := ⟨gb1123, 0, none⟩) (Kd.R_types HO_1114001.out BK1123.out (by decide)) (fun _ hk => hk.2) (.int .i64 0)) (fun _ hk => hk.2) (.slice none 0 0)) (fun _ h_ => h_.1)))); (case side2 => exact (Kd.R_reads' HO_1114001.out).2.1); (case side3 => exact Kd.C_nil _ _); (case side4 => exact Nat.le_refl _); rintro e w111 ⟨rfl, hb⟩; have n0_ := am (Kd.R_below (by (with_reducible repeat (first | apply Kd.R_alloc | apply Kd.R_drewN | apply Kd.R_drew)); exact (Kd.R_mono (Kd.R_far (p := ⟨gb1123, 1, none⟩) (Kd.R_far (p := ⟨gb1123, 0, none⟩) (Kd.R_types HO_1114001.out BK1123.out (by decide)) (fun _ hk => hk.2) (.int .i64 0)) (fun _ hk => hk.2) (.slice none 0 0)) (fun _ h_ => h_.1))) hb); have n1_ := am (Kd.R_below (by (with_reducible repeat (first | apply Kd.R_alloc | apply Kd.R_drewN | apply Kd.R_drew)); exact (Kd.R_mono (Kd.R_far (p := ⟨gb1123, 1, none⟩) (Kd.R_far (p := ⟨gb1123, 0, none⟩) (Kd.R_types HO_1124001.out BK1123.out (by decide)) (fun _ hk => hk.2) (.int .i64 0)) (fun _ hk => hk.2) (.slice none 0 0)) (fun _ h_ => h_.1))) hb); have n2_ := am (blk_below (g := gb1099) (o := .cells #[.int .i64 a0_0, .slice A0_1 l0_1.length c0_1] 70 (0, 0)) pff hb); have n3_ := am (blk_below (g := gb1113) (o := .cells #[.int .i64 t1107, .slice Ao67 t1108.length co67] 74 (0, 0)) pff hb); have n4_ := am (blk_below (g := gb1123) (o := .cells #[.int .i64 0, .slice none 0 0] 70 (0, 0)) (by (with_reducible repeat (first | refine blk_drewN ?_ _ | refine blk_drew ?_ | refine blk_alloc ?_ _)); refine blk_put (cs := #[.int .i64 0, .slice Ao85 t1119.length co85]) ?_ 1 _ rfl; (with_reducible repeat (first | refine blk_drewN ?_ _ | refine blk_drew ?_ | refine blk_alloc ?_ _)); refine blk_put (cs := #[.int .i64 t1118, .slice Ao85 t1119.length co85]) ?_ 0 _ rfl; (with_reducible repeat (first | refine blk_drewN ?_ _ | refine blk_drew ?_ | refine blk_alloc ?_ _)); exact BK1123.out) hb); have n5_ := am (below_step pw hb); clear HO_1114001 HO_1124001 BK1099 BK1113 BK1123 HB; revert n0_ n1_ n2_ n3_ n4_ n5_; intro HO_1114001 HO_1124001 BK1099 BK1113 BK1123 HB; (try clear hb); (try clear hb2); (try clear hk); (try clear hi)))
              go_ret; exact ⟨pe, pw⟩
            rw [if_neg c104] at H; exact absurd H (by simp)
           have H1 : (none) = some r := by rw [if_neg (show ¬ (some q1135).isNone = true by simp)] at H; exact H
           clear H; have H := H1; clear H1
           try simp only [errW_none, errW_some]
           exact absurd H (by simp)
          rw [if_neg c103] at H; have c103b0 : decide (a5 < 0) = false := decide_eq_false c103; clear c103; rcases t1112 with _ | q1137
          ·have H1 : (if (t1111 == t1122) = true then ((L2_isOct.f kj76 t1107 t1108 t1118 t1119).bind fun t1138 => (some t1138)) else (none)) = some r := by rw [if_pos (show (none : Option Int).isNone = true by rfl)] at H; exact H
           clear H; have H := H1; clear H1
           try simp only [errW_none, errW_some]
           by_cases c112 : (t1111 == t1122) = true
           ·rw [if_pos c112] at H
            have c112b0 : (t1111 == t1122) = true := c112; (try (have c112b1 : decide (t1111 = t1122) = true := by simpa using c112)); (try (have c112b2 : (t1111 == t1122) = true := by simpa using c112)); clear c112; replace H := Option.bind_eq_some_iff.mp H; obtain ⟨t1138, A1130, H⟩ := H; replace H : (some t1138) = some r := H; have A113 := am A1130; clear A1130
            as_aux_lemma =>
             obtain rfl := Option.some.inj H; have hnb114 := NB1113_1099.out; have hnc114 := NB1099_1113.out; have hnb115 := NB1113_1123.out; have hnc115 := NB1123_1113.out; have hcz116_0 : wc.cell? ⟨gb1113, 0, none⟩ = some (.int .i64 t1107) := bc BK1113 0; have hcz116_1 : wc.cell? ⟨gb1113, 1, none⟩ = some (.slice Ao67 t1108.length co67) := bc BK1113 1; have hfz116_0 := blk_frozen BK1113.out 0; have hfz116_1 := blk_frozen BK1113.out 1; have hnb117 := NB1123_1099.out; have hnc117 := NB1099_1123.out; have hcz118_0 : wc.cell? ⟨gb1123, 0, none⟩ = some (.int .i64 t1118) := bc BK1123 0; have hcz118_1 : wc.cell? ⟨gb1123, 1, none⟩ = some (.slice Ao85 t1119.length co85) := bc BK1123 1; have hfz118_0 := blk_frozen BK1123.out 0; have hfz118_1 := blk_frozen BK1123.out 1
             go_wp2_with (first | (go_at_call 50; (with_reducible refine (L2_isOct.calls kj76 t1107 _ _ t1108 t1118 _ _ t1119 t1138 _ ?side1 ?side2 ?side3 ?side4 A113.out).mono ?_); (case side1 => repeat (first | exact (Kd.R_reads' HO_1114001.out).2.2 | (with_reducible refine Kd.C_alloc ?_ _) | (with_reducible refine Kd.C_drewN ?_ _) | (with_reducible refine Kd.C_drew ?_))); (case side2 => exact (Kd.R_reads' HO_1114001.out).2.1); (case side3 => repeat (first | exact (Kd.R_reads' HO_1124001.out).2.2 | (with_reducible refine Kd.C_alloc ?_ _) | (with_reducible refine Kd.C_drewN ?_ _) | (with_reducible refine Kd.C_drew ?_))); (case side4 => exact (Kd.R_reads' HO_1124001.out).2.1); rintro e w119 ⟨rfl, hb⟩; have n0_ := am (Kd.R_below (rk HO_1114001) hb); have n1_ := am (Kd.R_below (rk HO_1124001) hb); have n2_ := bb BK1099 hb; have n3_ := bb BK1113 hb; have n4_ := bb BK1123 hb; have n5_ := am (below_step pw hb); clear HO_1114001 HO_1124001 BK1099 BK1113 BK1123 HB; revert n0_ n1_ n2_ n3_ n4_ n5_; intro HO_1114001 HO_1124001 BK1099 BK1113 BK1123 HB; (try clear hb); (try clear hb2); (try clear hk); (try clear hi)))
             go_ret; exact ⟨pe, pw⟩
           rw [if_neg c112] at H; exact absurd H (by simp)
          have H1 : (none) = some r := by rw [if_neg (show ¬ (some q1137).isNone = true by simp)] at H; exact H
          clear H; have H := H1; clear H1
          try simp only [errW_none, errW_some]
          exact absurd H (by simp)

end Go.Proofs.YtcalcnfppnbooaaDoor.Z
