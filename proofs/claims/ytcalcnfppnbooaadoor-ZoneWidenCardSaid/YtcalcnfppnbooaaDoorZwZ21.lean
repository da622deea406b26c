import Derived.Test.YtcalcnfppnbooaaDoorZwSp
import Derived.Test.YtcalcnfppnbooaaDoorZwEb
import Derived.Test.YtcalcnfppnbooaaDoorZwFld
import Derived.Test.YtcalcnfppnbooaaDoorZwCd
import Derived.Test.YtcalcnfppnbooaaDoorZwRg
import Derived.Test.YtcalcnfppnbooaaDoorZwZb
import Derived.Test.YtcalcnfppnbooaaDoorZwZn
import Derived.Test.YtcalcnfppnbooaaDoorZwZ0
import Derived.Test.YtcalcnfppnbooaaDoorZwZ1
import Derived.Test.YtcalcnfppnbooaaDoorZwZ4
import Derived.Test.YtcalcnfppnbooaaDoorZwZ5
import Derived.Test.YtcalcnfppnbooaaDoorZwZ7
import Derived.Test.YtcalcnfppnbooaaDoorZwZ9
import Derived.Test.YtcalcnfppnbooaaDoorZwZ20
-- Written by wip/xprint.py (the session's program over the kit's print).
namespace Go.Proofs.YtcalcnfppnbooaaDoor.Z
open Go.RowKit Go.Proofs.YtcalcnfppnbooaaDoorW.PrintWords Go.Proofs.YtcalcnfppnbooaaDoorW.PrintLast Go.Proofs.YtcalcnfppnbooaaDoorW.PrintMore Go.Proofs.Rcg
attribute [local go_sem] Go.Proofs.Rcg.fld_zone1 Go.Proofs.Rcg.fld_rzone1 max2_int min2_int max_two min_two max_three min_three max_four min_four   -- for this text's walks alone
set_option linter.unusedVariables false
set_option linter.unusedSimpArgs false

attribute [local go_sem high] eqA49
/-! ### L2_ZoneWiden: function 5 -/
mutual
def L2_ZoneWiden.j0 : Nat → Int → Bool → Bool → Int → List (S67) → Int → List (S67) → Option (Bool)
 | 0, _, _, _, _, _, _, _ => none
 | k + 1, x2, x7, x37, x543000, x543001, x544000, x544001 => if x37 = true then (some x7) else ((R2_TwoZones.f k x543000 x543001 x544000 x544001).bind fun t545 => ((L2_zoneOf.f k x543000 x543001).bind fun bt546 => ((L2_zoneOf.f k x544000 x544001).bind fun bt550 => ((zone_Widen.f bt546.1 bt546.2 bt550.1 bt550.2).bind fun bt554 => ((R2_ZoneError.f k x543000 x543001).bind fun t560 => (if t560 = 0 then (if x2 < 1 then (L2_ZoneWiden.j1 k x2 t545 bt554.2.2 t560 true x543000 x543001 x544000 x544001 bt554.1 bt554.2.1) else (L2_ZoneWiden.j1 k x2 t545 bt554.2.2 t560 (decide (x2 > x543000)) x543000 x543001 x544000 x544001 bt554.1 bt554.2.1)) else (L2_ZoneWiden.j1 k x2 t545 bt554.2.2 t560 false x543000 x543001 x544000 x544001 bt554.1 bt554.2.1)))))))
def L2_ZoneWiden.j1 : Nat → Int → Int → Option Int → Int → Bool → Int → List (S67) → Int → List (S67) → Int → List (S120) → Option (Bool)
 | 0, _, _, _, _, _, _, _, _, _, _, _ => none
 | k + 1, x2, x8, x10, x11, x63, x543000, x543001, x544000, x544001, x560000, x560001 => if x63 = true then (L2_ZoneWiden.j2 k x2 x8 x10 3 x543000 x543001 x544000 x544001 x560000 x560001) else (L2_ZoneWiden.j2 k x2 x8 x10 x11 x543000 x543001 x544000 x544001 x560000 x560001)
def L2_ZoneWiden.j2 : Nat → Int → Int → Option Int → Int → Int → List (S67) → Int → List (S67) → Int → List (S120) → Option (Bool)
 | 0, _, _, _, _, _, _, _, _, _, _ => none
 | k + 1, x2, x8, x10, x11, x543000, x543001, x544000, x544001, x560000, x560001 => (L2_zoneOf.f k x543000 x543001).bind fun bt561 => ((zone_Bounds.f bt561.1 bt561.2 x2).bind fun bt565 => (if x11 > 0 then ((L2_coded.f bt565.2.2.2.2.2 x11).bind fun t572 => (if t572 = true then (if bt565.2.2.2.2.1 = true then (none) else (if (bt565.1 || (bt565.2.1 || (!(bt565.2.2.1 == 0) || (!(bt565.2.2.2.1 == 0))))) = true then (none) else (L2_ZoneWiden.j3 k x8 x10 x543000 x543001 x544000 x544001 x560000 x560001))) else (none))) else ((L2_near.f k x543001).bind fun t573 => (if t573 = true then ((R2_ClosedZone.f k x543000 x543001).bind fun bt574 => (if bt574.2.2 = true then (if 0 ≤ x2 then (if x2 < (bt574.2.1.length : Int) then (if 0 ≤ (wrap64 (x2 * (wrap64 (x543000 + 1)))) then (if (wrap64 (x2 * (wrap64 (x543000 + 1)))) < (bt574.2.1.length : Int) then ((R2_RangeOf.f ((rd_T67 bt574.2.1 x2).f0) ((rd_T67 bt574.2.1 x2).f1) ((rd_T67 bt574.2.1 (wrap64 (x2 * (wrap64 (x543000 + 1))))).f0) ((rd_T67 bt574.2.1 (wrap64 (x2 * (wrap64 (x543000 + 1))))).f1)).bind fun bt583 => (if bt565.2.2.2.2.2.isNone = true then (if (bt565.2.2.2.2.1 != bt574.2.2) = true then (none) else (if (!(bt565.1 == bt583.1) || (!(bt565.2.1 == bt583.2.1) || (!(bt565.2.2.1 == bt583.2.2.1) || (!(bt565.2.2.2.1 == bt583.2.2.2))))) = true then (none) else (L2_ZoneWiden.j3 k x8 x10 x543000 x543001 x544000 x544001 x560000 x560001))) else (none))) else (none)) else (none)) else (none)) else (none)) else (if bt565.2.2.2.2.2.isNone = true then (if (bt565.2.2.2.2.1 != bt574.2.2) = true then (none) else (if (bt565.1 || (bt565.2.1 || (!(bt565.2.2.1 == 0) || (!(bt565.2.2.2.1 == 0))))) = true then (none) else (L2_ZoneWiden.j3 k x8 x10 x543000 x543001 x544000 x544001 x560000 x560001))) else (none)))) else (L2_ZoneWiden.j3 k x8 x10 x543000 x543001 x544000 x544001 x560000 x560001)))))
def L2_ZoneWiden.j3 : Nat → Int → Option Int → Int → List (S67) → Int → List (S67) → Int → List (S120) → Option (Bool)
 | 0, _, _, _, _, _, _, _, _ => none
 | k + 1, x8, x10, x543000, x543001, x544000, x544001, x560000, x560001 => if x8 > 0 then ((L2_coded.f x10 x8).bind fun t589 => (if t589 = true then ((L2_noZone.f x560000 x560001).bind fun t590 => (some t590)) else (none))) else ((L2_near.f k x543001).bind fun t591 => (if t591 = true then ((L2_near.f k x544001).bind fun t592 => (L2_ZoneWiden.j4 k x10 (!t592) x543000 x543001 x544000 x544001 x560000 x560001)) else (L2_ZoneWiden.j4 k x10 true x543000 x543001 x544000 x544001 x560000 x560001)))
def L2_ZoneWiden.j4 : Nat → Option Int → Bool → Int → List (S67) → Int → List (S67) → Int → List (S120) → Option (Bool)
 | 0, _, _, _, _, _, _, _, _ => none
 | k + 1, x10, x141, x543000, x543001, x544000, x544001, x560000, x560001 => if x141 = true then (some true) else ((R2_ClosedZone.f k x543000 x543001).bind fun bt593 => ((R2_ClosedZone.f k x544000 x544001).bind fun bt599 => (if bt593.2.2 = true then (L2_ZoneWiden.j5 k x10 bt593.2.2 bt599.2.2 false x543000 x543001 x560000 x560001 bt599.1 bt599.2.1 x543000 x543001) else (L2_ZoneWiden.j5 k x10 bt593.2.2 bt599.2.2 bt599.2.2 x543000 x543001 x560000 x560001 bt599.1 bt599.2.1 x543000 x543001))))
def L2_ZoneWiden.j5 : Nat → Option Int → Bool → Bool → Bool → Int → List (S67) → Int → List (S120) → Int → List (S67) → Int → List (S67) → Option (Bool)
 | 0, _, _, _, _, _, _, _, _, _, _, _, _ => none
 | k + 1, x10, x19, x21, x157, x543000, x543001, x560000, x560001, x605000, x605001, x606000, x606001 => if x157 = true then (if x19 = true then (L2_ZoneWiden.j6 k x10 x21 x543000 x543001 x560000 x560001 x605000 x605001 x605000 x605001) else (L2_ZoneWiden.j6 k x10 false x543000 x543001 x560000 x560001 x605000 x605001 x605000 x605001)) else (if x19 = true then (L2_ZoneWiden.j7 k x10 x21 x543000 x543001 x560000 x560001 x605000 x605001 x606000 x606001) else (L2_ZoneWiden.j7 k x10 false x543000 x543001 x560000 x560001 x605000 x605001 x606000 x606001))
def L2_ZoneWiden.j6 : Nat → Option Int → Bool → Int → List (S67) → Int → List (S120) → Int → List (S67) → Int → List (S67) → Option (Bool)
 | 0, _, _, _, _, _, _, _, _, _, _ => none
 | k + 1, x10, x162, x543000, x543001, x560000, x560001, x605000, x605001, x606000, x606001 => if x162 = true then ((R2_WidenedCells.f k x543001 x605001).bind fun t606 => (if x10.isNone = true then ((L2_isZone.f k x560000 x560001 x543000 t606).bind fun t610 => (some t610)) else (none))) else (if x10.isNone = true then ((L2_isZone.f k x560000 x560001 x606000 x606001).bind fun t612 => (some t612)) else (none))
def L2_ZoneWiden.j7 : Nat → Option Int → Bool → Int → List (S67) → Int → List (S120) → Int → List (S67) → Int → List (S67) → Option (Bool)
 | 0, _, _, _, _, _, _, _, _, _, _ => none
 | k + 1, x10, x162, x543000, x543001, x560000, x560001, x605000, x605001, x606000, x606001 => if x162 = true then ((R2_WidenedCells.f k x543001 x605001).bind fun t613 => (if x10.isNone = true then ((L2_isZone.f k x560000 x560001 x543000 t613).bind fun t617 => (some t617)) else (none))) else (if x10.isNone = true then ((L2_isZone.f k x560000 x560001 x606000 x606001).bind fun t619 => (some t619)) else (none))
end
def L2_ZoneWiden.f (k : Nat) (a0_0 : Int) (l0_1 : List (S67)) (a1_0 : Int) (l1_1 : List (S67)) (a2 : Int) : Option (Bool) := (L2_free.f k).bind fun t544 => (if t544 = true then (if (l0_1.length : Int) > 100 then (L2_ZoneWiden.j0 k a2 t544 true a0_0 l0_1 a1_0 l1_1) else (L2_ZoneWiden.j0 k a2 t544 (decide ((l1_1.length : Int) > 100)) a0_0 l0_1 a1_0 l1_1)) else (L2_ZoneWiden.j0 k a2 t544 true a0_0 l0_1 a1_0 l1_1))
theorem L2_ZoneWiden.mono_l : ∀ k, (∀ y0 y1 y2 y3 y4 y5 y6, LeO (L2_ZoneWiden.j0 k y0 y1 y2 y3 y4 y5 y6) (L2_ZoneWiden.j0 (k + 1) y0 y1 y2 y3 y4 y5 y6)) ∧ (∀ y0 y1 y2 y3 y4 y5 y6 y7 y8 y9 y10, LeO (L2_ZoneWiden.j1 k y0 y1 y2 y3 y4 y5 y6 y7 y8 y9 y10) (L2_ZoneWiden.j1 (k + 1) y0 y1 y2 y3 y4 y5 y6 y7 y8 y9 y10)) ∧ (∀ y0 y1 y2 y3 y4 y5 y6 y7 y8 y9, LeO (L2_ZoneWiden.j2 k y0 y1 y2 y3 y4 y5 y6 y7 y8 y9) (L2_ZoneWiden.j2 (k + 1) y0 y1 y2 y3 y4 y5 y6 y7 y8 y9)) ∧ (∀ y0 y1 y2 y3 y4 y5 y6 y7, LeO (L2_ZoneWiden.j3 k y0 y1 y2 y3 y4 y5 y6 y7) (L2_ZoneWiden.j3 (k + 1) y0 y1 y2 y3 y4 y5 y6 y7)) ∧ (∀ y0 y1 y2 y3 y4 y5 y6 y7, LeO (L2_ZoneWiden.j4 k y0 y1 y2 y3 y4 y5 y6 y7) (L2_ZoneWiden.j4 (k + 1) y0 y1 y2 y3 y4 y5 y6 y7)) ∧ (∀ y0 y1 y2 y3 y4 y5 y6 y7 y8 y9 y10 y11, LeO (L2_ZoneWiden.j5 k y0 y1 y2 y3 y4 y5 y6 y7 y8 y9 y10 y11) (L2_ZoneWiden.j5 (k + 1) y0 y1 y2 y3 y4 y5 y6 y7 y8 y9 y10 y11)) ∧ (∀ y0 y1 y2 y3 y4 y5 y6 y7 y8 y9, LeO (L2_ZoneWiden.j6 k y0 y1 y2 y3 y4 y5 y6 y7 y8 y9) (L2_ZoneWiden.j6 (k + 1) y0 y1 y2 y3 y4 y5 y6 y7 y8 y9)) ∧ (∀ y0 y1 y2 y3 y4 y5 y6 y7 y8 y9, LeO (L2_ZoneWiden.j7 k y0 y1 y2 y3 y4 y5 y6 y7 y8 y9) (L2_ZoneWiden.j7 (k + 1) y0 y1 y2 y3 y4 y5 y6 y7 y8 y9))
 | 0 => ⟨fun _ _ _ _ _ _ _ r h => by simp [L2_ZoneWiden.j0] at h, fun _ _ _ _ _ _ _ _ _ _ _ r h => by simp [L2_ZoneWiden.j1] at h, fun _ _ _ _ _ _ _ _ _ _ r h => by simp [L2_ZoneWiden.j2] at h, fun _ _ _ _ _ _ _ _ r h => by simp [L2_ZoneWiden.j3] at h, fun _ _ _ _ _ _ _ _ r h => by simp [L2_ZoneWiden.j4] at h, fun _ _ _ _ _ _ _ _ _ _ _ _ r h => by simp [L2_ZoneWiden.j5] at h, fun _ _ _ _ _ _ _ _ _ _ r h => by simp [L2_ZoneWiden.j6] at h, fun _ _ _ _ _ _ _ _ _ _ r h => by simp [L2_ZoneWiden.j7] at h⟩
 | k + 1 => by
  obtain ⟨ih0, ih1, ih2, ih3, ih4, ih5, ih6, ih7⟩ := L2_ZoneWiden.mono_l k
  refine ⟨?_, ?_, ?_, ?_, ?_, ?_, ?_, ?_⟩
  ·intro y0 y1 y2 y3 y4 y5 y6
   unfold L2_ZoneWiden.j0
   repeat' first
   | (with_reducible exact ih0 _ _ _ _ _ _ _)
   | (with_reducible exact ih1 _ _ _ _ _ _ _ _ _ _ _)
   | (with_reducible exact ih2 _ _ _ _ _ _ _ _ _ _)
   | (with_reducible exact ih3 _ _ _ _ _ _ _ _)
   | (with_reducible exact ih4 _ _ _ _ _ _ _ _)
   | (with_reducible exact ih5 _ _ _ _ _ _ _ _ _ _ _ _)
   | (with_reducible exact ih6 _ _ _ _ _ _ _ _ _ _)
   | (with_reducible exact ih7 _ _ _ _ _ _ _ _ _ _)
   | (with_reducible exact L2_free.mono _)
   | (with_reducible exact L2_isZone.mono _ _ _ _ _)
   | (with_reducible exact L2_near.mono _ _)
   | (with_reducible exact L2_zoneOf.mono _ _ _)
   | (with_reducible exact R2_ClosedZone.mono _ _ _)
   | (with_reducible exact R2_TwoZones.mono _ _ _ _ _)
   | (with_reducible exact R2_WidenedCells.mono _ _ _)
   | (with_reducible exact R2_ZoneError.mono _ _ _)
   | (with_reducible exact LeO.refl _)
   | (with_reducible exact LeO.none _)
   | (with_reducible refine LeO.ite ?_ ?_)
   | (with_reducible refine LeO.bind ?_ (fun _ => ?_))
   | exact ih0 _ _ _ _ _ _ _
   | exact ih1 _ _ _ _ _ _ _ _ _ _ _
   | exact ih2 _ _ _ _ _ _ _ _ _ _
   | exact ih3 _ _ _ _ _ _ _ _
   | exact ih4 _ _ _ _ _ _ _ _
   | exact ih5 _ _ _ _ _ _ _ _ _ _ _ _
   | exact ih6 _ _ _ _ _ _ _ _ _ _
   | exact ih7 _ _ _ _ _ _ _ _ _ _
   | exact L2_free.mono _
   | exact L2_isZone.mono _ _ _ _ _
   | exact L2_near.mono _ _
   | exact L2_zoneOf.mono _ _ _
   | exact R2_ClosedZone.mono _ _ _
   | exact R2_TwoZones.mono _ _ _ _ _
   | exact R2_WidenedCells.mono _ _ _
   | exact R2_ZoneError.mono _ _ _
   | exact LeO.none _
   | refine LeO.ite ?_ ?_
   | refine LeO.bind ?_ (fun _ => ?_)
  ·intro y0 y1 y2 y3 y4 y5 y6 y7 y8 y9 y10
   unfold L2_ZoneWiden.j1
   repeat' first
   | (with_reducible exact ih0 _ _ _ _ _ _ _)
   | (with_reducible exact ih1 _ _ _ _ _ _ _ _ _ _ _)
   | (with_reducible exact ih2 _ _ _ _ _ _ _ _ _ _)
   | (with_reducible exact ih3 _ _ _ _ _ _ _ _)
   | (with_reducible exact ih4 _ _ _ _ _ _ _ _)
   | (with_reducible exact ih5 _ _ _ _ _ _ _ _ _ _ _ _)
   | (with_reducible exact ih6 _ _ _ _ _ _ _ _ _ _)
   | (with_reducible exact ih7 _ _ _ _ _ _ _ _ _ _)
   | (with_reducible exact L2_free.mono _)
   | (with_reducible exact L2_isZone.mono _ _ _ _ _)
   | (with_reducible exact L2_near.mono _ _)
   | (with_reducible exact L2_zoneOf.mono _ _ _)
   | (with_reducible exact R2_ClosedZone.mono _ _ _)
   | (with_reducible exact R2_TwoZones.mono _ _ _ _ _)
   | (with_reducible exact R2_WidenedCells.mono _ _ _)
   | (with_reducible exact R2_ZoneError.mono _ _ _)
   | (with_reducible exact LeO.refl _)
   | (with_reducible exact LeO.none _)
   | (with_reducible refine LeO.ite ?_ ?_)
   | (with_reducible refine LeO.bind ?_ (fun _ => ?_))
   | exact ih0 _ _ _ _ _ _ _
   | exact ih1 _ _ _ _ _ _ _ _ _ _ _
   | exact ih2 _ _ _ _ _ _ _ _ _ _
   | exact ih3 _ _ _ _ _ _ _ _
   | exact ih4 _ _ _ _ _ _ _ _
   | exact ih5 _ _ _ _ _ _ _ _ _ _ _ _
   | exact ih6 _ _ _ _ _ _ _ _ _ _
   | exact ih7 _ _ _ _ _ _ _ _ _ _
   | exact L2_free.mono _
   | exact L2_isZone.mono _ _ _ _ _
   | exact L2_near.mono _ _
   | exact L2_zoneOf.mono _ _ _
   | exact R2_ClosedZone.mono _ _ _
   | exact R2_TwoZones.mono _ _ _ _ _
   | exact R2_WidenedCells.mono _ _ _
   | exact R2_ZoneError.mono _ _ _
   | exact LeO.none _
   | refine LeO.ite ?_ ?_
   | refine LeO.bind ?_ (fun _ => ?_)
  ·intro y0 y1 y2 y3 y4 y5 y6 y7 y8 y9
   unfold L2_ZoneWiden.j2
   repeat' first
   | (with_reducible exact ih0 _ _ _ _ _ _ _)
   | (with_reducible exact ih1 _ _ _ _ _ _ _ _ _ _ _)
   | (with_reducible exact ih2 _ _ _ _ _ _ _ _ _ _)
   | (with_reducible exact ih3 _ _ _ _ _ _ _ _)
   | (with_reducible exact ih4 _ _ _ _ _ _ _ _)
   | (with_reducible exact ih5 _ _ _ _ _ _ _ _ _ _ _ _)
   | (with_reducible exact ih6 _ _ _ _ _ _ _ _ _ _)
   | (with_reducible exact ih7 _ _ _ _ _ _ _ _ _ _)
   | (with_reducible exact L2_free.mono _)
   | (with_reducible exact L2_isZone.mono _ _ _ _ _)
   | (with_reducible exact L2_near.mono _ _)
   | (with_reducible exact L2_zoneOf.mono _ _ _)
   | (with_reducible exact R2_ClosedZone.mono _ _ _)
   | (with_reducible exact R2_TwoZones.mono _ _ _ _ _)
   | (with_reducible exact R2_WidenedCells.mono _ _ _)
   | (with_reducible exact R2_ZoneError.mono _ _ _)
   | (with_reducible exact LeO.refl _)
   | (with_reducible exact LeO.none _)
   | (with_reducible refine LeO.ite ?_ ?_)
   | (with_reducible refine LeO.bind ?_ (fun _ => ?_))
   | exact ih0 _ _ _ _ _ _ _
   | exact ih1 _ _ _ _ _ _ _ _ _ _ _
   | exact ih2 _ _ _ _ _ _ _ _ _ _
   | exact ih3 _ _ _ _ _ _ _ _
   | exact ih4 _ _ _ _ _ _ _ _
   | exact ih5 _ _ _ _ _ _ _ _ _ _ _ _
   | exact ih6 _ _ _ _ _ _ _ _ _ _
   | exact ih7 _ _ _ _ _ _ _ _ _ _
   | exact L2_free.mono _
   | exact L2_isZone.mono _ _ _ _ _
   | exact L2_near.mono _ _
   | exact L2_zoneOf.mono _ _ _
   | exact R2_ClosedZone.mono _ _ _
   | exact R2_TwoZones.mono _ _ _ _ _
   | exact R2_WidenedCells.mono _ _ _
   | exact R2_ZoneError.mono _ _ _
   | exact LeO.none _
   | refine LeO.ite ?_ ?_
   | refine LeO.bind ?_ (fun _ => ?_)
  ·intro y0 y1 y2 y3 y4 y5 y6 y7
   unfold L2_ZoneWiden.j3
   repeat' first
   | (with_reducible exact ih0 _ _ _ _ _ _ _)
   | (with_reducible exact ih1 _ _ _ _ _ _ _ _ _ _ _)
   | (with_reducible exact ih2 _ _ _ _ _ _ _ _ _ _)
   | (with_reducible exact ih3 _ _ _ _ _ _ _ _)
   | (with_reducible exact ih4 _ _ _ _ _ _ _ _)
   | (with_reducible exact ih5 _ _ _ _ _ _ _ _ _ _ _ _)
   | (with_reducible exact ih6 _ _ _ _ _ _ _ _ _ _)
   | (with_reducible exact ih7 _ _ _ _ _ _ _ _ _ _)
   | (with_reducible exact L2_free.mono _)
   | (with_reducible exact L2_isZone.mono _ _ _ _ _)
   | (with_reducible exact L2_near.mono _ _)
   | (with_reducible exact L2_zoneOf.mono _ _ _)
   | (with_reducible exact R2_ClosedZone.mono _ _ _)
   | (with_reducible exact R2_TwoZones.mono _ _ _ _ _)
   | (with_reducible exact R2_WidenedCells.mono _ _ _)
   | (with_reducible exact R2_ZoneError.mono _ _ _)
   | (with_reducible exact LeO.refl _)
   | (with_reducible exact LeO.none _)
   | (with_reducible refine LeO.ite ?_ ?_)
   | (with_reducible refine LeO.bind ?_ (fun _ => ?_))
   | exact ih0 _ _ _ _ _ _ _
   | exact ih1 _ _ _ _ _ _ _ _ _ _ _
   | exact ih2 _ _ _ _ _ _ _ _ _ _
   | exact ih3 _ _ _ _ _ _ _ _
   | exact ih4 _ _ _ _ _ _ _ _
   | exact ih5 _ _ _ _ _ _ _ _ _ _ _ _
   | exact ih6 _ _ _ _ _ _ _ _ _ _
   | exact ih7 _ _ _ _ _ _ _ _ _ _
   | exact L2_free.mono _
   | exact L2_isZone.mono _ _ _ _ _
   | exact L2_near.mono _ _
   | exact L2_zoneOf.mono _ _ _
   | exact R2_ClosedZone.mono _ _ _
   | exact R2_TwoZones.mono _ _ _ _ _
   | exact R2_WidenedCells.mono _ _ _
   | exact R2_ZoneError.mono _ _ _
   | exact LeO.none _
   | refine LeO.ite ?_ ?_
   | refine LeO.bind ?_ (fun _ => ?_)
  ·intro y0 y1 y2 y3 y4 y5 y6 y7
   unfold L2_ZoneWiden.j4
   repeat' first
   | (with_reducible exact ih0 _ _ _ _ _ _ _)
   | (with_reducible exact ih1 _ _ _ _ _ _ _ _ _ _ _)
   | (with_reducible exact ih2 _ _ _ _ _ _ _ _ _ _)
   | (with_reducible exact ih3 _ _ _ _ _ _ _ _)
   | (with_reducible exact ih4 _ _ _ _ _ _ _ _)
   | (with_reducible exact ih5 _ _ _ _ _ _ _ _ _ _ _ _)
   | (with_reducible exact ih6 _ _ _ _ _ _ _ _ _ _)
   | (with_reducible exact ih7 _ _ _ _ _ _ _ _ _ _)
   | (with_reducible exact L2_free.mono _)
   | (with_reducible exact L2_isZone.mono _ _ _ _ _)
   | (with_reducible exact L2_near.mono _ _)
   | (with_reducible exact L2_zoneOf.mono _ _ _)
   | (with_reducible exact R2_ClosedZone.mono _ _ _)
   | (with_reducible exact R2_TwoZones.mono _ _ _ _ _)
   | (with_reducible exact R2_WidenedCells.mono _ _ _)
   | (with_reducible exact R2_ZoneError.mono _ _ _)
   | (with_reducible exact LeO.refl _)
   | (with_reducible exact LeO.none _)
   | (with_reducible refine LeO.ite ?_ ?_)
   | (with_reducible refine LeO.bind ?_ (fun _ => ?_))
   | exact ih0 _ _ _ _ _ _ _
   | exact ih1 _ _ _ _ _ _ _ _ _ _ _
   | exact ih2 _ _ _ _ _ _ _ _ _ _
   | exact ih3 _ _ _ _ _ _ _ _
   | exact ih4 _ _ _ _ _ _ _ _
   | exact ih5 _ _ _ _ _ _ _ _ _ _ _ _
   | exact ih6 _ _ _ _ _ _ _ _ _ _
   | exact ih7 _ _ _ _ _ _ _ _ _ _
   | exact L2_free.mono _
   | exact L2_isZone.mono _ _ _ _ _
   | exact L2_near.mono _ _
   | exact L2_zoneOf.mono _ _ _
   | exact R2_ClosedZone.mono _ _ _
   | exact R2_TwoZones.mono _ _ _ _ _
   | exact R2_WidenedCells.mono _ _ _
   | exact R2_ZoneError.mono _ _ _
   | exact LeO.none _
   | refine LeO.ite ?_ ?_
   | refine LeO.bind ?_ (fun _ => ?_)
  ·intro y0 y1 y2 y3 y4 y5 y6 y7 y8 y9 y10 y11
   unfold L2_ZoneWiden.j5
   repeat' first
   | (with_reducible exact ih0 _ _ _ _ _ _ _)
   | (with_reducible exact ih1 _ _ _ _ _ _ _ _ _ _ _)
   | (with_reducible exact ih2 _ _ _ _ _ _ _ _ _ _)
   | (with_reducible exact ih3 _ _ _ _ _ _ _ _)
   | (with_reducible exact ih4 _ _ _ _ _ _ _ _)
   | (with_reducible exact ih5 _ _ _ _ _ _ _ _ _ _ _ _)
   | (with_reducible exact ih6 _ _ _ _ _ _ _ _ _ _)
   | (with_reducible exact ih7 _ _ _ _ _ _ _ _ _ _)
   | (with_reducible exact L2_free.mono _)
   | (with_reducible exact L2_isZone.mono _ _ _ _ _)
   | (with_reducible exact L2_near.mono _ _)
   | (with_reducible exact L2_zoneOf.mono _ _ _)
   | (with_reducible exact R2_ClosedZone.mono _ _ _)
   | (with_reducible exact R2_TwoZones.mono _ _ _ _ _)
   | (with_reducible exact R2_WidenedCells.mono _ _ _)
   | (with_reducible exact R2_ZoneError.mono _ _ _)
   | (with_reducible exact LeO.refl _)
   | (with_reducible exact LeO.none _)
   | (with_reducible refine LeO.ite ?_ ?_)
   | (with_reducible refine LeO.bind ?_ (fun _ => ?_))
   | exact ih0 _ _ _ _ _ _ _
   | exact ih1 _ _ _ _ _ _ _ _ _ _ _
   | exact ih2 _ _ _ _ _ _ _ _ _ _
   | exact ih3 _ _ _ _ _ _ _ _
   | exact ih4 _ _ _ _ _ _ _ _
   | exact ih5 _ _ _ _ _ _ _ _ _ _ _ _
   | exact ih6 _ _ _ _ _ _ _ _ _ _
   | exact ih7 _ _ _ _ _ _ _ _ _ _
   | exact L2_free.mono _
   | exact L2_isZone.mono _ _ _ _ _
   | exact L2_near.mono _ _
   | exact L2_zoneOf.mono _ _ _
   | exact R2_ClosedZone.mono _ _ _
   | exact R2_TwoZones.mono _ _ _ _ _
   | exact R2_WidenedCells.mono _ _ _
   | exact R2_ZoneError.mono _ _ _
   | exact LeO.none _
   | refine LeO.ite ?_ ?_
   | refine LeO.bind ?_ (fun _ => ?_)
  ·intro y0 y1 y2 y3 y4 y5 y6 y7 y8 y9
   unfold L2_ZoneWiden.j6
   repeat' first
   | (with_reducible exact ih0 _ _ _ _ _ _ _)
   | (with_reducible exact ih1 _ _ _ _ _ _ _ _ _ _ _)
   | (with_reducible exact ih2 _ _ _ _ _ _ _ _ _ _)
   | (with_reducible exact ih3 _ _ _ _ _ _ _ _)
   | (with_reducible exact ih4 _ _ _ _ _ _ _ _)
   | (with_reducible exact ih5 _ _ _ _ _ _ _ _ _ _ _ _)
   | (with_reducible exact ih6 _ _ _ _ _ _ _ _ _ _)
   | (with_reducible exact ih7 _ _ _ _ _ _ _ _ _ _)
   | (with_reducible exact L2_free.mono _)
   | (with_reducible exact L2_isZone.mono _ _ _ _ _)
   | (with_reducible exact L2_near.mono _ _)
   | (with_reducible exact L2_zoneOf.mono _ _ _)
   | (with_reducible exact R2_ClosedZone.mono _ _ _)
   | (with_reducible exact R2_TwoZones.mono _ _ _ _ _)
   | (with_reducible exact R2_WidenedCells.mono _ _ _)
   | (with_reducible exact R2_ZoneError.mono _ _ _)
   | (with_reducible exact LeO.refl _)
   | (with_reducible exact LeO.none _)
   | (with_reducible refine LeO.ite ?_ ?_)
   | (with_reducible refine LeO.bind ?_ (fun _ => ?_))
   | exact ih0 _ _ _ _ _ _ _
   | exact ih1 _ _ _ _ _ _ _ _ _ _ _
   | exact ih2 _ _ _ _ _ _ _ _ _ _
   | exact ih3 _ _ _ _ _ _ _ _
   | exact ih4 _ _ _ _ _ _ _ _
   | exact ih5 _ _ _ _ _ _ _ _ _ _ _ _
   | exact ih6 _ _ _ _ _ _ _ _ _ _
   | exact ih7 _ _ _ _ _ _ _ _ _ _
   | exact L2_free.mono _
   | exact L2_isZone.mono _ _ _ _ _
   | exact L2_near.mono _ _
   | exact L2_zoneOf.mono _ _ _
   | exact R2_ClosedZone.mono _ _ _
   | exact R2_TwoZones.mono _ _ _ _ _
   | exact R2_WidenedCells.mono _ _ _
   | exact R2_ZoneError.mono _ _ _
   | exact LeO.none _
   | refine LeO.ite ?_ ?_
   | refine LeO.bind ?_ (fun _ => ?_)
  intro y0 y1 y2 y3 y4 y5 y6 y7 y8 y9
  unfold L2_ZoneWiden.j7
  repeat' first
  | (with_reducible exact ih0 _ _ _ _ _ _ _)
  | (with_reducible exact ih1 _ _ _ _ _ _ _ _ _ _ _)
  | (with_reducible exact ih2 _ _ _ _ _ _ _ _ _ _)
  | (with_reducible exact ih3 _ _ _ _ _ _ _ _)
  | (with_reducible exact ih4 _ _ _ _ _ _ _ _)
  | (with_reducible exact ih5 _ _ _ _ _ _ _ _ _ _ _ _)
  | (with_reducible exact ih6 _ _ _ _ _ _ _ _ _ _)
  | (with_reducible exact ih7 _ _ _ _ _ _ _ _ _ _)
  | (with_reducible exact L2_free.mono _)
  | (with_reducible exact L2_isZone.mono _ _ _ _ _)
  | (with_reducible exact L2_near.mono _ _)
  | (with_reducible exact L2_zoneOf.mono _ _ _)
  | (with_reducible exact R2_ClosedZone.mono _ _ _)
  | (with_reducible exact R2_TwoZones.mono _ _ _ _ _)
  | (with_reducible exact R2_WidenedCells.mono _ _ _)
  | (with_reducible exact R2_ZoneError.mono _ _ _)
  | (with_reducible exact LeO.refl _)
  | (with_reducible exact LeO.none _)
  | (with_reducible refine LeO.ite ?_ ?_)
  | (with_reducible refine LeO.bind ?_ (fun _ => ?_))
  | exact ih0 _ _ _ _ _ _ _
  | exact ih1 _ _ _ _ _ _ _ _ _ _ _
  | exact ih2 _ _ _ _ _ _ _ _ _ _
  | exact ih3 _ _ _ _ _ _ _ _
  | exact ih4 _ _ _ _ _ _ _ _
  | exact ih5 _ _ _ _ _ _ _ _ _ _ _ _
  | exact ih6 _ _ _ _ _ _ _ _ _ _
  | exact ih7 _ _ _ _ _ _ _ _ _ _
  | exact L2_free.mono _
  | exact L2_isZone.mono _ _ _ _ _
  | exact L2_near.mono _ _
  | exact L2_zoneOf.mono _ _ _
  | exact R2_ClosedZone.mono _ _ _
  | exact R2_TwoZones.mono _ _ _ _ _
  | exact R2_WidenedCells.mono _ _ _
  | exact R2_ZoneError.mono _ _ _
  | exact LeO.none _
  | refine LeO.ite ?_ ?_
  | refine LeO.bind ?_ (fun _ => ?_)
theorem L2_ZoneWiden.mono : ∀ a0 a1 a2 a3 a4 k, LeO (L2_ZoneWiden.f k a0 a1 a2 a3 a4) (L2_ZoneWiden.f (k + 1) a0 a1 a2 a3 a4) := by
 intro a0 a1 a2 a3 a4 k
 obtain ⟨ih0, ih1, ih2, ih3, ih4, ih5, ih6, ih7⟩ := L2_ZoneWiden.mono_l k
 unfold L2_ZoneWiden.f
 repeat' first
   | (with_reducible exact ih0 _ _ _ _ _ _ _)
   | (with_reducible exact ih1 _ _ _ _ _ _ _ _ _ _ _)
   | (with_reducible exact ih2 _ _ _ _ _ _ _ _ _ _)
   | (with_reducible exact ih3 _ _ _ _ _ _ _ _)
   | (with_reducible exact ih4 _ _ _ _ _ _ _ _)
   | (with_reducible exact ih5 _ _ _ _ _ _ _ _ _ _ _ _)
   | (with_reducible exact ih6 _ _ _ _ _ _ _ _ _ _)
   | (with_reducible exact ih7 _ _ _ _ _ _ _ _ _ _)
   | (with_reducible exact L2_free.mono _)
   | (with_reducible exact L2_isZone.mono _ _ _ _ _)
   | (with_reducible exact L2_near.mono _ _)
   | (with_reducible exact L2_zoneOf.mono _ _ _)
   | (with_reducible exact R2_ClosedZone.mono _ _ _)
   | (with_reducible exact R2_TwoZones.mono _ _ _ _ _)
   | (with_reducible exact R2_WidenedCells.mono _ _ _)
   | (with_reducible exact R2_ZoneError.mono _ _ _)
   | (with_reducible exact LeO.refl _)
   | (with_reducible exact LeO.none _)
   | (with_reducible refine LeO.ite ?_ ?_)
   | (with_reducible refine LeO.bind ?_ (fun _ => ?_))
   | exact ih0 _ _ _ _ _ _ _
   | exact ih1 _ _ _ _ _ _ _ _ _ _ _
   | exact ih2 _ _ _ _ _ _ _ _ _ _
   | exact ih3 _ _ _ _ _ _ _ _
   | exact ih4 _ _ _ _ _ _ _ _
   | exact ih5 _ _ _ _ _ _ _ _ _ _ _ _
   | exact ih6 _ _ _ _ _ _ _ _ _ _
   | exact ih7 _ _ _ _ _ _ _ _ _ _
   | exact L2_free.mono _
   | exact L2_isZone.mono _ _ _ _ _
   | exact L2_near.mono _ _
   | exact L2_zoneOf.mono _ _ _
   | exact R2_ClosedZone.mono _ _ _
   | exact R2_TwoZones.mono _ _ _ _ _
   | exact R2_WidenedCells.mono _ _ _
   | exact R2_ZoneError.mono _ _ _
   | exact LeO.none _
   | refine LeO.ite ?_ ?_
   | refine LeO.bind ?_ (fun _ => ?_)
def L2_ZoneWiden.T5 : Bool × List (List Nat × List Nat) := (true, [([], []), ([0], [0]), ([], []), ([2, 1], [2]), ([1, 3, 3], [1, 3]), ([4], [4]), ([5], [5]), ([5], [5]), ([], []), ([8, 6, 4, 0, 1, 2, 3, 4, 5, 6, 8], [6, 8]), ([7, 9, 0, 1, 2, 3, 4, 5, 6, 7, 8, 9], [7])])
def L2_ZoneWiden.B5 : List Nat := [0, 1, 0, 7, 15, 31, 63, 63, 0, 383, 1023]
theorem L2_ZoneWiden.tab5 : rtab .any (opsOf Tryd.f5 5) = L2_ZoneWiden.T5 := by kernel_rfl
theorem L2_ZoneWiden.bits5 : waitsOk L2_ZoneWiden.T5.2 L2_ZoneWiden.B5 = true := by kernel_rfl
def L2_ZoneWiden.T17 : Bool × List (List Nat × List Nat) := (true, [([], []), ([0], [0]), ([], []), ([1, 2], [1, 2]), ([3], [3]), ([], []), ([5], [5]), ([], []), ([], []), ([8], [8]), ([9], [9]), ([7, 10], [7, 10]), ([6, 11], [6, 11]), ([12], [12]), ([4, 13], [4, 13]), ([14, 14, 0, 1, 2, 3, 4, 5, 6, 7, 8, 9, 10, 11, 12, 13, 14], [14])])
def L2_ZoneWiden.B17 : List Nat := [0, 1, 0, 7, 15, 0, 32, 0, 0, 256, 768, 1920, 4064, 8160, 16383, 32767]
theorem L2_ZoneWiden.tab17 : rtab .any (opsOf Tryd.f5 17) = L2_ZoneWiden.T17 := by kernel_rfl
theorem L2_ZoneWiden.bits17 : waitsOk L2_ZoneWiden.T17.2 L2_ZoneWiden.B17 = true := by kernel_rfl
def L2_ZoneWiden.T30 : Bool × List (List Nat × List Nat) := (true, [([], []), ([0], [0]), ([], []), ([2], [2]), ([], []), ([4], [4]), ([3, 5], [3, 5]), ([1, 6], [1, 6]), ([7, 6, 0, 1, 2, 3, 4, 5, 6, 7], [7])])
def L2_ZoneWiden.B30 : List Nat := [0, 1, 0, 4, 0, 16, 60, 127, 255]
theorem L2_ZoneWiden.tab30 : rtab .any (opsOf Tryd.f5 30) = L2_ZoneWiden.T30 := by kernel_rfl
theorem L2_ZoneWiden.bits30 : waitsOk L2_ZoneWiden.T30.2 L2_ZoneWiden.B30 = true := by kernel_rfl

end Go.Proofs.YtcalcnfppnbooaaDoor.Z
