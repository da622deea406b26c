-- Written by wip/xprint.py (the session's program over the kit's print).
import Derived.Test.YtcalcnfppnbooaaDoorEb
import Derived.Test.YtcalcnfppnbooaaDoorFld
import Derived.Test.YtcalcnfppnbooaaDoorCd
import Derived.Test.YtcalcnfppnbooaaDoorZh
import Derived.Test.YtcalcnfppnbooaaDoorZv
import Derived.Test.YtcalcnfppnbooaaDoorZ0
import Derived.Test.YtcalcnfppnbooaaDoorZ3
import Derived.Test.YtcalcnfppnbooaaDoorZ4
import Derived.Test.YtcalcnfppnbooaaDoorZ5
import Derived.Test.YtcalcnfppnbooaaDoorZ7
namespace Go.Proofs.YtcalcnfppnbooaaDoor.Z
open Go.RowKit Go.Proofs.YtcalcnfppnbooaaDoorW.PrintWords Go.Proofs.YtcalcnfppnbooaaDoorW.PrintLast Go.Proofs.YtcalcnfppnbooaaDoorW.PrintMore Go.Proofs.Rcg
attribute [local go_sem] Go.Proofs.Rcg.fld_zone1 Go.Proofs.Rcg.fld_rzone1 max2_int min2_int max_two min_two max_three min_three max_four min_four   -- for this text's walks alone
set_option linter.unusedVariables false
set_option linter.unusedSimpArgs false

/-! ### L2_ZoneClose: function 3 -/
mutual
def L2_ZoneClose.j0 : Nat → List Int → Bool → Bool → Int → List (S67) → Option (Bool)
 | 0, _, _, _, _, _ => none
 | k + 1, x1, x5, x30, x204000, x204001 => if x30 = true then (some x5) else ((R2_ZoneError.f k x204000 x204001).bind fun t205 => ((L2_zoneOf.f k x204000 x204001).bind fun bt206 => ((zone_Close.f bt206.1 bt206.2).bind fun bt210 => ((L2_zoneOf.f k x204000 x204001).bind fun bt217 => ((L2_ints.f x1).bind fun t221 => ((zone_Has.f bt217.1 bt217.2 t221).bind fun bt224 => ((L2_zoneOf.f k x204000 x204001).bind fun bt226 => ((zone_Valid.f bt226.1 bt226.2).bind fun t230 => ((L2_coded.f t230 t205).bind fun t231 => (if t231 = true then (if t205 = 0 then (L2_ZoneClose.j1 k x1 t205 bt210.2.2.1 bt210.2.2.2 bt224.1 bt224.2 t205 ((x1.length : Int) != x204000) x204000 x204001 bt210.1 bt210.2.1) else (L2_ZoneClose.j1 k x1 t205 bt210.2.2.1 bt210.2.2.2 bt224.1 bt224.2 t205 false x204000 x204001 bt210.1 bt210.2.1)) else (none)))))))))))
def L2_ZoneClose.j1 : Nat → List Int → Int → Bool → Option Int → Bool → Option Int → Int → Bool → Int → List (S67) → Int → List (S120) → Option (Bool)
 | 0, _, _, _, _, _, _, _, _, _, _, _, _ => none
 | k + 1, x1, x6, x8, x9, x10, x11, x12, x64, x204000, x204001, x217000, x217001 => if x64 = true then (L2_ZoneClose.j2 k x1 x6 x8 x9 x10 x11 3 x204000 x204001 x217000 x217001) else (L2_ZoneClose.j2 k x1 x6 x8 x9 x10 x11 x12 x204000 x204001 x217000 x217001)
def L2_ZoneClose.j2 : Nat → List Int → Int → Bool → Option Int → Bool → Option Int → Int → Int → List (S67) → Int → List (S120) → Option (Bool)
 | 0, _, _, _, _, _, _, _, _, _, _, _ => none
 | k + 1, x1, x6, x8, x9, x10, x11, x12, x204000, x204001, x217000, x217001 => L2_ZoneClose.l0 k x1 x6 x8 x9 x10 x11 x12 0 x204000 x204001 x217000 x217001
def L2_ZoneClose.l0 : Nat → List Int → Int → Bool → Option Int → Bool → Option Int → Int → Int → Int → List (S67) → Int → List (S120) → Option (Bool)
 | 0, _, _, _, _, _, _, _, _, _, _, _, _ => none
 | k + 1, x1, x6, x8, x9, x10, x11, x12, x13, x204000, x204001, x217000, x217001 => if x13 < (x1.length : Int) then (L2_ZoneClose.j4 k x1 x6 x8 x9 x10 x11 x12 x13 (x12 == 0) x204000 x204001 x217000 x217001) else (L2_ZoneClose.j4 k x1 x6 x8 x9 x10 x11 x12 x13 false x204000 x204001 x217000 x217001)
def L2_ZoneClose.j4 : Nat → List Int → Int → Bool → Option Int → Bool → Option Int → Int → Int → Bool → Int → List (S67) → Int → List (S120) → Option (Bool)
 | 0, _, _, _, _, _, _, _, _, _, _, _, _, _ => none
 | k + 1, x1, x6, x8, x9, x10, x11, x12, x13, x72, x204000, x204001, x217000, x217001 => if x72 = true then (if 0 ≤ x13 then (if x13 < (x1.length : Int) then ((R2_Far.f (rd x1 x13) 1099511627776).bind fun t233 => (if t233 = true then (L2_ZoneClose.l0 k x1 x6 x8 x9 x10 x11 2 (wrap64 (x13 + 1)) x204000 x204001 x217000 x217001) else (L2_ZoneClose.l0 k x1 x6 x8 x9 x10 x11 x12 (wrap64 (x13 + 1)) x204000 x204001 x217000 x217001))) else (none)) else (none)) else (if x12 = 0 then ((R2_HasZone.f k x204000 x204001 x1).bind fun t234 => (L2_ZoneClose.j5 k x6 x8 x9 x10 x11 x12 t234 x204000 x204001 x217000 x217001)) else (L2_ZoneClose.j5 k x6 x8 x9 x10 x11 x12 false x204000 x204001 x217000 x217001))
def L2_ZoneClose.j5 : Nat → Int → Bool → Option Int → Bool → Option Int → Int → Bool → Int → List (S67) → Int → List (S120) → Option (Bool)
 | 0, _, _, _, _, _, _, _, _, _, _, _ => none
 | k + 1, x6, x8, x9, x10, x11, x12, x14, x204000, x204001, x217000, x217001 => (L2_coded.f x11 x12).bind fun t235 => (if t235 = true then (L2_ZoneClose.j6 k x6 x8 x9 (x10 != x14) x204000 x204001 x217000 x217001) else (L2_ZoneClose.j6 k x6 x8 x9 true x204000 x204001 x217000 x217001))
def L2_ZoneClose.j6 : Nat → Int → Bool → Option Int → Bool → Int → List (S67) → Int → List (S120) → Option (Bool)
 | 0, _, _, _, _, _, _, _, _ => none
 | k + 1, x6, x8, x9, x95, x204000, x204001, x217000, x217001 => if x95 = true then (none) else (if x6 > 0 then ((L2_coded.f x9 x6).bind fun t236 => (if t236 = true then (if x8 = true then (none) else ((L2_noZone.f x217000 x217001).bind fun t237 => (some t237))) else (none))) else ((L2_near.f k x204001).bind fun t238 => (if t238 = true then ((R2_ClosedZone.f k x204000 x204001).bind fun bt239 => (if x9.isNone = true then (if (x8 == bt239.2.2) = true then ((L2_isZone.f k x217000 x217001 bt239.1 bt239.2.1).bind fun t246 => (some t246)) else (none)) else (none))) else (if x9.isNone = true then (some true) else (none)))))
end
def L2_ZoneClose.f (k : Nat) (a0_0 : Int) (l0_1 : List (S67)) (l1 : List Int) : Option (Bool) := (L2_free.f k).bind fun t204 => (if t204 = true then (if (l0_1.length : Int) > 100 then (L2_ZoneClose.j0 k l1 t204 true a0_0 l0_1) else (L2_ZoneClose.j0 k l1 t204 (decide ((l1.length : Int) > 100)) a0_0 l0_1)) else (L2_ZoneClose.j0 k l1 t204 true a0_0 l0_1))
theorem L2_ZoneClose.mono_l : ∀ k, (∀ y0 y1 y2 y3 y4, LeO (L2_ZoneClose.j0 k y0 y1 y2 y3 y4) (L2_ZoneClose.j0 (k + 1) y0 y1 y2 y3 y4)) ∧ (∀ y0 y1 y2 y3 y4 y5 y6 y7 y8 y9 y10 y11, LeO (L2_ZoneClose.j1 k y0 y1 y2 y3 y4 y5 y6 y7 y8 y9 y10 y11) (L2_ZoneClose.j1 (k + 1) y0 y1 y2 y3 y4 y5 y6 y7 y8 y9 y10 y11)) ∧ (∀ y0 y1 y2 y3 y4 y5 y6 y7 y8 y9 y10, LeO (L2_ZoneClose.j2 k y0 y1 y2 y3 y4 y5 y6 y7 y8 y9 y10) (L2_ZoneClose.j2 (k + 1) y0 y1 y2 y3 y4 y5 y6 y7 y8 y9 y10)) ∧ (∀ y0 y1 y2 y3 y4 y5 y6 y7 y8 y9 y10 y11, LeO (L2_ZoneClose.l0 k y0 y1 y2 y3 y4 y5 y6 y7 y8 y9 y10 y11) (L2_ZoneClose.l0 (k + 1) y0 y1 y2 y3 y4 y5 y6 y7 y8 y9 y10 y11)) ∧ (∀ y0 y1 y2 y3 y4 y5 y6 y7 y8 y9 y10 y11 y12, LeO (L2_ZoneClose.j4 k y0 y1 y2 y3 y4 y5 y6 y7 y8 y9 y10 y11 y12) (L2_ZoneClose.j4 (k + 1) y0 y1 y2 y3 y4 y5 y6 y7 y8 y9 y10 y11 y12)) ∧ (∀ y0 y1 y2 y3 y4 y5 y6 y7 y8 y9 y10, LeO (L2_ZoneClose.j5 k y0 y1 y2 y3 y4 y5 y6 y7 y8 y9 y10) (L2_ZoneClose.j5 (k + 1) y0 y1 y2 y3 y4 y5 y6 y7 y8 y9 y10)) ∧ (∀ y0 y1 y2 y3 y4 y5 y6 y7, LeO (L2_ZoneClose.j6 k y0 y1 y2 y3 y4 y5 y6 y7) (L2_ZoneClose.j6 (k + 1) y0 y1 y2 y3 y4 y5 y6 y7))
 | 0 => ⟨fun _ _ _ _ _ r h => by simp [L2_ZoneClose.j0] at h, fun _ _ _ _ _ _ _ _ _ _ _ _ r h => by simp [L2_ZoneClose.j1] at h, fun _ _ _ _ _ _ _ _ _ _ _ r h => by simp [L2_ZoneClose.j2] at h, fun _ _ _ _ _ _ _ _ _ _ _ _ r h => by simp [L2_ZoneClose.l0] at h, fun _ _ _ _ _ _ _ _ _ _ _ _ _ r h => by simp [L2_ZoneClose.j4] at h, fun _ _ _ _ _ _ _ _ _ _ _ r h => by simp [L2_ZoneClose.j5] at h, fun _ _ _ _ _ _ _ _ r h => by simp [L2_ZoneClose.j6] at h⟩
 | k + 1 => by
  obtain ⟨ih0, ih1, ih2, ih3, ih4, ih5, ih6⟩ := L2_ZoneClose.mono_l k
  refine ⟨?_, ?_, ?_, ?_, ?_, ?_, ?_⟩
  ·intro y0 y1 y2 y3 y4
   unfold L2_ZoneClose.j0
   repeat' first
   | (with_reducible exact ih0 _ _ _ _ _)
   | (with_reducible exact ih1 _ _ _ _ _ _ _ _ _ _ _ _)
   | (with_reducible exact ih2 _ _ _ _ _ _ _ _ _ _ _)
   | (with_reducible exact ih3 _ _ _ _ _ _ _ _ _ _ _ _)
   | (with_reducible exact ih4 _ _ _ _ _ _ _ _ _ _ _ _ _)
   | (with_reducible exact ih5 _ _ _ _ _ _ _ _ _ _ _)
   | (with_reducible exact ih6 _ _ _ _ _ _ _ _)
   | (with_reducible exact L2_free.mono _)
   | (with_reducible exact L2_isZone.mono _ _ _ _ _)
   | (with_reducible exact L2_near.mono _ _)
   | (with_reducible exact L2_zoneOf.mono _ _ _)
   | (with_reducible exact R2_ClosedZone.mono _ _ _)
   | (with_reducible exact R2_HasZone.mono _ _ _ _)
   | (with_reducible exact R2_ZoneError.mono _ _ _)
   | (with_reducible exact LeO.refl _)
   | (with_reducible exact LeO.none _)
   | (with_reducible refine LeO.ite ?_ ?_)
   | (with_reducible refine LeO.bind ?_ (fun _ => ?_))
   | exact ih0 _ _ _ _ _
   | exact ih1 _ _ _ _ _ _ _ _ _ _ _ _
   | exact ih2 _ _ _ _ _ _ _ _ _ _ _
   | exact ih3 _ _ _ _ _ _ _ _ _ _ _ _
   | exact ih4 _ _ _ _ _ _ _ _ _ _ _ _ _
   | exact ih5 _ _ _ _ _ _ _ _ _ _ _
   | exact ih6 _ _ _ _ _ _ _ _
   | exact L2_free.mono _
   | exact L2_isZone.mono _ _ _ _ _
   | exact L2_near.mono _ _
   | exact L2_zoneOf.mono _ _ _
   | exact R2_ClosedZone.mono _ _ _
   | exact R2_HasZone.mono _ _ _ _
   | exact R2_ZoneError.mono _ _ _
   | exact LeO.none _
   | refine LeO.ite ?_ ?_
   | refine LeO.bind ?_ (fun _ => ?_)
  ·intro y0 y1 y2 y3 y4 y5 y6 y7 y8 y9 y10 y11
   unfold L2_ZoneClose.j1
   repeat' first
   | (with_reducible exact ih0 _ _ _ _ _)
   | (with_reducible exact ih1 _ _ _ _ _ _ _ _ _ _ _ _)
   | (with_reducible exact ih2 _ _ _ _ _ _ _ _ _ _ _)
   | (with_reducible exact ih3 _ _ _ _ _ _ _ _ _ _ _ _)
   | (with_reducible exact ih4 _ _ _ _ _ _ _ _ _ _ _ _ _)
   | (with_reducible exact ih5 _ _ _ _ _ _ _ _ _ _ _)
   | (with_reducible exact ih6 _ _ _ _ _ _ _ _)
   | (with_reducible exact L2_free.mono _)
   | (with_reducible exact L2_isZone.mono _ _ _ _ _)
   | (with_reducible exact L2_near.mono _ _)
   | (with_reducible exact L2_zoneOf.mono _ _ _)
   | (with_reducible exact R2_ClosedZone.mono _ _ _)
   | (with_reducible exact R2_HasZone.mono _ _ _ _)
   | (with_reducible exact R2_ZoneError.mono _ _ _)
   | (with_reducible exact LeO.refl _)
   | (with_reducible exact LeO.none _)
   | (with_reducible refine LeO.ite ?_ ?_)
   | (with_reducible refine LeO.bind ?_ (fun _ => ?_))
   | exact ih0 _ _ _ _ _
   | exact ih1 _ _ _ _ _ _ _ _ _ _ _ _
   | exact ih2 _ _ _ _ _ _ _ _ _ _ _
   | exact ih3 _ _ _ _ _ _ _ _ _ _ _ _
   | exact ih4 _ _ _ _ _ _ _ _ _ _ _ _ _
   | exact ih5 _ _ _ _ _ _ _ _ _ _ _
   | exact ih6 _ _ _ _ _ _ _ _
   | exact L2_free.mono _
   | exact L2_isZone.mono _ _ _ _ _
   | exact L2_near.mono _ _
   | exact L2_zoneOf.mono _ _ _
   | exact R2_ClosedZone.mono _ _ _
   | exact R2_HasZone.mono _ _ _ _
   | exact R2_ZoneError.mono _ _ _
   | exact LeO.none _
   | refine LeO.ite ?_ ?_
   | refine LeO.bind ?_ (fun _ => ?_)
  ·intro y0 y1 y2 y3 y4 y5 y6 y7 y8 y9 y10
   unfold L2_ZoneClose.j2
   repeat' first
   | (with_reducible exact ih0 _ _ _ _ _)
   | (with_reducible exact ih1 _ _ _ _ _ _ _ _ _ _ _ _)
   | (with_reducible exact ih2 _ _ _ _ _ _ _ _ _ _ _)
   | (with_reducible exact ih3 _ _ _ _ _ _ _ _ _ _ _ _)
   | (with_reducible exact ih4 _ _ _ _ _ _ _ _ _ _ _ _ _)
   | (with_reducible exact ih5 _ _ _ _ _ _ _ _ _ _ _)
   | (with_reducible exact ih6 _ _ _ _ _ _ _ _)
   | (with_reducible exact L2_free.mono _)
   | (with_reducible exact L2_isZone.mono _ _ _ _ _)
   | (with_reducible exact L2_near.mono _ _)
   | (with_reducible exact L2_zoneOf.mono _ _ _)
   | (with_reducible exact R2_ClosedZone.mono _ _ _)
   | (with_reducible exact R2_HasZone.mono _ _ _ _)
   | (with_reducible exact R2_ZoneError.mono _ _ _)
   | (with_reducible exact LeO.refl _)
   | (with_reducible exact LeO.none _)
   | (with_reducible refine LeO.ite ?_ ?_)
   | (with_reducible refine LeO.bind ?_ (fun _ => ?_))
   | exact ih0 _ _ _ _ _
   | exact ih1 _ _ _ _ _ _ _ _ _ _ _ _
   | exact ih2 _ _ _ _ _ _ _ _ _ _ _
   | exact ih3 _ _ _ _ _ _ _ _ _ _ _ _
   | exact ih4 _ _ _ _ _ _ _ _ _ _ _ _ _
   | exact ih5 _ _ _ _ _ _ _ _ _ _ _
   | exact ih6 _ _ _ _ _ _ _ _
   | exact L2_free.mono _
   | exact L2_isZone.mono _ _ _ _ _
   | exact L2_near.mono _ _
   | exact L2_zoneOf.mono _ _ _
   | exact R2_ClosedZone.mono _ _ _
   | exact R2_HasZone.mono _ _ _ _
   | exact R2_ZoneError.mono _ _ _
   | exact LeO.none _
   | refine LeO.ite ?_ ?_
   | refine LeO.bind ?_ (fun _ => ?_)
  ·intro y0 y1 y2 y3 y4 y5 y6 y7 y8 y9 y10 y11
   unfold L2_ZoneClose.l0
   repeat' first
   | (with_reducible exact ih0 _ _ _ _ _)
   | (with_reducible exact ih1 _ _ _ _ _ _ _ _ _ _ _ _)
   | (with_reducible exact ih2 _ _ _ _ _ _ _ _ _ _ _)
   | (with_reducible exact ih3 _ _ _ _ _ _ _ _ _ _ _ _)
   | (with_reducible exact ih4 _ _ _ _ _ _ _ _ _ _ _ _ _)
   | (with_reducible exact ih5 _ _ _ _ _ _ _ _ _ _ _)
   | (with_reducible exact ih6 _ _ _ _ _ _ _ _)
   | (with_reducible exact L2_free.mono _)
   | (with_reducible exact L2_isZone.mono _ _ _ _ _)
   | (with_reducible exact L2_near.mono _ _)
   | (with_reducible exact L2_zoneOf.mono _ _ _)
   | (with_reducible exact R2_ClosedZone.mono _ _ _)
   | (with_reducible exact R2_HasZone.mono _ _ _ _)
   | (with_reducible exact R2_ZoneError.mono _ _ _)
   | (with_reducible exact LeO.refl _)
   | (with_reducible exact LeO.none _)
   | (with_reducible refine LeO.ite ?_ ?_)
   | (with_reducible refine LeO.bind ?_ (fun _ => ?_))
   | exact ih0 _ _ _ _ _
   | exact ih1 _ _ _ _ _ _ _ _ _ _ _ _
   | exact ih2 _ _ _ _ _ _ _ _ _ _ _
   | exact ih3 _ _ _ _ _ _ _ _ _ _ _ _
   | exact ih4 _ _ _ _ _ _ _ _ _ _ _ _ _
   | exact ih5 _ _ _ _ _ _ _ _ _ _ _
   | exact ih6 _ _ _ _ _ _ _ _
   | exact L2_free.mono _
   | exact L2_isZone.mono _ _ _ _ _
   | exact L2_near.mono _ _
   | exact L2_zoneOf.mono _ _ _
   | exact R2_ClosedZone.mono _ _ _
   | exact R2_HasZone.mono _ _ _ _
   | exact R2_ZoneError.mono _ _ _
   | exact LeO.none _
   | refine LeO.ite ?_ ?_
   | refine LeO.bind ?_ (fun _ => ?_)
  ·intro y0 y1 y2 y3 y4 y5 y6 y7 y8 y9 y10 y11 y12
   unfold L2_ZoneClose.j4
   repeat' first
   | (with_reducible exact ih0 _ _ _ _ _)
   | (with_reducible exact ih1 _ _ _ _ _ _ _ _ _ _ _ _)
   | (with_reducible exact ih2 _ _ _ _ _ _ _ _ _ _ _)
   | (with_reducible exact ih3 _ _ _ _ _ _ _ _ _ _ _ _)
   | (with_reducible exact ih4 _ _ _ _ _ _ _ _ _ _ _ _ _)
   | (with_reducible exact ih5 _ _ _ _ _ _ _ _ _ _ _)
   | (with_reducible exact ih6 _ _ _ _ _ _ _ _)
   | (with_reducible exact L2_free.mono _)
   | (with_reducible exact L2_isZone.mono _ _ _ _ _)
   | (with_reducible exact L2_near.mono _ _)
   | (with_reducible exact L2_zoneOf.mono _ _ _)
   | (with_reducible exact R2_ClosedZone.mono _ _ _)
   | (with_reducible exact R2_HasZone.mono _ _ _ _)
   | (with_reducible exact R2_ZoneError.mono _ _ _)
   | (with_reducible exact LeO.refl _)
   | (with_reducible exact LeO.none _)
   | (with_reducible refine LeO.ite ?_ ?_)
   | (with_reducible refine LeO.bind ?_ (fun _ => ?_))
   | exact ih0 _ _ _ _ _
   | exact ih1 _ _ _ _ _ _ _ _ _ _ _ _
   | exact ih2 _ _ _ _ _ _ _ _ _ _ _
   | exact ih3 _ _ _ _ _ _ _ _ _ _ _ _
   | exact ih4 _ _ _ _ _ _ _ _ _ _ _ _ _
   | exact ih5 _ _ _ _ _ _ _ _ _ _ _
   | exact ih6 _ _ _ _ _ _ _ _
   | exact L2_free.mono _
   | exact L2_isZone.mono _ _ _ _ _
   | exact L2_near.mono _ _
   | exact L2_zoneOf.mono _ _ _
   | exact R2_ClosedZone.mono _ _ _
   | exact R2_HasZone.mono _ _ _ _
   | exact R2_ZoneError.mono _ _ _
   | exact LeO.none _
   | refine LeO.ite ?_ ?_
   | refine LeO.bind ?_ (fun _ => ?_)
  ·intro y0 y1 y2 y3 y4 y5 y6 y7 y8 y9 y10
   unfold L2_ZoneClose.j5
   repeat' first
   | (with_reducible exact ih0 _ _ _ _ _)
   | (with_reducible exact ih1 _ _ _ _ _ _ _ _ _ _ _ _)
   | (with_reducible exact ih2 _ _ _ _ _ _ _ _ _ _ _)
   | (with_reducible exact ih3 _ _ _ _ _ _ _ _ _ _ _ _)
   | (with_reducible exact ih4 _ _ _ _ _ _ _ _ _ _ _ _ _)
   | (with_reducible exact ih5 _ _ _ _ _ _ _ _ _ _ _)
   | (with_reducible exact ih6 _ _ _ _ _ _ _ _)
   | (with_reducible exact L2_free.mono _)
   | (with_reducible exact L2_isZone.mono _ _ _ _ _)
   | (with_reducible exact L2_near.mono _ _)
   | (with_reducible exact L2_zoneOf.mono _ _ _)
   | (with_reducible exact R2_ClosedZone.mono _ _ _)
   | (with_reducible exact R2_HasZone.mono _ _ _ _)
   | (with_reducible exact R2_ZoneError.mono _ _ _)
   | (with_reducible exact LeO.refl _)
   | (with_reducible exact LeO.none _)
   | (with_reducible refine LeO.ite ?_ ?_)
   | (with_reducible refine LeO.bind ?_ (fun _ => ?_))
   | exact ih0 _ _ _ _ _
   | exact ih1 _ _ _ _ _ _ _ _ _ _ _ _
   | exact ih2 _ _ _ _ _ _ _ _ _ _ _
   | exact ih3 _ _ _ _ _ _ _ _ _ _ _ _
   | exact ih4 _ _ _ _ _ _ _ _ _ _ _ _ _
   | exact ih5 _ _ _ _ _ _ _ _ _ _ _
   | exact ih6 _ _ _ _ _ _ _ _
   | exact L2_free.mono _
   | exact L2_isZone.mono _ _ _ _ _
   | exact L2_near.mono _ _
   | exact L2_zoneOf.mono _ _ _
   | exact R2_ClosedZone.mono _ _ _
   | exact R2_HasZone.mono _ _ _ _
   | exact R2_ZoneError.mono _ _ _
   | exact LeO.none _
   | refine LeO.ite ?_ ?_
   | refine LeO.bind ?_ (fun _ => ?_)
  intro y0 y1 y2 y3 y4 y5 y6 y7
  unfold L2_ZoneClose.j6
  repeat' first
  | (with_reducible exact ih0 _ _ _ _ _)
  | (with_reducible exact ih1 _ _ _ _ _ _ _ _ _ _ _ _)
  | (with_reducible exact ih2 _ _ _ _ _ _ _ _ _ _ _)
  | (with_reducible exact ih3 _ _ _ _ _ _ _ _ _ _ _ _)
  | (with_reducible exact ih4 _ _ _ _ _ _ _ _ _ _ _ _ _)
  | (with_reducible exact ih5 _ _ _ _ _ _ _ _ _ _ _)
  | (with_reducible exact ih6 _ _ _ _ _ _ _ _)
  | (with_reducible exact L2_free.mono _)
  | (with_reducible exact L2_isZone.mono _ _ _ _ _)
  | (with_reducible exact L2_near.mono _ _)
  | (with_reducible exact L2_zoneOf.mono _ _ _)
  | (with_reducible exact R2_ClosedZone.mono _ _ _)
  | (with_reducible exact R2_HasZone.mono _ _ _ _)
  | (with_reducible exact R2_ZoneError.mono _ _ _)
  | (with_reducible exact LeO.refl _)
  | (with_reducible exact LeO.none _)
  | (with_reducible refine LeO.ite ?_ ?_)
  | (with_reducible refine LeO.bind ?_ (fun _ => ?_))
  | exact ih0 _ _ _ _ _
  | exact ih1 _ _ _ _ _ _ _ _ _ _ _ _
  | exact ih2 _ _ _ _ _ _ _ _ _ _ _
  | exact ih3 _ _ _ _ _ _ _ _ _ _ _ _
  | exact ih4 _ _ _ _ _ _ _ _ _ _ _ _ _
  | exact ih5 _ _ _ _ _ _ _ _ _ _ _
  | exact ih6 _ _ _ _ _ _ _ _
  | exact L2_free.mono _
  | exact L2_isZone.mono _ _ _ _ _
  | exact L2_near.mono _ _
  | exact L2_zoneOf.mono _ _ _
  | exact R2_ClosedZone.mono _ _ _
  | exact R2_HasZone.mono _ _ _ _
  | exact R2_ZoneError.mono _ _ _
  | exact LeO.none _
  | refine LeO.ite ?_ ?_
  | refine LeO.bind ?_ (fun _ => ?_)
theorem L2_ZoneClose.mono : ∀ a0 a1 a2 k, LeO (L2_ZoneClose.f k a0 a1 a2) (L2_ZoneClose.f (k + 1) a0 a1 a2) := by
 intro a0 a1 a2 k
 obtain ⟨ih0, ih1, ih2, ih3, ih4, ih5, ih6⟩ := L2_ZoneClose.mono_l k
 unfold L2_ZoneClose.f
 repeat' first
   | (with_reducible exact ih0 _ _ _ _ _)
   | (with_reducible exact ih1 _ _ _ _ _ _ _ _ _ _ _ _)
   | (with_reducible exact ih2 _ _ _ _ _ _ _ _ _ _ _)
   | (with_reducible exact ih3 _ _ _ _ _ _ _ _ _ _ _ _)
   | (with_reducible exact ih4 _ _ _ _ _ _ _ _ _ _ _ _ _)
   | (with_reducible exact ih5 _ _ _ _ _ _ _ _ _ _ _)
   | (with_reducible exact ih6 _ _ _ _ _ _ _ _)
   | (with_reducible exact L2_free.mono _)
   | (with_reducible exact L2_isZone.mono _ _ _ _ _)
   | (with_reducible exact L2_near.mono _ _)
   | (with_reducible exact L2_zoneOf.mono _ _ _)
   | (with_reducible exact R2_ClosedZone.mono _ _ _)
   | (with_reducible exact R2_HasZone.mono _ _ _ _)
   | (with_reducible exact R2_ZoneError.mono _ _ _)
   | (with_reducible exact LeO.refl _)
   | (with_reducible exact LeO.none _)
   | (with_reducible refine LeO.ite ?_ ?_)
   | (with_reducible refine LeO.bind ?_ (fun _ => ?_))
   | exact ih0 _ _ _ _ _
   | exact ih1 _ _ _ _ _ _ _ _ _ _ _ _
   | exact ih2 _ _ _ _ _ _ _ _ _ _ _
   | exact ih3 _ _ _ _ _ _ _ _ _ _ _ _
   | exact ih4 _ _ _ _ _ _ _ _ _ _ _ _ _
   | exact ih5 _ _ _ _ _ _ _ _ _ _ _
   | exact ih6 _ _ _ _ _ _ _ _
   | exact L2_free.mono _
   | exact L2_isZone.mono _ _ _ _ _
   | exact L2_near.mono _ _
   | exact L2_zoneOf.mono _ _ _
   | exact R2_ClosedZone.mono _ _ _
   | exact R2_HasZone.mono _ _ _ _
   | exact R2_ZoneError.mono _ _ _
   | exact LeO.none _
   | refine LeO.ite ?_ ?_
   | refine LeO.bind ?_ (fun _ => ?_)
set_option maxHeartbeats 8000000 in
set_option maxRecDepth 100000 in
theorem L2_ZoneClose.calls [EA] (k : Nat) (a0_0 : Int) (A0_1 : Option Addr) (c0_1 : Nat) (l0_1 : List (S67)) (A1 : Option Addr) (c1 : Nat) (l1 : List Int) (r : Bool) (w : World) (hr0_1 : Kd.C k67 w A0_1 l0_1.length l0_1) (hc0_1 : l0_1.length ≤ c0_1) (hr1 : Kd.C (Kd.int .i64) w A1 l1.length l1) (hc1 : l1.length ≤ c1) (h : L2_ZoneClose.f k a0_0 l0_1 l1 = some r) (h2_ : ErrAt 2 1 w) (h3_ : ErrAt 3 0 w) (h9_ : ErrAll w) :
  Calls Tryd.prog 3 #[.agg #[.int .i64 a0_0, .slice A0_1 l0_1.length c0_1], .slice A1 l1.length c1] w fun e w' => e = .returned (.bool r) ∧ Below w.heap.size w w' := by
 have hE2 := am h2_
 clear h2_
 have hE3 := am h3_
 clear h3_
 have hE9 := am h9_
 clear h9_
 have hu24 := Tryd.underlying24
 have hu30 := Tryd.underlying30
 have hu32 := Tryd.underlying32
 have HR0_1 := am hr0_1
 have HC0_1 := am hc0_1
 clear hr0_1 hc0_1
 have HR1 := am hr1
 have HC1 := am hc1
 clear hr1 hc1
 have HB := am (Below.refl w.heap.size w)
 have H : ((L2_free.f k).bind fun t204 => (if t204 = true then (if (l0_1.length : Int) > 100 then (L2_ZoneClose.j0 k l1 t204 true a0_0 l0_1) else (L2_ZoneClose.j0 k l1 t204 (decide ((l1.length : Int) > 100)) a0_0 l0_1)) else (L2_ZoneClose.j0 k l1 t204 true a0_0 l0_1))) = some r := h
 clear h
 replace H := Option.bind_eq_some_iff.mp H
 obtain ⟨t204, A30, H⟩ := H
 replace H : (if t204 = true then (if (l0_1.length : Int) > 100 then (L2_ZoneClose.j0 k l1 t204 true a0_0 l0_1) else (L2_ZoneClose.j0 k l1 t204 (decide ((l1.length : Int) > 100)) a0_0 l0_1)) else (L2_ZoneClose.j0 k l1 t204 true a0_0 l0_1)) = some r := H
 have A3 := am A30
 clear A30
 have HC4 := am H
 clear H
 go_enter Tryd.func3, Tryd.ntmps3
 go_upto_region 2 with (first | ((with_reducible refine gate_dst (N := 2) rfl ?_); (try (refine gate_guard (by rfl) ?_; dsimp only)); refine box_event ?hg (N := 2) ?hd (cs := #[.int .i64 a0_0, .slice A0_1 l0_1.length c0_1]) (t := 24) ?hr ?_; (case hd => rfl); (case hg => rfl); (case hr => first | (go_simp; done) | (go_simp; rfl)); intro gb203 hg w5 hbox hb; have n0_ := am (below_step pw hb); have n1_ := am (hbox); have n2_ := am ((by rw [hg]; exact (below_size pw) : w.heap.size ≤ gb203)); have n3_ := am ((by rw [hg]; exact (below_size pw) : w.heap.size ≤ gb203)); clear HB; have HB := n0_; have BK203 := n1_; have GW203 := n2_; have GE203 := n3_; clear n0_ n1_ n2_ n3_; clear hb hbox hg) | ((with_reducible refine gate_callee (f := 14) rfl ?_); refine goesL_ (some 17) rfl rfl Tryd.func14 kk rfl #[] rfl (by (try simp only [List.map_toArray, List.map_cons, List.map_nil]); first | done | rfl | (simp only [List.length_drop, List.length_take]; rfl)) ?_; (with_reducible refine (L2_free.calls k  t204 _ A3.out (am (ErrAt.below hE2.out pw)).out (am (ErrAt.below hE3.out pw)).out).mono ?_); rintro e w6 ⟨rfl, hb⟩; refine ⟨_, rfl, ?_⟩; have n0_ := bb BK203 hb; have n1_ := am (below_step pw hb); clear BK203; clear HB; have BK203 := n0_; have HB := n1_; clear n0_ n1_; (try clear hb); (try clear hb2); (try clear hk); (try clear hi)))
 (try simp only [Act.put, List.setIfInBounds_toArray, List.set_cons_zero, List.set_cons_succ])
 go_cut [30] (fun v30 wc => ∃ (kq : Nat) (x30_3 : Bool), v30 = .bool x30_3 ∧ Aside0 (L2_ZoneClose.j0 kq l1 t204 x30_3 a0_0 l0_1 = some r) ∧ Aside0 (kq ≤ k) ∧ Aside0 (wc.heap[gb203]? = some (.cells #[.int .i64 a0_0, (.slice A0_1 l0_1.length c0_1)] 24 (0, 0))) ∧ Aside0 (Below w.heap.size w wc))
 case first =>
  have H := HC4.out
  clear HC4
  by_cases c7 : t204 = true
  ·subst c7
   have H1 : (if (l0_1.length : Int) > 100 then (L2_ZoneClose.j0 k l1 true true a0_0 l0_1) else (L2_ZoneClose.j0 k l1 true (decide ((l1.length : Int) > 100)) a0_0 l0_1)) = some r := by rw [if_pos rfl] at H; exact H
   clear H
   have H := H1
   clear H1
   by_cases c8 : (l0_1.length : Int) > 100
   ·rw [if_pos c8] at H
    have c8b0 : decide (100 < (l0_1.length : Int)) = true := decide_eq_true c8
    have c8b1 : decide (100 < l0_1.length) = true := decide_eq_true (by omega)
    clear c8
    (first | rw [c8b0] | (simp only [i64_w, i32_w]; rw [c8b0]) | skip)
    as_aux_lemma =>
     have H' := am H
     clear H
     have hcz9_0 : w6.cell? ⟨gb203, 0, none⟩ = some (.int .i64 a0_0) := bc BK203 0
     have hcz9_1 : w6.cell? ⟨gb203, 1, none⟩ = some (.slice A0_1 l0_1.length c0_1) := bc BK203 1
     have hfz9_0 := blk_frozen BK203.out 0
     have hfz9_1 := blk_frozen BK203.out 1
     go_wp2
     go_meet
     case rel => exact ⟨_, (true), pr, H', ⟨by first | omega | exact Nat.le_refl _⟩, ⟨pk⟩, ⟨pw⟩⟩
   rw [if_neg c8] at H
   have c8b0 : decide (100 < (l0_1.length : Int)) = false := decide_eq_false c8
   have c8b1 : decide (100 < l0_1.length) = false := decide_eq_false (by omega)
   clear c8
   (first | rw [c8b0] | (simp only [i64_w, i32_w]; rw [c8b0]) | skip)
   as_aux_lemma =>
    have H' := am H
    clear H
    have hcz10_0 : w6.cell? ⟨gb203, 0, none⟩ = some (.int .i64 a0_0) := bc BK203 0
    have hcz10_1 : w6.cell? ⟨gb203, 1, none⟩ = some (.slice A0_1 l0_1.length c0_1) := bc BK203 1
    have hfz10_0 := blk_frozen BK203.out 0
    have hfz10_1 := blk_frozen BK203.out 1
    go_wp2
    go_meet
    case rel => exact ⟨_, (decide ((l1.length : Int) > 100)), pr, H', ⟨by first | omega | exact Nat.le_refl _⟩, ⟨pk⟩, ⟨pw⟩⟩
  replace c7 := Bool.eq_false_iff.mpr c7
  subst c7
  have H1 : (L2_ZoneClose.j0 k l1 false true a0_0 l0_1) = some r := by rw [if_neg (show ¬ (false = true) by decide)] at H; exact H
  clear H
  have H := H1
  clear H1
  as_aux_lemma =>
   have H' := am H
   clear H
   go_wp2
   go_meet
   case rel => exact ⟨_, (true), pr, H', ⟨by first | omega | exact Nat.le_refl _⟩, ⟨pk⟩, ⟨pw⟩⟩
 as_aux_lemma =>
 clear HC4
 try clear c1
 try clear p2
 try clear c3
 try clear c7
 try clear c8
 try clear c8b0
 try clear c8b1
 try clear hcz10_0
 try clear hcz10_1
 try clear hcz9_0
 try clear hcz9_1
 try clear hfz10_0
 try clear hfz10_1
 try clear hfz9_0
 try clear hfz9_1
 obtain ⟨kq, x30_3, rfl, HA, HJ3, BK203, HB⟩ := hcut
 cases kq with
 | zero => exact absurd HA.out (by simp [L2_ZoneClose.j0])
 | succ kj3 =>
  have H := HA.out
  clear HA
  simp only [L2_ZoneClose.j0] at H
  by_cases c11 : x30_3 = true
  ·subst c11
   have H1 : (some t204) = some r := by rw [if_pos rfl] at H; exact H
   clear H
   have H := H1
   clear H1
   as_aux_lemma =>
    obtain rfl := Option.some.inj H
    go_wp2
    go_ret
    exact ⟨pe, pw⟩
  replace c11 := Bool.eq_false_iff.mpr c11
  subst c11
  have H1 : ((R2_ZoneError.f kj3 a0_0 l0_1).bind fun t205 => ((L2_zoneOf.f kj3 a0_0 l0_1).bind fun bt206 => ((zone_Close.f bt206.1 bt206.2).bind fun bt210 => ((L2_zoneOf.f kj3 a0_0 l0_1).bind fun bt217 => ((L2_ints.f l1).bind fun t221 => ((zone_Has.f bt217.1 bt217.2 t221).bind fun bt224 => ((L2_zoneOf.f kj3 a0_0 l0_1).bind fun bt226 => ((zone_Valid.f bt226.1 bt226.2).bind fun t230 => ((L2_coded.f t230 t205).bind fun t231 => (if t231 = true then (if t205 = 0 then (L2_ZoneClose.j1 kj3 l1 t205 bt210.2.2.1 bt210.2.2.2 bt224.1 bt224.2 t205 ((l1.length : Int) != a0_0) a0_0 l0_1 bt210.1 bt210.2.1) else (L2_ZoneClose.j1 kj3 l1 t205 bt210.2.2.1 bt210.2.2.2 bt224.1 bt224.2 t205 false a0_0 l0_1 bt210.1 bt210.2.1)) else (none))))))))))) = some r := by rw [if_neg (show ¬ (false = true) by decide)] at H; exact H
  clear H
  have H := H1
  clear H1
  replace H := Option.bind_eq_some_iff.mp H
  obtain ⟨t205, A120, H⟩ := H
  replace H : ((L2_zoneOf.f kj3 a0_0 l0_1).bind fun bt206 => ((zone_Close.f bt206.1 bt206.2).bind fun bt210 => ((L2_zoneOf.f kj3 a0_0 l0_1).bind fun bt217 => ((L2_ints.f l1).bind fun t221 => ((zone_Has.f bt217.1 bt217.2 t221).bind fun bt224 => ((L2_zoneOf.f kj3 a0_0 l0_1).bind fun bt226 => ((zone_Valid.f bt226.1 bt226.2).bind fun t230 => ((L2_coded.f t230 t205).bind fun t231 => (if t231 = true then (if t205 = 0 then (L2_ZoneClose.j1 kj3 l1 t205 bt210.2.2.1 bt210.2.2.2 bt224.1 bt224.2 t205 ((l1.length : Int) != a0_0) a0_0 l0_1 bt210.1 bt210.2.1) else (L2_ZoneClose.j1 kj3 l1 t205 bt210.2.2.1 bt210.2.2.2 bt224.1 bt224.2 t205 false a0_0 l0_1 bt210.1 bt210.2.1)) else (none)))))))))) = some r := H
  have A12 := am A120
  clear A120
  replace H := Option.bind_eq_some_iff.mp H
  obtain ⟨⟨t206, t207⟩, A130, H⟩ := H
  replace H : ((zone_Close.f t206 t207).bind fun bt210 => ((L2_zoneOf.f kj3 a0_0 l0_1).bind fun bt217 => ((L2_ints.f l1).bind fun t221 => ((zone_Has.f bt217.1 bt217.2 t221).bind fun bt224 => ((L2_zoneOf.f kj3 a0_0 l0_1).bind fun bt226 => ((zone_Valid.f bt226.1 bt226.2).bind fun t230 => ((L2_coded.f t230 t205).bind fun t231 => (if t231 = true then (if t205 = 0 then (L2_ZoneClose.j1 kj3 l1 t205 bt210.2.2.1 bt210.2.2.2 bt224.1 bt224.2 t205 ((l1.length : Int) != a0_0) a0_0 l0_1 bt210.1 bt210.2.1) else (L2_ZoneClose.j1 kj3 l1 t205 bt210.2.2.1 bt210.2.2.2 bt224.1 bt224.2 t205 false a0_0 l0_1 bt210.1 bt210.2.1)) else (none))))))))) = some r := H
  have A13 := am A130
  clear A130
  replace H := Option.bind_eq_some_iff.mp H
  obtain ⟨⟨t210, t211, t214, t215⟩, A140, H⟩ := H
  replace H : ((L2_zoneOf.f kj3 a0_0 l0_1).bind fun bt217 => ((L2_ints.f l1).bind fun t221 => ((zone_Has.f bt217.1 bt217.2 t221).bind fun bt224 => ((L2_zoneOf.f kj3 a0_0 l0_1).bind fun bt226 => ((zone_Valid.f bt226.1 bt226.2).bind fun t230 => ((L2_coded.f t230 t205).bind fun t231 => (if t231 = true then (if t205 = 0 then (L2_ZoneClose.j1 kj3 l1 t205 t214 t215 bt224.1 bt224.2 t205 ((l1.length : Int) != a0_0) a0_0 l0_1 t210 t211) else (L2_ZoneClose.j1 kj3 l1 t205 t214 t215 bt224.1 bt224.2 t205 false a0_0 l0_1 t210 t211)) else (none)))))))) = some r := H
  have A14 := am A140
  clear A140
  replace H := Option.bind_eq_some_iff.mp H
  obtain ⟨⟨t217, t218⟩, A150, H⟩ := H
  replace H : ((L2_ints.f l1).bind fun t221 => ((zone_Has.f t217 t218 t221).bind fun bt224 => ((L2_zoneOf.f kj3 a0_0 l0_1).bind fun bt226 => ((zone_Valid.f bt226.1 bt226.2).bind fun t230 => ((L2_coded.f t230 t205).bind fun t231 => (if t231 = true then (if t205 = 0 then (L2_ZoneClose.j1 kj3 l1 t205 t214 t215 bt224.1 bt224.2 t205 ((l1.length : Int) != a0_0) a0_0 l0_1 t210 t211) else (L2_ZoneClose.j1 kj3 l1 t205 t214 t215 bt224.1 bt224.2 t205 false a0_0 l0_1 t210 t211)) else (none))))))) = some r := H
  have A15 := am A150
  clear A150
  replace H := Option.bind_eq_some_iff.mp H
  obtain ⟨t221, A160, H⟩ := H
  replace H : ((zone_Has.f t217 t218 t221).bind fun bt224 => ((L2_zoneOf.f kj3 a0_0 l0_1).bind fun bt226 => ((zone_Valid.f bt226.1 bt226.2).bind fun t230 => ((L2_coded.f t230 t205).bind fun t231 => (if t231 = true then (if t205 = 0 then (L2_ZoneClose.j1 kj3 l1 t205 t214 t215 bt224.1 bt224.2 t205 ((l1.length : Int) != a0_0) a0_0 l0_1 t210 t211) else (L2_ZoneClose.j1 kj3 l1 t205 t214 t215 bt224.1 bt224.2 t205 false a0_0 l0_1 t210 t211)) else (none)))))) = some r := H
  have A16 := am A160
  clear A160
  replace H := Option.bind_eq_some_iff.mp H
  obtain ⟨⟨t224, t225⟩, A170, H⟩ := H
  replace H : ((L2_zoneOf.f kj3 a0_0 l0_1).bind fun bt226 => ((zone_Valid.f bt226.1 bt226.2).bind fun t230 => ((L2_coded.f t230 t205).bind fun t231 => (if t231 = true then (if t205 = 0 then (L2_ZoneClose.j1 kj3 l1 t205 t214 t215 t224 t225 t205 ((l1.length : Int) != a0_0) a0_0 l0_1 t210 t211) else (L2_ZoneClose.j1 kj3 l1 t205 t214 t215 t224 t225 t205 false a0_0 l0_1 t210 t211)) else (none))))) = some r := H
  have A17 := am A170
  clear A170
  replace H := Option.bind_eq_some_iff.mp H
  obtain ⟨⟨t226, t227⟩, A180, H⟩ := H
  replace H : ((zone_Valid.f t226 t227).bind fun t230 => ((L2_coded.f t230 t205).bind fun t231 => (if t231 = true then (if t205 = 0 then (L2_ZoneClose.j1 kj3 l1 t205 t214 t215 t224 t225 t205 ((l1.length : Int) != a0_0) a0_0 l0_1 t210 t211) else (L2_ZoneClose.j1 kj3 l1 t205 t214 t215 t224 t225 t205 false a0_0 l0_1 t210 t211)) else (none)))) = some r := H
  have A18 := am A180
  clear A180
  replace H := Option.bind_eq_some_iff.mp H
  obtain ⟨t230, A190, H⟩ := H
  replace H : ((L2_coded.f t230 t205).bind fun t231 => (if t231 = true then (if t205 = 0 then (L2_ZoneClose.j1 kj3 l1 t205 t214 t215 t224 t225 t205 ((l1.length : Int) != a0_0) a0_0 l0_1 t210 t211) else (L2_ZoneClose.j1 kj3 l1 t205 t214 t215 t224 t225 t205 false a0_0 l0_1 t210 t211)) else (none))) = some r := H
  have A19 := am A190
  clear A190
  replace H := Option.bind_eq_some_iff.mp H
  obtain ⟨t231, A200, H⟩ := H
  replace H : (if t231 = true then (if t205 = 0 then (L2_ZoneClose.j1 kj3 l1 t205 t214 t215 t224 t225 t205 ((l1.length : Int) != a0_0) a0_0 l0_1 t210 t211) else (L2_ZoneClose.j1 kj3 l1 t205 t214 t215 t224 t225 t205 false a0_0 l0_1 t210 t211)) else (none)) = some r := H
  have A20 := am A200
  clear A200
  by_cases c21 : t231 = true
  ·subst c21
   have H1 : (if t205 = 0 then (L2_ZoneClose.j1 kj3 l1 t205 t214 t215 t224 t225 t205 ((l1.length : Int) != a0_0) a0_0 l0_1 t210 t211) else (L2_ZoneClose.j1 kj3 l1 t205 t214 t215 t224 t225 t205 false a0_0 l0_1 t210 t211)) = some r := by rw [if_pos rfl] at H; exact H
   clear H
   have H := H1
   clear H1
   have HC22 := am H
   clear H
   have hcz23_0 : wc.cell? ⟨gb203, 0, none⟩ = some (.int .i64 a0_0) := bc BK203 0
   have hcz23_1 : wc.cell? ⟨gb203, 1, none⟩ = some (.slice A0_1 l0_1.length c0_1) := bc BK203 1
   have hfz23_0 := blk_frozen BK203.out 0
   have hfz23_1 := blk_frozen BK203.out 1
   go_upto_region 10 with (first | ((with_reducible refine gate_callee (f := 15) rfl ?_); refine goesL_ (some 33) rfl rfl Tryd.func15 kk rfl #[.agg #[.int .i64 a0_0, .slice A0_1 l0_1.length c0_1]] rfl (by (try simp only [List.map_toArray, List.map_cons, List.map_nil]); first | done | rfl | (simp only [List.length_drop, List.length_take]; rfl)) ?_; (with_reducible refine (R2_ZoneError.calls kj3 a0_0 _ _ l0_1 t205 _ ?side1 ?side2 A12.out).mono ?_); (case side1 => repeat (first | exact (Kd.C_below HR0_1.out HB.out) | (with_reducible refine Kd.C_alloc ?_ _) | (with_reducible refine Kd.C_drewN ?_ _) | (with_reducible refine Kd.C_drew ?_))); (case side2 => exact HC0_1.out); rintro e w24 ⟨rfl, hb⟩; refine ⟨_, rfl, ?_⟩; have n0_ := bb BK203 hb; have n1_ := am (below_step pw hb); clear BK203; clear HB; have BK203 := n0_; have HB := n1_; clear n0_ n1_; (try clear hb); (try clear hb2); (try clear hk); (try clear hi); have hcz25_0 : w24.cell? ⟨gb203, 0, none⟩ = some (.int .i64 a0_0) := bc BK203 0; have hcz25_1 : w24.cell? ⟨gb203, 1, none⟩ = some (.slice A0_1 l0_1.length c0_1) := bc BK203 1; have hfz25_0 := blk_frozen BK203.out 0; have hfz25_1 := blk_frozen BK203.out 1) | ((with_reducible refine gate_callee (f := 17) rfl ?_); refine goesL_ (some 36) rfl rfl Tryd.func17 kk rfl #[.agg #[.int .i64 a0_0, .slice A0_1 l0_1.length c0_1]] rfl (by (try simp only [List.map_toArray, List.map_cons, List.map_nil]); first | done | rfl | (simp only [List.length_drop, List.length_take]; rfl)) ?_; (with_reducible refine (L2_zoneOf.calls kj3 a0_0 _ _ l0_1 t206 t207 _ ?side1 ?side2 A13.out).mono ?_); (case side1 => repeat (first | exact (Kd.C_below HR0_1.out HB.out) | (with_reducible refine Kd.C_alloc ?_ _) | (with_reducible refine Kd.C_drewN ?_ _) | (with_reducible refine Kd.C_drew ?_))); (case side2 => exact HC0_1.out); rintro e w26 ⟨v208, rfl, ho0, hb⟩; refine ⟨_, rfl, ?_⟩; have n0_ := am (Kd.R_lower ho0 (below_size pw)); have n1_ := bb BK203 hb; have n2_ := am (below_step pw hb); clear BK203; clear HB; have HO209 := n0_; have BK203 := n1_; have HB := n2_; clear n0_ n1_ n2_; (try clear hb); (try clear hb2); (try clear hk); (try clear hi); (try clear ho0); obtain ⟨Ao27, co27, eo27⟩ := Kd.R_slice HO209.out; subst eo27) | ((with_reducible refine gate_callee (f := 16) rfl ?_); refine goesL_ (some 37) rfl rfl Tryd.func16 kk rfl #[.agg #[.int .i64 t206, .slice Ao27 t207.length co27]] rfl (by (try simp only [List.map_toArray, List.map_cons, List.map_nil]); first | done | rfl | (simp only [List.length_drop, List.length_take]; rfl)) ?_; (with_reducible refine (zone_Close.calls t206 _ _ t207 t210 t211 t214 t215 _ ?side1 ?side2 A14.out (am (ErrAt.below hE2.out pw)).out (am (ErrAt.below hE3.out pw)).out).mono ?_); (case side1 => repeat (first | exact (Kd.R_reads' HO209.out).2.2 | (with_reducible refine Kd.C_alloc ?_ _) | (with_reducible refine Kd.C_drewN ?_ _) | (with_reducible refine Kd.C_drew ?_))); (case side2 => exact (Kd.R_reads' HO209.out).2.1); rintro e w28 ⟨v212, rfl, ho0, hb⟩; refine ⟨_, rfl, ?_⟩; have n0_ := am (Kd.R_elder' (by (with_reducible repeat (first | apply Kd.R_alloc | apply Kd.R_drewN | apply Kd.R_drew)); exact HO209.out) (Kd.R_base ho0) hb); have n1_ := am (Kd.R_lower (Kd.R_new' ho0 (Kd.R_lt (by (with_reducible repeat (first | apply Kd.R_alloc | apply Kd.R_drewN | apply Kd.R_drew)); exact HO209.out))) (below_size pw)); have n2_ := bb BK203 hb; have n3_ := am (below_step pw hb); clear HO209; clear BK203; clear HB; have HO209 := n0_; have HO213 := n1_; have BK203 := n2_; have HB := n3_; clear n0_ n1_ n2_ n3_; (try clear hb); (try clear hb2); (try clear hk); (try clear hi); (try clear ho0); (try simp only [errW_none, errW_some])) | ((with_reducible refine gate_dst (N := 7) rfl ?_); (try (refine gate_guard (by rfl) ?_; dsimp only)); refine box_event ?hg (N := 7) ?hd (cs := #[.int .i64 0, .slice none 0 0]) (t := 30) ?hr ?_; (case hd => rfl); (case hg => rfl); (case hr => first | (go_simp; done) | (go_simp; rfl)); intro gb216 hg w29 hbox hb; have n0_ := am (Kd.R_below (by (with_reducible repeat (first | apply Kd.R_alloc | apply Kd.R_drewN | apply Kd.R_drew)); exact HO209.out) hb); have n1_ := am (Kd.R_below (by (with_reducible repeat (first | apply Kd.R_alloc | apply Kd.R_drewN | apply Kd.R_drew)); exact HO213.out) hb); have n2_ := bb BK203 hb; have n3_ := am (below_step pw hb); have n4_ := am (hbox); have n5_ := am ((by rw [hg]; exact (below_size pw) : w.heap.size ≤ gb216)); have n6_ := am ((by rw [hg]; exact (below_size pw) : w.heap.size ≤ gb216)); have n7_ := am ((by rw [hg]; exact Nat.ne_of_lt (blk_lt pk) : gb203 ≠ gb216)); have n8_ := am ((by rw [hg]; exact Nat.ne_of_gt (blk_lt pk) : gb216 ≠ gb203)); clear HO209; clear HO213; clear BK203; clear HB; have HO209 := n0_; have HO213 := n1_; have BK203 := n2_; have HB := n3_; have BK216 := n4_; have GW216 := n5_; have GE216 := n6_; have NB203_216 := n7_; have NB216_203 := n8_; clear n0_ n1_ n2_ n3_ n4_ n5_ n6_ n7_ n8_; clear hb hbox hg; have hnb30 := NB216_203.out; have hnc30 := NB203_216.out; have hcz31_0 : w29.cell? ⟨gb216, 0, none⟩ = some (.int .i64 0) := bc BK216 0; have hcz31_1 : w29.cell? ⟨gb216, 1, none⟩ = some (.slice none 0 0) := bc BK216 1; have hfz31_0 := blk_frozen BK216.out 0; have hfz31_1 := blk_frozen BK216.out 1; obtain ⟨Ao32, co32, eo32⟩ := Kd.R_slice HO213.out; subst eo32; have hcz33_0 : w29.cell? ⟨gb203, 0, none⟩ = some (.int .i64 a0_0) := bc BK203 0; have hcz33_1 : w29.cell? ⟨gb203, 1, none⟩ = some (.slice A0_1 l0_1.length c0_1) := bc BK203 1; have hfz33_0 := blk_frozen BK203.out 0; have hfz33_1 := blk_frozen BK203.out 1) | ((with_reducible refine gate_callee (f := 17) rfl ?_); refine goesL_ (some 43) rfl rfl Tryd.func17 kk rfl #[.agg #[.int .i64 a0_0, .slice A0_1 l0_1.length c0_1]] rfl (by (try simp only [List.map_toArray, List.map_cons, List.map_nil]); first | done | rfl | (simp only [List.length_drop, List.length_take]; rfl)) ?_; (with_reducible refine (L2_zoneOf.calls kj3 a0_0 _ _ l0_1 t217 t218 _ ?side1 ?side2 A15.out).mono ?_); (case side1 => exact Kd.C_below HR0_1.out pw); (case side2 => exact HC0_1.out); rintro e w34 ⟨v219, rfl, ho0, hb⟩; refine ⟨_, rfl, ?_⟩; have n0_ := am (Kd.R_elder' (by (with_reducible repeat (first | apply Kd.R_alloc | apply Kd.R_drewN | apply Kd.R_drew)); exact (Kd.R_mono (Kd.R_far (p := ⟨gb216, 1, none⟩) (Kd.R_far (p := ⟨gb216, 0, none⟩) (Kd.R_types HO209.out BK216.out (by decide)) (fun _ hk => hk.2) (.int .i64 t210)) (fun _ hk => hk.2) (.slice Ao32 t211.length co32)) (fun _ h_ => h_.1))) (Kd.R_base ho0) hb); have n1_ := am (Kd.R_elder' (by (with_reducible repeat (first | apply Kd.R_alloc | apply Kd.R_drewN | apply Kd.R_drew)); exact (Kd.R_mono (Kd.R_far (p := ⟨gb216, 1, none⟩) (Kd.R_far (p := ⟨gb216, 0, none⟩) (Kd.R_types HO213.out BK216.out (by decide)) (fun _ hk => hk.2) (.int .i64 t210)) (fun _ hk => hk.2) (.slice Ao32 t211.length co32)) (fun _ h_ => h_.1))) (Kd.R_base ho0) hb); have n2_ := am (Kd.R_lower (Kd.R_new' (Kd.R_new' ho0 (Kd.R_lt (by (with_reducible repeat (first | apply Kd.R_alloc | apply Kd.R_drewN | apply Kd.R_drew)); exact (Kd.R_mono (Kd.R_far (p := ⟨gb216, 1, none⟩) (Kd.R_far (p := ⟨gb216, 0, none⟩) (Kd.R_types HO209.out BK216.out (by decide)) (fun _ hk => hk.2) (.int .i64 t210)) (fun _ hk => hk.2) (.slice Ao32 t211.length co32)) (fun _ h_ => h_.1))))) (Kd.R_lt (by (with_reducible repeat (first | apply Kd.R_alloc | apply Kd.R_drewN | apply Kd.R_drew)); exact (Kd.R_mono (Kd.R_far (p := ⟨gb216, 1, none⟩) (Kd.R_far (p := ⟨gb216, 0, none⟩) (Kd.R_types HO213.out BK216.out (by decide)) (fun _ hk => hk.2) (.int .i64 t210)) (fun _ hk => hk.2) (.slice Ao32 t211.length co32)) (fun _ h_ => h_.1))))) (below_size pw)); have n3_ := am (blk_below (g := gb203) (o := .cells #[.int .i64 a0_0, .slice A0_1 l0_1.length c0_1] 24 (0, 0)) (by (with_reducible repeat (first | refine blk_drewN ?_ _ | refine blk_drew ?_ | refine blk_alloc ?_ _)); refine blk_far ?_ NB203_216.out _; (with_reducible repeat (first | refine blk_drewN ?_ _ | refine blk_drew ?_ | refine blk_alloc ?_ _)); refine blk_far ?_ NB203_216.out _; (with_reducible repeat (first | refine blk_drewN ?_ _ | refine blk_drew ?_ | refine blk_alloc ?_ _)); exact BK203.out) hb); have n4_ := am (blk_below (g := gb216) (o := .cells #[.int .i64 t210, .slice Ao32 t211.length co32] 30 (0, 0)) (by (with_reducible repeat (first | refine blk_drewN ?_ _ | refine blk_drew ?_ | refine blk_alloc ?_ _)); refine blk_put (cs := #[.int .i64 t210, .slice none 0 0]) ?_ 1 _ rfl; (with_reducible repeat (first | refine blk_drewN ?_ _ | refine blk_drew ?_ | refine blk_alloc ?_ _)); refine blk_put (cs := #[.int .i64 0, .slice none 0 0]) ?_ 0 _ rfl; (with_reducible repeat (first | refine blk_drewN ?_ _ | refine blk_drew ?_ | refine blk_alloc ?_ _)); exact BK216.out) hb); have n5_ := am (below_step pw hb); clear HO209; clear HO213; clear BK203; clear BK216; clear HB; have HO209 := n0_; have HO213 := n1_; have HO220 := n2_; have BK203 := n3_; have BK216 := n4_; have HB := n5_; clear n0_ n1_ n2_ n3_ n4_ n5_; (try clear hb); (try clear hb2); (try clear hk); (try clear hi); (try clear ho0)) | ((with_reducible refine gate_callee (f := 19) rfl ?_); refine goesL_ (some 45) rfl rfl Tryd.func19 kk rfl #[.slice A1 l1.length c1] rfl (by (try simp only [List.map_toArray, List.map_cons, List.map_nil]); first | done | rfl | (simp only [List.length_drop, List.length_take]; rfl)) ?_; (with_reducible refine (L2_ints.calls _ _ l1 t221 _ ?side1 ?side2 A16.out).mono ?_); (case side1 => repeat (first | exact (Kd.C_below HR1.out HB.out) | (with_reducible refine Kd.C_alloc ?_ _) | (with_reducible refine Kd.C_drewN ?_ _) | (with_reducible refine Kd.C_drew ?_))); (case side2 => exact HC1.out); rintro e w35 ⟨v222, rfl, ho0, hb⟩; refine ⟨_, rfl, ?_⟩; have n0_ := am (Kd.R_below (by (with_reducible repeat (first | apply Kd.R_alloc | apply Kd.R_drewN | apply Kd.R_drew)); exact HO209.out) hb); have n1_ := am (Kd.R_below (by (with_reducible repeat (first | apply Kd.R_alloc | apply Kd.R_drewN | apply Kd.R_drew)); exact HO213.out) hb); have n2_ := am (Kd.R_below (by (with_reducible repeat (first | apply Kd.R_alloc | apply Kd.R_drewN | apply Kd.R_drew)); exact HO220.out) hb); have n3_ := am (Kd.R_lower ho0 (below_size pw)); have n4_ := bb BK203 hb; have n5_ := bb BK216 hb; have n6_ := am (below_step pw hb); clear HO209; clear HO213; clear HO220; clear BK203; clear BK216; clear HB; have HO209 := n0_; have HO213 := n1_; have HO220 := n2_; have HO223 := n3_; have BK203 := n4_; have BK216 := n5_; have HB := n6_; clear n0_ n1_ n2_ n3_ n4_ n5_ n6_; (try clear hb); (try clear hb2); (try clear hk); (try clear hi); (try clear ho0); obtain ⟨Ao36, co36, eo36⟩ := Kd.R_slice HO220.out; subst eo36; obtain ⟨Ao37, co37, eo37⟩ := Kd.R_slice HO223.out; subst eo37) | ((with_reducible refine gate_callee (f := 18) rfl ?_); refine goesL_ (some 46) rfl rfl Tryd.func18 kk rfl #[.agg #[.int .i64 t217, .slice Ao36 t218.length co36], .slice Ao37 t221.length co37] rfl (by (try simp only [List.map_toArray, List.map_cons, List.map_nil]); first | done | rfl | (simp only [List.length_drop, List.length_take]; rfl)) ?_; (with_reducible refine (zone_Has.calls t217 _ _ t218 _ _ t221 t224 t225 _ ?side1 ?side2 ?side3 ?side4 A17.out (am (ErrAt.below hE2.out pw)).out (am (ErrAt.below hE3.out pw)).out).mono ?_); (case side1 => repeat (first | exact (Kd.R_reads' HO220.out).2.2 | (with_reducible refine Kd.C_alloc ?_ _) | (with_reducible refine Kd.C_drewN ?_ _) | (with_reducible refine Kd.C_drew ?_))); (case side2 => exact (Kd.R_reads' HO220.out).2.1); (case side3 => repeat (first | exact (Kd.R_reads' HO223.out).2.2 | (with_reducible refine Kd.C_alloc ?_ _) | (with_reducible refine Kd.C_drewN ?_ _) | (with_reducible refine Kd.C_drew ?_))); (case side4 => exact (Kd.R_reads' HO223.out).2.1); rintro e w38 ⟨rfl, hb⟩; refine ⟨_, rfl, ?_⟩; have n0_ := am (Kd.R_below (by (with_reducible repeat (first | apply Kd.R_alloc | apply Kd.R_drewN | apply Kd.R_drew)); exact HO209.out) hb); have n1_ := am (Kd.R_below (by (with_reducible repeat (first | apply Kd.R_alloc | apply Kd.R_drewN | apply Kd.R_drew)); exact HO213.out) hb); have n2_ := am (Kd.R_below (by (with_reducible repeat (first | apply Kd.R_alloc | apply Kd.R_drewN | apply Kd.R_drew)); exact HO220.out) hb); have n3_ := am (Kd.R_below (by (with_reducible repeat (first | apply Kd.R_alloc | apply Kd.R_drewN | apply Kd.R_drew)); exact HO223.out) hb); have n4_ := bb BK203 hb; have n5_ := bb BK216 hb; have n6_ := am (below_step pw hb); clear HO209; clear HO213; clear HO220; clear HO223; clear BK203; clear BK216; clear HB; have HO209 := n0_; have HO213 := n1_; have HO220 := n2_; have HO223 := n3_; have BK203 := n4_; have BK216 := n5_; have HB := n6_; clear n0_ n1_ n2_ n3_ n4_ n5_ n6_; (try clear hb); (try clear hb2); (try clear hk); (try clear hi); (try simp only [errW_none, errW_some]); have hcz39_0 : w38.cell? ⟨gb203, 0, none⟩ = some (.int .i64 a0_0) := bc BK203 0; have hcz39_1 : w38.cell? ⟨gb203, 1, none⟩ = some (.slice A0_1 l0_1.length c0_1) := bc BK203 1; have hfz39_0 := blk_frozen BK203.out 0; have hfz39_1 := blk_frozen BK203.out 1) | ((with_reducible refine gate_callee (f := 17) rfl ?_); refine goesL_ (some 50) rfl rfl Tryd.func17 kk rfl #[.agg #[.int .i64 a0_0, .slice A0_1 l0_1.length c0_1]] rfl (by (try simp only [List.map_toArray, List.map_cons, List.map_nil]); first | done | rfl | (simp only [List.length_drop, List.length_take]; rfl)) ?_; (with_reducible refine (L2_zoneOf.calls kj3 a0_0 _ _ l0_1 t226 t227 _ ?side1 ?side2 A18.out).mono ?_); (case side1 => repeat (first | exact (Kd.C_below HR0_1.out HB.out) | (with_reducible refine Kd.C_alloc ?_ _) | (with_reducible refine Kd.C_drewN ?_ _) | (with_reducible refine Kd.C_drew ?_))); (case side2 => exact HC0_1.out); rintro e w40 ⟨v228, rfl, ho0, hb⟩; refine ⟨_, rfl, ?_⟩; have n0_ := am (Kd.R_elder' (by (with_reducible repeat (first | apply Kd.R_alloc | apply Kd.R_drewN | apply Kd.R_drew)); exact HO209.out) (Kd.R_base ho0) hb); have n1_ := am (Kd.R_elder' (by (with_reducible repeat (first | apply Kd.R_alloc | apply Kd.R_drewN | apply Kd.R_drew)); exact HO213.out) (Kd.R_base ho0) hb); have n2_ := am (Kd.R_elder' (by (with_reducible repeat (first | apply Kd.R_alloc | apply Kd.R_drewN | apply Kd.R_drew)); exact HO220.out) (Kd.R_base ho0) hb); have n3_ := am (Kd.R_below (by (with_reducible repeat (first | apply Kd.R_alloc | apply Kd.R_drewN | apply Kd.R_drew)); exact HO223.out) hb); have n4_ := am (Kd.R_lower (Kd.R_new' (Kd.R_new' (Kd.R_new' ho0 (Kd.R_lt (by (with_reducible repeat (first | apply Kd.R_alloc | apply Kd.R_drewN | apply Kd.R_drew)); exact HO209.out))) (Kd.R_lt (by (with_reducible repeat (first | apply Kd.R_alloc | apply Kd.R_drewN | apply Kd.R_drew)); exact HO213.out))) (Kd.R_lt (by (with_reducible repeat (first | apply Kd.R_alloc | apply Kd.R_drewN | apply Kd.R_drew)); exact HO220.out))) (below_size pw)); have n5_ := bb BK203 hb; have n6_ := bb BK216 hb; have n7_ := am (below_step pw hb); clear HO209; clear HO213; clear HO220; clear HO223; clear BK203; clear BK216; clear HB; have HO209 := n0_; have HO213 := n1_; have HO220 := n2_; have HO223 := n3_; have HO229 := n4_; have BK203 := n5_; have BK216 := n6_; have HB := n7_; clear n0_ n1_ n2_ n3_ n4_ n5_ n6_ n7_; (try clear hb); (try clear hb2); (try clear hk); (try clear hi); (try clear ho0); obtain ⟨Ao41, co41, eo41⟩ := Kd.R_slice HO229.out; subst eo41) | ((with_reducible refine gate_callee (f := 21) rfl ?_); refine goesL_ (some 51) rfl rfl Tryd.func21 kk rfl #[.agg #[.int .i64 t226, .slice Ao41 t227.length co41]] rfl (by (try simp only [List.map_toArray, List.map_cons, List.map_nil]); first | done | rfl | (simp only [List.length_drop, List.length_take]; rfl)) ?_; (with_reducible refine (zone_Valid.calls t226 _ _ t227 t230 _ ?side1 ?side2 A19.out (am (ErrAt.below hE2.out pw)).out (am (ErrAt.below hE3.out pw)).out).mono ?_); (case side1 => repeat (first | exact (Kd.R_reads' HO229.out).2.2 | (with_reducible refine Kd.C_alloc ?_ _) | (with_reducible refine Kd.C_drewN ?_ _) | (with_reducible refine Kd.C_drew ?_))); (case side2 => exact (Kd.R_reads' HO229.out).2.1); rintro e w42 ⟨rfl, hb⟩; refine ⟨_, rfl, ?_⟩; have n0_ := am (Kd.R_below (by (with_reducible repeat (first | apply Kd.R_alloc | apply Kd.R_drewN | apply Kd.R_drew)); exact HO209.out) hb); have n1_ := am (Kd.R_below (by (with_reducible repeat (first | apply Kd.R_alloc | apply Kd.R_drewN | apply Kd.R_drew)); exact HO213.out) hb); have n2_ := am (Kd.R_below (by (with_reducible repeat (first | apply Kd.R_alloc | apply Kd.R_drewN | apply Kd.R_drew)); exact HO220.out) hb); have n3_ := am (Kd.R_below (by (with_reducible repeat (first | apply Kd.R_alloc | apply Kd.R_drewN | apply Kd.R_drew)); exact HO223.out) hb); have n4_ := am (Kd.R_below (by (with_reducible repeat (first | apply Kd.R_alloc | apply Kd.R_drewN | apply Kd.R_drew)); exact HO229.out) hb); have n5_ := bb BK203 hb; have n6_ := bb BK216 hb; have n7_ := am (below_step pw hb); clear HO209; clear HO213; clear HO220; clear HO223; clear HO229; clear BK203; clear BK216; clear HB; have HO209 := n0_; have HO213 := n1_; have HO220 := n2_; have HO223 := n3_; have HO229 := n4_; have BK203 := n5_; have BK216 := n6_; have HB := n7_; clear n0_ n1_ n2_ n3_ n4_ n5_ n6_ n7_; (try clear hb); (try clear hb2); (try clear hk); (try clear hi); (try simp only [errW_none, errW_some]); have CA20 := fun (W : World) (hE9_ : ErrAll W) => L2_coded.calls t230 t205 true W A20.out hE9_; try simp only [errW_none, errW_some] at CA20) | (go_at_call 20; (with_reducible refine (CA20 _ (ErrAll.below hE9.out pw)).mono ?_); rintro e w43 ⟨rfl, hb⟩; have n0_ := am (Kd.R_below (by (with_reducible repeat (first | apply Kd.R_alloc | apply Kd.R_drewN | apply Kd.R_drew)); exact HO209.out) hb); have n1_ := am (Kd.R_below (by (with_reducible repeat (first | apply Kd.R_alloc | apply Kd.R_drewN | apply Kd.R_drew)); exact HO213.out) hb); have n2_ := am (Kd.R_below (by (with_reducible repeat (first | apply Kd.R_alloc | apply Kd.R_drewN | apply Kd.R_drew)); exact HO220.out) hb); have n3_ := am (Kd.R_below (by (with_reducible repeat (first | apply Kd.R_alloc | apply Kd.R_drewN | apply Kd.R_drew)); exact HO223.out) hb); have n4_ := am (Kd.R_below (by (with_reducible repeat (first | apply Kd.R_alloc | apply Kd.R_drewN | apply Kd.R_drew)); exact HO229.out) hb); have n5_ := bb BK203 hb; have n6_ := bb BK216 hb; have n7_ := am (below_step pw hb); clear HO209; clear HO213; clear HO220; clear HO223; clear HO229; clear BK203; clear BK216; clear HB; have HO209 := n0_; have HO213 := n1_; have HO220 := n2_; have HO223 := n3_; have HO229 := n4_; have BK203 := n5_; have BK216 := n6_; have HB := n7_; clear n0_ n1_ n2_ n3_ n4_ n5_ n6_ n7_; (try clear hb); (try clear hb2); (try clear hk); (try clear hi)))
   (try simp only [Act.put, List.setIfInBounds_toArray, List.set_cons_zero, List.set_cons_succ])
   go_cut [64] (fun v64 wc => ∃ (kq : Nat) (x64_21 : Bool), v64 = .bool x64_21 ∧ Aside0 (L2_ZoneClose.j1 kq l1 t205 t214 t215 t224 t225 t205 x64_21 a0_0 l0_1 t210 t211 = some r) ∧ Aside0 (kq ≤ kj3) ∧ Aside0 (Kd.R k120 120 wc w.heap.size (fun _ => True) (.slice Ao32 t211.length co32) t211) ∧ Aside0 (wc.heap[gb203]? = some (.cells #[.int .i64 a0_0, (.slice A0_1 l0_1.length c0_1)] 24 (0, 0))) ∧ Aside0 (wc.heap[gb216]? = some (.cells #[.int .i64 t210, (.slice Ao32 t211.length co32)] 30 (0, 0))) ∧ Aside0 (Below w.heap.size w wc))
   case first =>
    have H := HC22.out
    clear HC22
    by_cases c44 : t205 = 0
    ·rw [if_pos c44] at H
     have c44b0 : (t205 == 0) = true := beq_iff_eq.mpr c44
     have c44b1 : (t205 != 0) = false := bne_eq_false_iff_eq.mpr c44
     clear c44
     (first | rw [c44b0] | (simp only [i64_w, i32_w]; rw [c44b0]) | skip)
     as_aux_lemma =>
      have H' := am H
      clear H
      have hnb45 := NB203_216.out
      have hnc45 := NB216_203.out
      have hcz46_0 : w43.cell? ⟨gb203, 0, none⟩ = some (.int .i64 a0_0) := bc BK203 0
      have hcz46_1 : w43.cell? ⟨gb203, 1, none⟩ = some (.slice A0_1 l0_1.length c0_1) := bc BK203 1
      have hfz46_0 := blk_frozen BK203.out 0
      have hfz46_1 := blk_frozen BK203.out 1
      go_wp2
      go_meet
      case rel => exact ⟨_, (((l1.length : Int) != a0_0)), pr, H', ⟨by have := HJ3.out; first | omega | exact Nat.le_refl _⟩, ⟨by (with_reducible repeat (first | apply Kd.R_alloc | apply Kd.R_drewN | apply Kd.R_drew)); exact Kd.R_mono HO213.out (fun _ hk => trivial)⟩, ⟨pk⟩, ⟨pk⟩, ⟨pw⟩⟩
    rw [if_neg c44] at H
    have c44b0 : (t205 == 0) = false := beq_eq_false_iff_ne.mpr c44
    have c44b1 : (t205 != 0) = true := bne_iff_ne.mpr c44
    (first | rw [c44b0] | (simp only [i64_w, i32_w]; rw [c44b0]) | skip)
    as_aux_lemma =>
     have H' := am H
     clear H
     go_wp2
     go_meet
     case rel => exact ⟨_, (false), pr, H', ⟨by have := HJ3.out; first | omega | exact Nat.le_refl _⟩, ⟨by (with_reducible repeat (first | apply Kd.R_alloc | apply Kd.R_drewN | apply Kd.R_drew)); exact Kd.R_mono HO213.out (fun _ hk => trivial)⟩, ⟨pk⟩, ⟨pk⟩, ⟨pw⟩⟩
   as_aux_lemma =>
   clear HC22
   try clear c1
   try clear c2
   try clear p2
   try clear c3
   try clear c4
   try clear c7
   try clear c8
   try clear c8b0
   try clear c8b1
   try clear c11
   try clear c14
   try clear c15
   try clear c16
   try clear c17
   try clear c18
   try clear c19
   try clear c21
   try clear c30
   try clear c44
   try clear c44b0
   try clear c44b1
   try clear c45
   try clear hcz10_0
   try clear hcz10_1
   try clear hcz23_0
   try clear hcz23_1
   try clear hcz25_0
   try clear hcz25_1
   try clear hcz31_0
   try clear hcz31_1
   try clear hcz33_0
   try clear hcz33_1
   try clear hcz39_0
   try clear hcz39_1
   try clear hcz46_0
   try clear hcz46_1
   try clear hcz9_0
   try clear hcz9_1
   try clear hfz10_0
   try clear hfz10_1
   try clear hfz23_0
   try clear hfz23_1
   try clear hfz25_0
   try clear hfz25_1
   try clear hfz31_0
   try clear hfz31_1
   try clear hfz33_0
   try clear hfz33_1
   try clear hfz39_0
   try clear hfz39_1
   try clear hfz46_0
   try clear hfz46_1
   try clear hfz9_0
   try clear hfz9_1
   try clear p2
   obtain ⟨kq, x64_21, rfl, HA, HJ21, HO_217001, BK203, BK216, HB⟩ := hcut
   cases kq with
   | zero => exact absurd HA.out (by simp [L2_ZoneClose.j1])
   | succ kj21 =>
    have H := HA.out
    clear HA
    simp only [L2_ZoneClose.j1] at H
    have HC47 := am H
    clear H
    go_upto_if 64 with (fail)
    go_cut [12] (fun v12 wc => ∃ (kq : Nat) (x12_46 : Int), v12 = .int .i64 x12_46 ∧ Aside0 (L2_ZoneClose.j2 kq l1 t205 t214 t215 t224 t225 x12_46 a0_0 l0_1 t210 t211 = some r) ∧ Aside0 (kq ≤ kj21) ∧ Aside0 (Kd.R k120 120 wc w.heap.size (fun _ => True) (.slice Ao32 t211.length co32) t211) ∧ Aside0 (wc.heap[gb203]? = some (.cells #[.int .i64 a0_0, (.slice A0_1 l0_1.length c0_1)] 24 (0, 0))) ∧ Aside0 (wc.heap[gb216]? = some (.cells #[.int .i64 t210, (.slice Ao32 t211.length co32)] 30 (0, 0))) ∧ Aside0 (Below w.heap.size w wc))
    case first =>
     have H := HC47.out
     clear HC47
     by_cases c48 : x64_21 = true
     ·subst c48
      have H1 : (L2_ZoneClose.j2 kj21 l1 t205 t214 t215 t224 t225 3 a0_0 l0_1 t210 t211) = some r := by rw [if_pos rfl] at H; exact H
      clear H
      have H := H1
      clear H1
      as_aux_lemma =>
       have H' := am H
       clear H
       go_wp2
       go_meet
       case rel => exact ⟨_, (3), pr, H', ⟨by have := HJ3.out; have := HJ21.out; first | omega | exact Nat.le_refl _⟩, ⟨by (with_reducible repeat (first | apply Kd.R_alloc | apply Kd.R_drewN | apply Kd.R_drew)); exact HO_217001.out⟩, ⟨pk⟩, ⟨pk⟩, ⟨pw⟩⟩
     replace c48 := Bool.eq_false_iff.mpr c48
     subst c48
     have H1 : (L2_ZoneClose.j2 kj21 l1 t205 t214 t215 t224 t225 t205 a0_0 l0_1 t210 t211) = some r := by rw [if_neg (show ¬ (false = true) by decide)] at H; exact H
     clear H
     have H := H1
     clear H1
     as_aux_lemma =>
      have H' := am H
      clear H
      go_wp2
      go_meet
      case rel => exact ⟨_, (t205), pr, H', ⟨by have := HJ3.out; have := HJ21.out; first | omega | exact Nat.le_refl _⟩, ⟨by (with_reducible repeat (first | apply Kd.R_alloc | apply Kd.R_drewN | apply Kd.R_drew)); exact HO_217001.out⟩, ⟨pk⟩, ⟨pk⟩, ⟨pw⟩⟩
    as_aux_lemma =>
    clear HC47
    try clear c1
    try clear c2
    try clear p2
    try clear c3
    try clear c4
    try clear c7
    try clear c8
    try clear c8b0
    try clear c8b1
    try clear c11
    try clear c14
    try clear c15
    try clear c16
    try clear c17
    try clear c18
    try clear c19
    try clear c21
    try clear c30
    try clear c44
    try clear c44b0
    try clear c44b1
    try clear c45
    try clear c48
    try clear hcz10_0
    try clear hcz10_1
    try clear hcz23_0
    try clear hcz23_1
    try clear hcz25_0
    try clear hcz25_1
    try clear hcz31_0
    try clear hcz31_1
    try clear hcz33_0
    try clear hcz33_1
    try clear hcz39_0
    try clear hcz39_1
    try clear hcz46_0
    try clear hcz46_1
    try clear hcz9_0
    try clear hcz9_1
    try clear hfz10_0
    try clear hfz10_1
    try clear hfz23_0
    try clear hfz23_1
    try clear hfz25_0
    try clear hfz25_1
    try clear hfz31_0
    try clear hfz31_1
    try clear hfz33_0
    try clear hfz33_1
    try clear hfz39_0
    try clear hfz39_1
    try clear hfz46_0
    try clear hfz46_1
    try clear hfz9_0
    try clear hfz9_1
    try clear p2
    obtain ⟨kq, x12_46, rfl, HA, HJ46, HO_217001, BK203, BK216, HB⟩ := hcut
    cases kq with
    | zero => exact absurd HA.out (by simp [L2_ZoneClose.j2])
    | succ kj46 =>
     have H := HA.out
     clear HA
     simp only [L2_ZoneClose.j2] at H
     have H' := am H
     clear H
     go_wp2
     go_loopg [12, 13] kj46 (fun kq v12 v13 w' => ∃ (x12_4 : Int) (x13_4 : Int), v12 = .int .i64 x12_4 ∧ v13 = .int .i64 x13_4 ∧ Aside0 (L2_ZoneClose.l0 kq l1 t205 t214 t215 t224 t225 x12_4 x13_4 a0_0 l0_1 t210 t211 = some r) ∧ Aside0 (kq ≤ kj46) ∧ Aside0 (Kd.R k120 120 w' w.heap.size (fun _ => True) (.slice Ao32 t211.length co32) t211) ∧ Aside0 (w'.heap[gb203]? = some (.cells #[.int .i64 a0_0, (.slice A0_1 l0_1.length c0_1)] 24 (0, 0))) ∧ Aside0 (w'.heap[gb216]? = some (.cells #[.int .i64 t210, (.slice Ao32 t211.length co32)] 30 (0, 0))) ∧ Aside0 (Below w.heap.size w w'))
     case atStart => exact ⟨(x12_46), (0), pr, pr, H', ⟨Nat.le_refl _⟩, ⟨by (with_reducible repeat (first | apply Kd.R_alloc | apply Kd.R_drewN | apply Kd.R_drew)); exact HO_217001.out⟩, ⟨pk⟩, ⟨pk⟩, ⟨pw⟩⟩
     case round =>
      clear H'
      try clear c1
      try clear c2
      try clear p2
      try clear c3
      try clear c4
      try clear c7
      try clear c8
      try clear c8b0
      try clear c8b1
      try clear c11
      try clear c14
      try clear c15
      try clear c16
      try clear c17
      try clear c18
      try clear c19
      try clear c21
      try clear c30
      try clear c44
      try clear c44b0
      try clear c44b1
      try clear c45
      try clear c48
      try clear hcz10_0
      try clear hcz10_1
      try clear hcz23_0
      try clear hcz23_1
      try clear hcz25_0
      try clear hcz25_1
      try clear hcz31_0
      try clear hcz31_1
      try clear hcz33_0
      try clear hcz33_1
      try clear hcz39_0
      try clear hcz39_1
      try clear hcz46_0
      try clear hcz46_1
      try clear hcz9_0
      try clear hcz9_1
      try clear hfz10_0
      try clear hfz10_1
      try clear hfz23_0
      try clear hfz23_1
      try clear hfz25_0
      try clear hfz25_1
      try clear hfz31_0
      try clear hfz31_1
      try clear hfz33_0
      try clear hfz33_1
      try clear hfz39_0
      try clear hfz39_1
      try clear hfz46_0
      try clear hfz46_1
      try clear hfz9_0
      try clear hfz9_1
      try clear p2
      obtain ⟨x12_4, x13_4, rfl, rfl, HA, HK4, HO_217001, BK203, BK216, HB⟩ := hrel
      cases gk with
      | zero => exact absurd HA.out (by simp [L2_ZoneClose.l0])
      | succ k4 =>
       have H := HA.out
       clear HA
       simp only [L2_ZoneClose.l0] at H
       have HC49 := am H
       clear H
       go_upto_region 13 with (fail)
       go_cut [72] (fun v72 wc => ∃ (kq : Nat) (x72_48 : Bool), v72 = .bool x72_48 ∧ Aside0 (L2_ZoneClose.j4 kq l1 t205 t214 t215 t224 t225 x12_4 x13_4 x72_48 a0_0 l0_1 t210 t211 = some r) ∧ Aside0 (kq ≤ k4) ∧ Aside0 (Kd.R k120 120 wc w.heap.size (fun _ => True) (.slice Ao32 t211.length co32) t211) ∧ Aside0 (wc.heap[gb203]? = some (.cells #[.int .i64 a0_0, (.slice A0_1 l0_1.length c0_1)] 24 (0, 0))) ∧ Aside0 (wc.heap[gb216]? = some (.cells #[.int .i64 t210, (.slice Ao32 t211.length co32)] 30 (0, 0))) ∧ Aside0 (Below w.heap.size w wc))
       case first =>
        have H := HC49.out
        clear HC49
        by_cases c50 : x13_4 < (l1.length : Int)
        ·rw [if_pos c50] at H
         have c50b0 : decide (x13_4 < (l1.length : Int)) = true := decide_eq_true c50
         clear c50
         (first | rw [c50b0] | (simp only [i64_w, i32_w]; rw [c50b0]) | skip)
         as_aux_lemma =>
          have H' := am H
          clear H
          go_wp2
          go_meet
          case rel => exact ⟨_, ((x12_4 == 0)), pr, H', ⟨by have := HJ3.out; have := HJ21.out; have := HJ46.out; have := HK4.out; first | omega | exact Nat.le_refl _⟩, ⟨by (with_reducible repeat (first | apply Kd.R_alloc | apply Kd.R_drewN | apply Kd.R_drew)); exact HO_217001.out⟩, ⟨pk⟩, ⟨pk⟩, ⟨pw⟩⟩
        rw [if_neg c50] at H
        have c50b0 : decide (x13_4 < (l1.length : Int)) = false := decide_eq_false c50
        clear c50
        (first | rw [c50b0] | (simp only [i64_w, i32_w]; rw [c50b0]) | skip)
        as_aux_lemma =>
         have H' := am H
         clear H
         go_wp2
         go_meet
         case rel => exact ⟨_, (false), pr, H', ⟨by have := HJ3.out; have := HJ21.out; have := HJ46.out; have := HK4.out; first | omega | exact Nat.le_refl _⟩, ⟨by (with_reducible repeat (first | apply Kd.R_alloc | apply Kd.R_drewN | apply Kd.R_drew)); exact HO_217001.out⟩, ⟨pk⟩, ⟨pk⟩, ⟨pw⟩⟩
       as_aux_lemma =>
       clear HC49
       try clear c1
       try clear c2
       try clear p2
       try clear c3
       try clear c4
       try clear c5
       try clear c7
       try clear c8
       try clear c8b0
       try clear c8b1
       try clear c11
       try clear c14
       try clear c15
       try clear c16
       try clear c17
       try clear c18
       try clear c19
       try clear c21
       try clear c30
       try clear c44
       try clear c44b0
       try clear c44b1
       try clear c45
       try clear c48
       try clear c50
       try clear c50b0
       try clear hcz10_0
       try clear hcz10_1
       try clear hcz23_0
       try clear hcz23_1
       try clear hcz25_0
       try clear hcz25_1
       try clear hcz31_0
       try clear hcz31_1
       try clear hcz33_0
       try clear hcz33_1
       try clear hcz39_0
       try clear hcz39_1
       try clear hcz46_0
       try clear hcz46_1
       try clear hcz9_0
       try clear hcz9_1
       try clear hfz10_0
       try clear hfz10_1
       try clear hfz23_0
       try clear hfz23_1
       try clear hfz25_0
       try clear hfz25_1
       try clear hfz31_0
       try clear hfz31_1
       try clear hfz33_0
       try clear hfz33_1
       try clear hfz39_0
       try clear hfz39_1
       try clear hfz46_0
       try clear hfz46_1
       try clear hfz9_0
       try clear hfz9_1
       try clear p2
       obtain ⟨kq, x72_48, rfl, HA, HJ48, HO_217001, BK203, BK216, HB⟩ := hcut
       cases kq with
       | zero => exact absurd HA.out (by simp [L2_ZoneClose.j4])
       | succ kj48 =>
        have H := HA.out
        clear HA
        simp only [L2_ZoneClose.j4] at H
        by_cases c51 : x72_48 = true
        ·subst c51
         have H1 : (if 0 ≤ x13_4 then (if x13_4 < (l1.length : Int) then ((R2_Far.f (rd l1 x13_4) 1099511627776).bind fun t233 => (if t233 = true then (L2_ZoneClose.l0 kj48 l1 t205 t214 t215 t224 t225 2 (wrap64 (x13_4 + 1)) a0_0 l0_1 t210 t211) else (L2_ZoneClose.l0 kj48 l1 t205 t214 t215 t224 t225 x12_4 (wrap64 (x13_4 + 1)) a0_0 l0_1 t210 t211))) else (none)) else (none)) = some r := by rw [if_pos rfl] at H; exact H
         clear H
         have H := H1
         clear H1
         by_cases c52 : 0 ≤ x13_4
         ·rw [if_pos c52] at H
          have c52b0 : decide (0 ≤ x13_4) = true := decide_eq_true c52
          clear c52
          by_cases c53 : x13_4 < (l1.length : Int)
          ·rw [if_pos c53] at H
           have c53b0 : decide (x13_4 < (l1.length : Int)) = true := decide_eq_true c53
           clear c53
           replace H := Option.bind_eq_some_iff.mp H
           obtain ⟨t233, A540, H⟩ := H
           replace H : (if t233 = true then (L2_ZoneClose.l0 kj48 l1 t205 t214 t215 t224 t225 2 (wrap64 (x13_4 + 1)) a0_0 l0_1 t210 t211) else (L2_ZoneClose.l0 kj48 l1 t205 t214 t215 t224 t225 x12_4 (wrap64 (x13_4 + 1)) a0_0 l0_1 t210 t211)) = some r := H
           have A54 := am A540
           clear A540
           by_cases c55 : t233 = true
           ·subst c55
            have H1 : (L2_ZoneClose.l0 kj48 l1 t205 t214 t215 t224 t225 2 (wrap64 (x13_4 + 1)) a0_0 l0_1 t210 t211) = some r := by rw [if_pos rfl] at H; exact H
            clear H
            have H := H1
            clear H1
            as_aux_lemma =>
             have H' := am H
             clear H
             have p232 : 0 ≤ (x13_4 : Int) := of_decide_eq_true (by first | (with_reducible assumption) | assumption)
             have q232 : x13_4 < (l1.length : Int) := of_decide_eq_true (by first | (with_reducible assumption) | assumption)
             obtain ⟨ad232, e232, hx232_0⟩ := Kd.at_int HR1.out x13_4 p232 q232
             cases e232
             replace hx232_0 := (HB.out.cell (World.block_lt_of_cell? w _ hx232_0)).trans hx232_0
             replace p232 := eq_true p232
             replace q232 := eq_true q232
             go_wp2_with (first | ((with_reducible refine gate_callee (f := 22) rfl ?_); refine goesL_ (some 79) rfl rfl Tryd.func22 kk rfl #[.int .i64 (rd l1 x13_4), .int .i64 1099511627776] rfl (by (try simp only [List.map_toArray, List.map_cons, List.map_nil]); first | done | rfl | (simp only [List.length_drop, List.length_take]; rfl)) ?_; (with_reducible refine (R2_Far.calls (rd l1 x13_4) 1099511627776 true _ A54.out).mono ?_); rintro e w' ⟨rfl, ⟨nd, rfl⟩⟩; refine ⟨_, rfl, ?_⟩))
             go_roundg kj48
             case measure => have := HJ3.out; have := HJ21.out; have := HJ46.out; have := HK4.out; have := HJ48.out; omega
             case rel => exact ⟨(2), (wrap64 (x13_4 + 1)), pr, pr, H', ⟨by have := HJ3.out; have := HJ21.out; have := HJ46.out; have := HK4.out; have := HJ48.out; omega⟩, ⟨by (with_reducible repeat (first | apply Kd.R_alloc | apply Kd.R_drewN | apply Kd.R_drew)); exact HO_217001.out⟩, ⟨pk⟩, ⟨pk⟩, ⟨pw⟩⟩
           replace c55 := Bool.eq_false_iff.mpr c55
           subst c55
           have H1 : (L2_ZoneClose.l0 kj48 l1 t205 t214 t215 t224 t225 x12_4 (wrap64 (x13_4 + 1)) a0_0 l0_1 t210 t211) = some r := by rw [if_neg (show ¬ (false = true) by decide)] at H; exact H
           clear H
           have H := H1
           clear H1
           as_aux_lemma =>
            have H' := am H
            clear H
            have p232 : 0 ≤ (x13_4 : Int) := of_decide_eq_true (by first | (with_reducible assumption) | assumption)
            have q232 : x13_4 < (l1.length : Int) := of_decide_eq_true (by first | (with_reducible assumption) | assumption)
            obtain ⟨ad232, e232, hx232_0⟩ := Kd.at_int HR1.out x13_4 p232 q232
            cases e232
            replace hx232_0 := (HB.out.cell (World.block_lt_of_cell? w _ hx232_0)).trans hx232_0
            replace p232 := eq_true p232
            replace q232 := eq_true q232
            go_wp2_with (first | ((with_reducible refine gate_callee (f := 22) rfl ?_); refine goesL_ (some 79) rfl rfl Tryd.func22 kk rfl #[.int .i64 (rd l1 x13_4), .int .i64 1099511627776] rfl (by (try simp only [List.map_toArray, List.map_cons, List.map_nil]); first | done | rfl | (simp only [List.length_drop, List.length_take]; rfl)) ?_; (with_reducible refine (R2_Far.calls (rd l1 x13_4) 1099511627776 false _ A54.out).mono ?_); rintro e w' ⟨rfl, ⟨nd, rfl⟩⟩; refine ⟨_, rfl, ?_⟩))
            go_roundg kj48
            case measure => have := HJ3.out; have := HJ21.out; have := HJ46.out; have := HK4.out; have := HJ48.out; omega
            case rel => exact ⟨(x12_4), (wrap64 (x13_4 + 1)), pr, pr, H', ⟨by have := HJ3.out; have := HJ21.out; have := HJ46.out; have := HK4.out; have := HJ48.out; omega⟩, ⟨by (with_reducible repeat (first | apply Kd.R_alloc | apply Kd.R_drewN | apply Kd.R_drew)); exact HO_217001.out⟩, ⟨pk⟩, ⟨pk⟩, ⟨pw⟩⟩
          rw [if_neg c53] at H
          exact absurd H (by simp)
         rw [if_neg c52] at H
         exact absurd H (by simp)
        replace c51 := Bool.eq_false_iff.mpr c51
        subst c51
        have H1 : (if x12_4 = 0 then ((R2_HasZone.f kj48 a0_0 l0_1 l1).bind fun t234 => (L2_ZoneClose.j5 kj48 t205 t214 t215 t224 t225 x12_4 t234 a0_0 l0_1 t210 t211)) else (L2_ZoneClose.j5 kj48 t205 t214 t215 t224 t225 x12_4 false a0_0 l0_1 t210 t211)) = some r := by rw [if_neg (show ¬ (false = true) by decide)] at H; exact H
        clear H
        have H := H1
        clear H1
        have HC56 := am H
        clear H
        go_upto_region 17 with (fail)
        go_cut [14] (fun v14 wc => ∃ (kq : Nat) (x14_55 : Bool), v14 = .bool x14_55 ∧ Aside0 (L2_ZoneClose.j5 kq t205 t214 t215 t224 t225 x12_4 x14_55 a0_0 l0_1 t210 t211 = some r) ∧ Aside0 (kq ≤ kj48) ∧ Aside0 (Kd.R k120 120 wc w.heap.size (fun _ => True) (.slice Ao32 t211.length co32) t211) ∧ Aside0 (wc.heap[gb203]? = some (.cells #[.int .i64 a0_0, (.slice A0_1 l0_1.length c0_1)] 24 (0, 0))) ∧ Aside0 (wc.heap[gb216]? = some (.cells #[.int .i64 t210, (.slice Ao32 t211.length co32)] 30 (0, 0))) ∧ Aside0 (Below w.heap.size w wc))
        case first =>
         have H := HC56.out
         clear HC56
         by_cases c57 : x12_4 = 0
         ·rw [if_pos c57] at H
          have c57b0 : (x12_4 == 0) = true := beq_iff_eq.mpr c57
          have c57b1 : (x12_4 != 0) = false := bne_eq_false_iff_eq.mpr c57
          clear c57
          (first | rw [c57b0] | (simp only [i64_w, i32_w]; rw [c57b0]) | skip)
          replace H := Option.bind_eq_some_iff.mp H
          obtain ⟨t234, A580, H⟩ := H
          replace H : (L2_ZoneClose.j5 kj48 t205 t214 t215 t224 t225 x12_4 t234 a0_0 l0_1 t210 t211) = some r := H
          have A58 := am A580
          clear A580
          as_aux_lemma =>
           have H' := am H
           clear H
           have hnb59 := NB203_216.out
           have hnc59 := NB216_203.out
           have hcz60_0 : wc.cell? ⟨gb203, 0, none⟩ = some (.int .i64 a0_0) := bc BK203 0
           have hcz60_1 : wc.cell? ⟨gb203, 1, none⟩ = some (.slice A0_1 l0_1.length c0_1) := bc BK203 1
           have hfz60_0 := blk_frozen BK203.out 0
           have hfz60_1 := blk_frozen BK203.out 1
           go_wp2_with (first | (go_at_call 23; (with_reducible refine (R2_HasZone.calls kj48 a0_0 _ _ l0_1 _ _ l1 t234 _ ?side1 ?side2 ?side3 ?side4 A58.out).mono ?_); (case side1 => repeat (first | exact (Kd.C_below HR0_1.out HB.out) | (with_reducible refine Kd.C_alloc ?_ _) | (with_reducible refine Kd.C_drewN ?_ _) | (with_reducible refine Kd.C_drew ?_))); (case side2 => exact HC0_1.out); (case side3 => repeat (first | exact (Kd.C_below HR1.out HB.out) | (with_reducible refine Kd.C_alloc ?_ _) | (with_reducible refine Kd.C_drewN ?_ _) | (with_reducible refine Kd.C_drew ?_))); (case side4 => exact HC1.out); rintro e w61 ⟨rfl, hb⟩; have n0_ := am (Kd.R_below (by (with_reducible repeat (first | apply Kd.R_alloc | apply Kd.R_drewN | apply Kd.R_drew)); exact HO_217001.out) hb); have n1_ := bb BK203 hb; have n2_ := bb BK216 hb; have n3_ := am (below_step pw hb); clear HO_217001; clear BK203; clear BK216; clear HB; have HO_217001 := n0_; have BK203 := n1_; have BK216 := n2_; have HB := n3_; clear n0_ n1_ n2_ n3_; (try clear hb); (try clear hb2); (try clear hk); (try clear hi)))
           go_meet
           case rel => exact ⟨_, (t234), pr, H', ⟨by have := HJ3.out; have := HJ21.out; have := HJ46.out; have := HK4.out; have := HJ48.out; first | omega | exact Nat.le_refl _⟩, ⟨by (with_reducible repeat (first | apply Kd.R_alloc | apply Kd.R_drewN | apply Kd.R_drew)); exact HO_217001.out⟩, ⟨pk⟩, ⟨pk⟩, ⟨pw⟩⟩
         rw [if_neg c57] at H
         have c57b0 : (x12_4 == 0) = false := beq_eq_false_iff_ne.mpr c57
         have c57b1 : (x12_4 != 0) = true := bne_iff_ne.mpr c57
         (first | rw [c57b0] | (simp only [i64_w, i32_w]; rw [c57b0]) | skip)
         as_aux_lemma =>
          have H' := am H
          clear H
          go_wp2
          go_meet
          case rel => exact ⟨_, (false), pr, H', ⟨by have := HJ3.out; have := HJ21.out; have := HJ46.out; have := HK4.out; have := HJ48.out; first | omega | exact Nat.le_refl _⟩, ⟨by (with_reducible repeat (first | apply Kd.R_alloc | apply Kd.R_drewN | apply Kd.R_drew)); exact HO_217001.out⟩, ⟨pk⟩, ⟨pk⟩, ⟨pw⟩⟩
        as_aux_lemma =>
        clear HC56
        try clear c1
        try clear c2
        try clear p2
        try clear q2
        try clear hx2
        try clear c3
        try clear c4
        try clear c5
        try clear p6
        try clear c7
        try clear c8
        try clear c8b0
        try clear c8b1
        try clear c11
        try clear c14
        try clear c15
        try clear c16
        try clear c17
        try clear c18
        try clear c19
        try clear c21
        try clear c22
        try clear p23
        try clear q23
        try clear hx23
        try clear c30
        try clear c44
        try clear c44b0
        try clear c44b1
        try clear c45
        try clear c48
        try clear c50
        try clear c50b0
        try clear c51
        try clear c52
        try clear c52b0
        try clear c53
        try clear c53b0
        try clear c55
        try clear c57
        try clear c57b0
        try clear c57b1
        try clear c59
        try clear hcz10_0
        try clear hcz10_1
        try clear hcz23_0
        try clear hcz23_1
        try clear hcz25_0
        try clear hcz25_1
        try clear hcz31_0
        try clear hcz31_1
        try clear hcz33_0
        try clear hcz33_1
        try clear hcz39_0
        try clear hcz39_1
        try clear hcz46_0
        try clear hcz46_1
        try clear hcz60_0
        try clear hcz60_1
        try clear hcz9_0
        try clear hcz9_1
        try clear hfz10_0
        try clear hfz10_1
        try clear hfz23_0
        try clear hfz23_1
        try clear hfz25_0
        try clear hfz25_1
        try clear hfz31_0
        try clear hfz31_1
        try clear hfz33_0
        try clear hfz33_1
        try clear hfz39_0
        try clear hfz39_1
        try clear hfz46_0
        try clear hfz46_1
        try clear hfz60_0
        try clear hfz60_1
        try clear hfz9_0
        try clear hfz9_1
        try clear hx232_0
        try clear p2
        try clear p232
        try clear q232
        obtain ⟨kq, x14_55, rfl, HA, HJ55, HO_217001, BK203, BK216, HB⟩ := hcut
        cases kq with
        | zero => exact absurd HA.out (by simp [L2_ZoneClose.j5])
        | succ kj55 =>
         have H := HA.out
         clear HA
         simp only [L2_ZoneClose.j5] at H
         have HC62 := am H
         clear H
         go_upto_region 18 with (fail)
         go_cut [95] (fun v95 wc => ∃ (kq : Nat) (x95_61 : Bool), v95 = .bool x95_61 ∧ Aside0 (L2_ZoneClose.j6 kq t205 t214 t215 x95_61 a0_0 l0_1 t210 t211 = some r) ∧ Aside0 (kq ≤ kj55) ∧ Aside0 (Kd.R k120 120 wc w.heap.size (fun _ => True) (.slice Ao32 t211.length co32) t211) ∧ Aside0 (wc.heap[gb203]? = some (.cells #[.int .i64 a0_0, (.slice A0_1 l0_1.length c0_1)] 24 (0, 0))) ∧ Aside0 (wc.heap[gb216]? = some (.cells #[.int .i64 t210, (.slice Ao32 t211.length co32)] 30 (0, 0))) ∧ Aside0 (Below w.heap.size w wc))
         case first =>
          have H := HC62.out
          clear HC62
          replace H := Option.bind_eq_some_iff.mp H
          obtain ⟨t235, A630, H⟩ := H
          replace H : (if t235 = true then (L2_ZoneClose.j6 kj55 t205 t214 t215 (t224 != x14_55) a0_0 l0_1 t210 t211) else (L2_ZoneClose.j6 kj55 t205 t214 t215 true a0_0 l0_1 t210 t211)) = some r := H
          have A63 := am A630
          clear A630
          by_cases c64 : t235 = true
          ·subst c64
           have H1 : (L2_ZoneClose.j6 kj55 t205 t214 t215 (t224 != x14_55) a0_0 l0_1 t210 t211) = some r := by rw [if_pos rfl] at H; exact H
           clear H
           have H := H1
           clear H1
           as_aux_lemma =>
            have H' := am H
            clear H
            have CA63 := fun (W : World) (hE9_ : ErrAll W) => L2_coded.calls t225 x12_4 true W A63.out hE9_
            try simp only [errW_none, errW_some] at CA63
            go_wp2_with (first | (go_at_call 20; (with_reducible refine (CA63 _ (ErrAll.below hE9.out pw)).mono ?_); rintro e w65 ⟨rfl, hb⟩; have n0_ := am (Kd.R_below (by (with_reducible repeat (first | apply Kd.R_alloc | apply Kd.R_drewN | apply Kd.R_drew)); exact HO_217001.out) hb); have n1_ := bb BK203 hb; have n2_ := bb BK216 hb; have n3_ := am (below_step pw hb); clear HO_217001; clear BK203; clear BK216; clear HB; have HO_217001 := n0_; have BK203 := n1_; have BK216 := n2_; have HB := n3_; clear n0_ n1_ n2_ n3_; (try clear hb); (try clear hb2); (try clear hk); (try clear hi)))
            go_meet
            case rel => exact ⟨_, ((t224 != x14_55)), pr, H', ⟨by have := HJ3.out; have := HJ21.out; have := HJ46.out; have := HK4.out; have := HJ48.out; have := HJ55.out; first | omega | exact Nat.le_refl _⟩, ⟨by (with_reducible repeat (first | apply Kd.R_alloc | apply Kd.R_drewN | apply Kd.R_drew)); exact HO_217001.out⟩, ⟨pk⟩, ⟨pk⟩, ⟨pw⟩⟩
          replace c64 := Bool.eq_false_iff.mpr c64
          subst c64
          have H1 : (L2_ZoneClose.j6 kj55 t205 t214 t215 true a0_0 l0_1 t210 t211) = some r := by rw [if_neg (show ¬ (false = true) by decide)] at H; exact H
          clear H
          have H := H1
          clear H1
          as_aux_lemma =>
           have H' := am H
           clear H
           have CA63 := fun (W : World) (hE9_ : ErrAll W) => L2_coded.calls t225 x12_4 false W A63.out hE9_
           try simp only [errW_none, errW_some] at CA63
           go_wp2_with (first | (go_at_call 20; (with_reducible refine (CA63 _ (ErrAll.below hE9.out pw)).mono ?_); rintro e w66 ⟨rfl, hb⟩; have n0_ := am (Kd.R_below (by (with_reducible repeat (first | apply Kd.R_alloc | apply Kd.R_drewN | apply Kd.R_drew)); exact HO_217001.out) hb); have n1_ := bb BK203 hb; have n2_ := bb BK216 hb; have n3_ := am (below_step pw hb); clear HO_217001; clear BK203; clear BK216; clear HB; have HO_217001 := n0_; have BK203 := n1_; have BK216 := n2_; have HB := n3_; clear n0_ n1_ n2_ n3_; (try clear hb); (try clear hb2); (try clear hk); (try clear hi)))
           go_meet
           case rel => exact ⟨_, (true), pr, H', ⟨by have := HJ3.out; have := HJ21.out; have := HJ46.out; have := HK4.out; have := HJ48.out; have := HJ55.out; first | omega | exact Nat.le_refl _⟩, ⟨by (with_reducible repeat (first | apply Kd.R_alloc | apply Kd.R_drewN | apply Kd.R_drew)); exact HO_217001.out⟩, ⟨pk⟩, ⟨pk⟩, ⟨pw⟩⟩
         as_aux_lemma =>
         clear HC62
         try clear c1
         try clear c2
         try clear p2
         try clear q2
         try clear hx2
         try clear c3
         try clear c4
         try clear c5
         try clear c6
         try clear p6
         try clear c7
         try clear c8
         try clear c8b0
         try clear c8b1
         try clear c11
         try clear c14
         try clear c15
         try clear c16
         try clear c17
         try clear c18
         try clear c19
         try clear c21
         try clear c22
         try clear p23
         try clear q23
         try clear hx23
         try clear c30
         try clear c44
         try clear c44b0
         try clear c44b1
         try clear c45
         try clear c48
         try clear c50
         try clear c50b0
         try clear c51
         try clear c52
         try clear c52b0
         try clear c53
         try clear c53b0
         try clear c55
         try clear c57
         try clear c57b0
         try clear c57b1
         try clear c59
         try clear c64
         try clear p64
         try clear hcz10_0
         try clear hcz10_1
         try clear hcz23_0
         try clear hcz23_1
         try clear hcz25_0
         try clear hcz25_1
         try clear hcz31_0
         try clear hcz31_1
         try clear hcz33_0
         try clear hcz33_1
         try clear hcz39_0
         try clear hcz39_1
         try clear hcz46_0
         try clear hcz46_1
         try clear hcz60_0
         try clear hcz60_1
         try clear hcz9_0
         try clear hcz9_1
         try clear hfz10_0
         try clear hfz10_1
         try clear hfz23_0
         try clear hfz23_1
         try clear hfz25_0
         try clear hfz25_1
         try clear hfz31_0
         try clear hfz31_1
         try clear hfz33_0
         try clear hfz33_1
         try clear hfz39_0
         try clear hfz39_1
         try clear hfz46_0
         try clear hfz46_1
         try clear hfz60_0
         try clear hfz60_1
         try clear hfz9_0
         try clear hfz9_1
         try clear hx232_0
         try clear p2
         try clear p23
         try clear p232
         try clear p6
         try clear q2
         try clear q23
         try clear q232
         obtain ⟨kq, x95_61, rfl, HA, HJ61, HO_217001, BK203, BK216, HB⟩ := hcut
         cases kq with
         | zero => exact absurd HA.out (by simp [L2_ZoneClose.j6])
         | succ kj61 =>
          have H := HA.out
          clear HA
          simp only [L2_ZoneClose.j6] at H
          by_cases c67 : x95_61 = true
          ·subst c67
           have H1 : (none) = some r := by rw [if_pos rfl] at H; exact H
           clear H
           have H := H1
           clear H1
           exact absurd H (by simp)
          replace c67 := Bool.eq_false_iff.mpr c67
          subst c67
          have H1 : (if t205 > 0 then ((L2_coded.f t215 t205).bind fun t236 => (if t236 = true then (if t214 = true then (none) else ((L2_noZone.f t210 t211).bind fun t237 => (some t237))) else (none))) else ((L2_near.f kj61 l0_1).bind fun t238 => (if t238 = true then ((R2_ClosedZone.f kj61 a0_0 l0_1).bind fun bt239 => (if t215.isNone = true then (if (t214 == bt239.2.2) = true then ((L2_isZone.f kj61 t210 t211 bt239.1 bt239.2.1).bind fun t246 => (some t246)) else (none)) else (none))) else (if t215.isNone = true then (some true) else (none))))) = some r := by rw [if_neg (show ¬ (false = true) by decide)] at H; exact H
          clear H
          have H := H1
          clear H1
          by_cases c68 : t205 > 0
          ·rw [if_pos c68] at H
           have c68b0 : decide (0 < t205) = true := decide_eq_true c68
           clear c68
           replace H := Option.bind_eq_some_iff.mp H
           obtain ⟨t236, A690, H⟩ := H
           replace H : (if t236 = true then (if t214 = true then (none) else ((L2_noZone.f t210 t211).bind fun t237 => (some t237))) else (none)) = some r := H
           have A69 := am A690
           clear A690
           by_cases c70 : t236 = true
           ·subst c70
            have H1 : (if t214 = true then (none) else ((L2_noZone.f t210 t211).bind fun t237 => (some t237))) = some r := by rw [if_pos rfl] at H; exact H
            clear H
            have H := H1
            clear H1
            by_cases c71 : t214 = true
            ·subst c71
             have H1 : (none) = some r := by rw [if_pos rfl] at H; exact H
             clear H
             have H := H1
             clear H1
             exact absurd H (by simp)
            replace c71 := Bool.eq_false_iff.mpr c71
            subst c71
            have H1 : ((L2_noZone.f t210 t211).bind fun t237 => (some t237)) = some r := by rw [if_neg (show ¬ (false = true) by decide)] at H; exact H
            clear H
            have H := H1
            clear H1
            replace H := Option.bind_eq_some_iff.mp H
            obtain ⟨t237, A720, H⟩ := H
            replace H : (some t237) = some r := H
            have A72 := am A720
            clear A720
            as_aux_lemma =>
             obtain rfl := Option.some.inj H
             have CA69 := fun (W : World) (hE9_ : ErrAll W) => L2_coded.calls t215 t205 true W A69.out hE9_
             try simp only [errW_none, errW_some] at CA69
             go_wp2_with (first | (go_at_call 20; (with_reducible refine (CA69 _ (ErrAll.below hE9.out pw)).mono ?_); rintro e w73 ⟨rfl, hb⟩; have n0_ := am (Kd.R_below (by (with_reducible repeat (first | apply Kd.R_alloc | apply Kd.R_drewN | apply Kd.R_drew)); exact HO_217001.out) hb); have n1_ := bb BK203 hb; have n2_ := bb BK216 hb; have n3_ := am (below_step pw hb); clear HO_217001; clear BK203; clear BK216; clear HB; have HO_217001 := n0_; have BK203 := n1_; have BK216 := n2_; have HB := n3_; clear n0_ n1_ n2_ n3_; (try clear hb); (try clear hb2); (try clear hk); (try clear hi); have hnb74 := NB216_203.out; have hnc74 := NB203_216.out; have hcz75_0 : w73.cell? ⟨gb216, 0, none⟩ = some (.int .i64 t210) := bc BK216 0; have hcz75_1 : w73.cell? ⟨gb216, 1, none⟩ = some (.slice Ao32 t211.length co32) := bc BK216 1; have hfz75_0 := blk_frozen BK216.out 0; have hfz75_1 := blk_frozen BK216.out 1) | (go_at_call 24; (with_reducible refine (L2_noZone.calls t210 _ _ t211 t237 _ ?side1 ?side2 A72.out).mono ?_); (case side1 => repeat (first | exact (Kd.R_reads' HO_217001.out).2.2 | (with_reducible refine Kd.C_alloc ?_ _) | (with_reducible refine Kd.C_drewN ?_ _) | (with_reducible refine Kd.C_drew ?_))); (case side2 => exact (Kd.R_reads' HO_217001.out).2.1); rintro e w76 ⟨rfl, hb⟩; have n0_ := am (Kd.R_below (by (with_reducible repeat (first | apply Kd.R_alloc | apply Kd.R_drewN | apply Kd.R_drew)); exact HO_217001.out) hb); have n1_ := bb BK203 hb; have n2_ := bb BK216 hb; have n3_ := am (below_step pw hb); clear HO_217001; clear BK203; clear BK216; clear HB; have HO_217001 := n0_; have BK203 := n1_; have BK216 := n2_; have HB := n3_; clear n0_ n1_ n2_ n3_; (try clear hb); (try clear hb2); (try clear hk); (try clear hi)))
             go_ret
             exact ⟨pe, pw⟩
           replace c70 := Bool.eq_false_iff.mpr c70
           subst c70
           have H1 : (none) = some r := by rw [if_neg (show ¬ (false = true) by decide)] at H; exact H
           clear H
           have H := H1
           clear H1
           exact absurd H (by simp)
          rw [if_neg c68] at H
          have c68b0 : decide (0 < t205) = false := decide_eq_false c68
          clear c68
          replace H := Option.bind_eq_some_iff.mp H
          obtain ⟨t238, A770, H⟩ := H
          replace H : (if t238 = true then ((R2_ClosedZone.f kj61 a0_0 l0_1).bind fun bt239 => (if t215.isNone = true then (if (t214 == bt239.2.2) = true then ((L2_isZone.f kj61 t210 t211 bt239.1 bt239.2.1).bind fun t246 => (some t246)) else (none)) else (none))) else (if t215.isNone = true then (some true) else (none))) = some r := H
          have A77 := am A770
          clear A770
          by_cases c78 : t238 = true
          ·subst c78
           have H1 : ((R2_ClosedZone.f kj61 a0_0 l0_1).bind fun bt239 => (if t215.isNone = true then (if (t214 == bt239.2.2) = true then ((L2_isZone.f kj61 t210 t211 bt239.1 bt239.2.1).bind fun t246 => (some t246)) else (none)) else (none))) = some r := by rw [if_pos rfl] at H; exact H
           clear H
           have H := H1
           clear H1
           replace H := Option.bind_eq_some_iff.mp H
           obtain ⟨⟨t239, t240, t243⟩, A790, H⟩ := H
           replace H : (if t215.isNone = true then (if (t214 == t243) = true then ((L2_isZone.f kj61 t210 t211 t239 t240).bind fun t246 => (some t246)) else (none)) else (none)) = some r := H
           have A79 := am A790
           clear A790
           rcases t215 with _ | q245
           ·have H1 : (if (t214 == t243) = true then ((L2_isZone.f kj61 t210 t211 t239 t240).bind fun t246 => (some t246)) else (none)) = some r := by rw [if_pos (show (none : Option Int).isNone = true by rfl)] at H; exact H
            clear H
            have H := H1
            clear H1
            try simp only [errW_none, errW_some]
            by_cases c80 : (t214 == t243) = true
            ·rw [if_pos c80] at H
             have c80b0 : (t214 == t243) = true := c80
             (try (have c80b1 : decide (t214 = t243) = true := by simpa using c80))
             (try (have c80b2 : (t214 == t243) = true := by simpa using c80))
             clear c80
             replace H := Option.bind_eq_some_iff.mp H
             obtain ⟨t246, A810, H⟩ := H
             replace H : (some t246) = some r := H
             have A81 := am A810
             clear A810
             as_aux_lemma =>
              obtain rfl := Option.some.inj H
              have hnb82 := NB203_216.out
              have hnc82 := NB216_203.out
              have hcz83_0 : wc.cell? ⟨gb203, 0, none⟩ = some (.int .i64 a0_0) := bc BK203 0
              have hcz83_1 : wc.cell? ⟨gb203, 1, none⟩ = some (.slice A0_1 l0_1.length c0_1) := bc BK203 1
              have hfz83_0 := blk_frozen BK203.out 0
              have hfz83_1 := blk_frozen BK203.out 1
              go_wp2_with (first | ((with_reducible refine gate_callee (f := 25) rfl ?_); refine goesL_ (some 111) rfl rfl Tryd.func25 kk rfl #[.slice A0_1 l0_1.length c0_1] rfl (by (try simp only [List.map_toArray, List.map_cons, List.map_nil]); first | done | rfl | (simp only [List.length_drop, List.length_take]; rfl)) ?_; (with_reducible refine (L2_near.calls kj61 _ _ l0_1 true _ ?side1 ?side2 A77.out).mono ?_); (case side1 => repeat (first | exact (Kd.C_below HR0_1.out HB.out) | (with_reducible refine Kd.C_alloc ?_ _) | (with_reducible refine Kd.C_drewN ?_ _) | (with_reducible refine Kd.C_drew ?_))); (case side2 => exact HC0_1.out); rintro e w' ⟨rfl, ⟨nd, rfl⟩⟩; refine ⟨_, rfl, ?_⟩; (try (rw [drewN_self wc]; generalize hq_ : World.drewN wc _ = wc; have n0_ : Aside0 (Kd.R k120 120 wc w.heap.size (fun _ => True) (.slice Ao32 t211.length co32) t211) := ⟨by rw [← hq_]; exact (by (with_reducible repeat (first | apply Kd.R_alloc | apply Kd.R_drewN | apply Kd.R_drew)); exact HO_217001.out)⟩; have n1_ : Aside0 (wc.heap[gb203]? = some (.cells #[.int .i64 a0_0, .slice A0_1 l0_1.length c0_1] 24 (0, 0))) := ⟨by rw [← hq_]; exact pk⟩; have n2_ : Aside0 (wc.heap[gb216]? = some (.cells #[.int .i64 t210, .slice Ao32 t211.length co32] 30 (0, 0))) := ⟨by rw [← hq_]; exact pk⟩; have n3_ : Aside0 (Below w.heap.size w wc) := ⟨by rw [← hq_]; exact pw⟩; clear HO_217001 BK203 BK216 HB hq_; have HO_217001 := n0_; have BK203 := n1_; have BK216 := n2_; have HB := n3_; clear n0_ n1_ n2_ n3_; have hqz203_0 : wc.cell? ⟨gb203, 0, none⟩ = some (.int .i64 a0_0) := bc BK203 0; have hqf203_0 := blk_frozen BK203.out 0; have hqz203_1 : wc.cell? ⟨gb203, 1, none⟩ = some (.slice A0_1 l0_1.length c0_1) := bc BK203 1; have hqf203_1 := blk_frozen BK203.out 1; have hqz216_0 : wc.cell? ⟨gb216, 0, none⟩ = some (.int .i64 t210) := bc BK216 0; have hqf216_0 := blk_frozen BK216.out 0; have hqz216_1 : wc.cell? ⟨gb216, 1, none⟩ = some (.slice Ao32 t211.length co32) := bc BK216 1; have hqf216_1 := blk_frozen BK216.out 1))) | ((with_reducible refine gate_callee (f := 26) rfl ?_); refine goesL_ (some 117) rfl rfl Tryd.func26 kk rfl #[.agg #[.int .i64 a0_0, .slice A0_1 l0_1.length c0_1]] rfl (by (try simp only [List.map_toArray, List.map_cons, List.map_nil]); first | done | rfl | (simp only [List.length_drop, List.length_take]; rfl)) ?_; (with_reducible refine (R2_ClosedZone.calls kj61 a0_0 _ _ l0_1 t239 t240 t243 _ ?side1 ?side2 A79.out).mono ?_); (case side1 => repeat (first | exact (Kd.C_below HR0_1.out HB.out) | (with_reducible refine Kd.C_alloc ?_ _) | (with_reducible refine Kd.C_drewN ?_ _) | (with_reducible refine Kd.C_drew ?_))); (case side2 => exact HC0_1.out); rintro e w84 ⟨v241, rfl, ho0, hb⟩; refine ⟨_, rfl, ?_⟩; have n0_ := am (Kd.R_below (by (with_reducible repeat (first | apply Kd.R_alloc | apply Kd.R_drewN | apply Kd.R_drew)); exact HO_217001.out) hb); have n1_ := am (Kd.R_lower ho0 (below_size pw)); have n2_ := bb BK203 hb; have n3_ := bb BK216 hb; have n4_ := am (below_step pw hb); clear HO_217001; clear BK203; clear BK216; clear HB; have HO_217001 := n0_; have HO242 := n1_; have BK203 := n2_; have BK216 := n3_; have HB := n4_; clear n0_ n1_ n2_ n3_ n4_; (try clear hb); (try clear hb2); (try clear hk); (try clear hi); (try clear ho0)) | ((with_reducible refine gate_dst (N := 15) rfl ?_); (try (refine gate_guard (by rfl) ?_; dsimp only)); refine box_event ?hg (N := 15) ?hd (cs := #[.int .i64 0, .slice none 0 0]) (t := 24) ?hr ?_; (case hd => rfl); (case hg => rfl); (case hr => first | (go_simp; done) | (go_simp; rfl)); intro gb244 hg w85 hbox hb; have n0_ := am (Kd.R_below (by (with_reducible repeat (first | apply Kd.R_alloc | apply Kd.R_drewN | apply Kd.R_drew)); exact HO_217001.out) hb); have n1_ := am (Kd.R_below (by (with_reducible repeat (first | apply Kd.R_alloc | apply Kd.R_drewN | apply Kd.R_drew)); exact HO242.out) hb); have n2_ := bb BK203 hb; have n3_ := bb BK216 hb; have n4_ := am (below_step pw hb); have n5_ := am (hbox); have n6_ := am ((by rw [hg]; exact (below_size pw) : w.heap.size ≤ gb244)); have n7_ := am ((by rw [hg]; exact (below_size pw) : w.heap.size ≤ gb244)); have n8_ := am ((by rw [hg]; exact Nat.ne_of_lt (blk_lt pk) : gb203 ≠ gb244)); have n9_ := am ((by rw [hg]; exact Nat.ne_of_gt (blk_lt pk) : gb244 ≠ gb203)); have n10_ := am ((by rw [hg]; exact Nat.ne_of_lt (blk_lt pk) : gb216 ≠ gb244)); have n11_ := am ((by rw [hg]; exact Nat.ne_of_gt (blk_lt pk) : gb244 ≠ gb216)); clear HO_217001; clear HO242; clear BK203; clear BK216; clear HB; have HO_217001 := n0_; have HO242 := n1_; have BK203 := n2_; have BK216 := n3_; have HB := n4_; have BK244 := n5_; have GW244 := n6_; have GE244 := n7_; have NB203_244 := n8_; have NB244_203 := n9_; have NB216_244 := n10_; have NB244_216 := n11_; clear n0_ n1_ n2_ n3_ n4_ n5_ n6_ n7_ n8_ n9_ n10_ n11_; clear hb hbox hg; have hnb86 := NB244_203.out; have hnc86 := NB203_244.out; have hnb87 := NB244_216.out; have hnc87 := NB216_244.out; have hcz88_0 : w85.cell? ⟨gb244, 0, none⟩ = some (.int .i64 0) := bc BK244 0; have hcz88_1 : w85.cell? ⟨gb244, 1, none⟩ = some (.slice none 0 0) := bc BK244 1; have hfz88_0 := blk_frozen BK244.out 0; have hfz88_1 := blk_frozen BK244.out 1; obtain ⟨Ao89, co89, eo89⟩ := Kd.R_slice HO242.out; subst eo89; have hcz90_0 : w85.cell? ⟨gb216, 0, none⟩ = some (.int .i64 t210) := bc BK216 0; have hcz90_1 : w85.cell? ⟨gb216, 1, none⟩ = some (.slice Ao32 t211.length co32) := bc BK216 1; have hfz90_0 := blk_frozen BK216.out 0; have hfz90_1 := blk_frozen BK216.out 1) | (go_at_call 27; (with_reducible refine (L2_isZone.calls kj61 t210 _ _ t211 t239 _ _ t240 t246 _ ?side1 ?side2 ?side3 ?side4 A81.out).mono ?_); (case side1 => refine (Kd.R_reads' (e := 120) (base := w.heap.size) (ok := fun k_ => True) (n := t211.length) (c := co32) ?_).2.2; exact (by (with_reducible repeat (first | apply Kd.R_alloc | apply Kd.R_drewN | apply Kd.R_drew)); exact (Kd.R_mono (Kd.R_far (p := ⟨gb244, 1, none⟩) (Kd.R_far (p := ⟨gb244, 0, none⟩) (Kd.R_types HO_217001.out BK244.out (by decide)) (fun _ hk => hk.2) (.int .i64 t239)) (fun _ hk => hk.2) (.slice Ao89 t240.length co89)) (fun _ h_ => h_.1)))); (case side2 => exact (Kd.R_reads' HO_217001.out).2.1); (case side3 => refine (Kd.R_reads' (e := 67) (base := w.heap.size) (ok := fun k_ => True) (n := t240.length) (c := co89) ?_).2.2; exact (by (with_reducible repeat (first | apply Kd.R_alloc | apply Kd.R_drewN | apply Kd.R_drew)); exact (Kd.R_mono (Kd.R_far (p := ⟨gb244, 1, none⟩) (Kd.R_far (p := ⟨gb244, 0, none⟩) (Kd.R_types HO242.out BK244.out (by decide)) (fun _ hk => hk.2) (.int .i64 t239)) (fun _ hk => hk.2) (.slice Ao89 t240.length co89)) (fun _ h_ => h_.1)))); (case side4 => exact (Kd.R_reads' HO242.out).2.1); rintro e w91 ⟨rfl, hb⟩; have n0_ := am (Kd.R_below (by (with_reducible repeat (first | apply Kd.R_alloc | apply Kd.R_drewN | apply Kd.R_drew)); exact (Kd.R_mono (Kd.R_far (p := ⟨gb244, 1, none⟩) (Kd.R_far (p := ⟨gb244, 0, none⟩) (Kd.R_types HO_217001.out BK244.out (by decide)) (fun _ hk => hk.2) (.int .i64 t239)) (fun _ hk => hk.2) (.slice Ao89 t240.length co89)) (fun _ h_ => h_.1))) hb); have n1_ := am (Kd.R_below (by (with_reducible repeat (first | apply Kd.R_alloc | apply Kd.R_drewN | apply Kd.R_drew)); exact (Kd.R_mono (Kd.R_far (p := ⟨gb244, 1, none⟩) (Kd.R_far (p := ⟨gb244, 0, none⟩) (Kd.R_types HO242.out BK244.out (by decide)) (fun _ hk => hk.2) (.int .i64 t239)) (fun _ hk => hk.2) (.slice Ao89 t240.length co89)) (fun _ h_ => h_.1))) hb); have n2_ := am (blk_below (g := gb203) (o := .cells #[.int .i64 a0_0, .slice A0_1 l0_1.length c0_1] 24 (0, 0)) (by (with_reducible repeat (first | refine blk_drewN ?_ _ | refine blk_drew ?_ | refine blk_alloc ?_ _)); refine blk_far ?_ NB203_244.out _; (with_reducible repeat (first | refine blk_drewN ?_ _ | refine blk_drew ?_ | refine blk_alloc ?_ _)); refine blk_far ?_ NB203_244.out _; (with_reducible repeat (first | refine blk_drewN ?_ _ | refine blk_drew ?_ | refine blk_alloc ?_ _)); exact BK203.out) hb); have n3_ := am (blk_below (g := gb216) (o := .cells #[.int .i64 t210, .slice Ao32 t211.length co32] 30 (0, 0)) (by (with_reducible repeat (first | refine blk_drewN ?_ _ | refine blk_drew ?_ | refine blk_alloc ?_ _)); refine blk_far ?_ NB216_244.out _; (with_reducible repeat (first | refine blk_drewN ?_ _ | refine blk_drew ?_ | refine blk_alloc ?_ _)); refine blk_far ?_ NB216_244.out _; (with_reducible repeat (first | refine blk_drewN ?_ _ | refine blk_drew ?_ | refine blk_alloc ?_ _)); exact BK216.out) hb); have n4_ := am (blk_below (g := gb244) (o := .cells #[.int .i64 t239, .slice Ao89 t240.length co89] 24 (0, 0)) (by (with_reducible repeat (first | refine blk_drewN ?_ _ | refine blk_drew ?_ | refine blk_alloc ?_ _)); refine blk_put (cs := #[.int .i64 t239, .slice none 0 0]) ?_ 1 _ rfl; (with_reducible repeat (first | refine blk_drewN ?_ _ | refine blk_drew ?_ | refine blk_alloc ?_ _)); refine blk_put (cs := #[.int .i64 0, .slice none 0 0]) ?_ 0 _ rfl; (with_reducible repeat (first | refine blk_drewN ?_ _ | refine blk_drew ?_ | refine blk_alloc ?_ _)); exact BK244.out) hb); have n5_ := am (below_step pw hb); clear HO_217001; clear HO242; clear BK203; clear BK216; clear BK244; clear HB; have HO_217001 := n0_; have HO242 := n1_; have BK203 := n2_; have BK216 := n3_; have BK244 := n4_; have HB := n5_; clear n0_ n1_ n2_ n3_ n4_ n5_; (try clear hb); (try clear hb2); (try clear hk); (try clear hi)))
              go_ret
              exact ⟨pe, pw⟩
            rw [if_neg c80] at H
            exact absurd H (by simp)
           have H1 : (none) = some r := by rw [if_neg (show ¬ (some q245).isNone = true by simp)] at H; exact H
           clear H
           have H := H1
           clear H1
           try simp only [errW_none, errW_some]
           exact absurd H (by simp)
          replace c78 := Bool.eq_false_iff.mpr c78
          subst c78
          have H1 : (if t215.isNone = true then (some true) else (none)) = some r := by rw [if_neg (show ¬ (false = true) by decide)] at H; exact H
          clear H
          have H := H1
          clear H1
          rcases t215 with _ | q247
          ·have H1 : (some true) = some r := by rw [if_pos (show (none : Option Int).isNone = true by rfl)] at H; exact H
           clear H
           have H := H1
           clear H1
           try simp only [errW_none, errW_some]
           as_aux_lemma =>
            obtain rfl := Option.some.inj H
            have hnb92 := NB203_216.out
            have hnc92 := NB216_203.out
            have hcz93_0 : wc.cell? ⟨gb203, 0, none⟩ = some (.int .i64 a0_0) := bc BK203 0
            have hcz93_1 : wc.cell? ⟨gb203, 1, none⟩ = some (.slice A0_1 l0_1.length c0_1) := bc BK203 1
            have hfz93_0 := blk_frozen BK203.out 0
            have hfz93_1 := blk_frozen BK203.out 1
            go_wp2_with (first | ((with_reducible refine gate_callee (f := 25) rfl ?_); refine goesL_ (some 111) rfl rfl Tryd.func25 kk rfl #[.slice A0_1 l0_1.length c0_1] rfl (by (try simp only [List.map_toArray, List.map_cons, List.map_nil]); first | done | rfl | (simp only [List.length_drop, List.length_take]; rfl)) ?_; (with_reducible refine (L2_near.calls kj61 _ _ l0_1 false _ ?side1 ?side2 A77.out).mono ?_); (case side1 => repeat (first | exact (Kd.C_below HR0_1.out HB.out) | (with_reducible refine Kd.C_alloc ?_ _) | (with_reducible refine Kd.C_drewN ?_ _) | (with_reducible refine Kd.C_drew ?_))); (case side2 => exact HC0_1.out); rintro e w' ⟨rfl, ⟨nd, rfl⟩⟩; refine ⟨_, rfl, ?_⟩))
            go_ret
            exact ⟨pe, pw⟩
          have H1 : (none) = some r := by rw [if_neg (show ¬ (some q247).isNone = true by simp)] at H; exact H
          clear H
          have H := H1
          clear H1
          try simp only [errW_none, errW_some]
          exact absurd H (by simp)
  replace c21 := Bool.eq_false_iff.mpr c21
  subst c21
  have H1 : (none) = some r := by rw [if_neg (show ¬ (false = true) by decide)] at H; exact H
  clear H
  have H := H1
  clear H1
  exact absurd H (by simp)

end Go.Proofs.YtcalcnfppnbooaaDoor.Z
