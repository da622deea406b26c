import Derived.Test.YtcalcnfppnbooaaDoorZlSp
import Derived.Test.YtcalcnfppnbooaaDoorZlEb
import Derived.Test.YtcalcnfppnbooaaDoorZlFld
import Derived.Test.YtcalcnfppnbooaaDoorZlCd
import Derived.Test.YtcalcnfppnbooaaDoorZlZj
import Derived.Test.YtcalcnfppnbooaaDoorZlZm
import Derived.Test.YtcalcnfppnbooaaDoorZlZ0
import Derived.Test.YtcalcnfppnbooaaDoorZlZ4
import Derived.Test.YtcalcnfppnbooaaDoorZlZ5
import Derived.Test.YtcalcnfppnbooaaDoorZlZ7
import Derived.Test.YtcalcnfppnbooaaDoorZlZ9
import Derived.Test.YtcalcnfppnbooaaDoorZlZ10
import Derived.Test.YtcalcnfppnbooaaDoorZlZ11
-- Written by wip/xprint.py (the session's program over the kit's print).
namespace Go.Proofs.YtcalcnfppnbooaaDoor.Z
open Go.RowKit Go.Proofs.YtcalcnfppnbooaaDoorW.PrintWords Go.Proofs.YtcalcnfppnbooaaDoorW.PrintLast Go.Proofs.YtcalcnfppnbooaaDoorW.PrintMore Go.Proofs.Rcg
attribute [local go_sem] Go.Proofs.Rcg.fld_zone1 Go.Proofs.Rcg.fld_rzone1 max2_int min2_int max_two min_two max_three min_three max_four min_four   -- for this text's walks alone
set_option linter.unusedVariables false
set_option linter.unusedSimpArgs false

/-! ### L2_ZoneLattice: function 7 -/
mutual
def L2_ZoneLattice.j0 : Nat → Bool → Bool → Int → List (S67) → Int → List (S67) → Option (Bool)
 | 0, _, _, _, _, _, _ => none
 | k + 1, x5, x32, x318000, x318001, x319000, x319001 => if x32 = true then (some x5) else ((R2_TwoZones.f k x318000 x318001 x319000 x319001).bind fun t320 => ((L2_zoneOf.f k x318000 x318001).bind fun bt321 => ((L2_zoneOf.f k x319000 x319001).bind fun bt325 => ((zone_Join.f bt321.1 bt321.2 bt325.1 bt325.2).bind fun bt329 => ((L2_zoneOf.f k x318000 x318001).bind fun bt335 => ((L2_zoneOf.f k x319000 x319001).bind fun bt339 => ((zone_Meet.f bt335.1 bt335.2 bt339.1 bt339.2).bind fun bt343 => ((L2_zoneOf.f k x318000 x318001).bind fun bt350 => ((L2_zoneOf.f k x319000 x319001).bind fun bt354 => ((zone_Within.f k bt350.1 bt350.2 bt354.1 bt354.2).bind fun bt358 => (if t320 > 0 then ((L2_coded.f bt329.2.2 t320).bind fun t360 => (if t360 = true then ((L2_coded.f bt343.2.2.2 t320).bind fun t361 => (if t361 = true then ((L2_coded.f bt358.2 t320).bind fun t362 => (if t362 = true then ((L2_noZone.f bt329.1 bt329.2.1).bind fun t363 => (if t363 = true then ((L2_noZone.f bt343.1 bt343.2.1).bind fun t364 => (if t364 = true then (if bt343.2.2.1 = true then (none) else (some (!bt358.1))) else (none))) else (none))) else (none))) else (none))) else (none))) else ((L2_near.f k x318001).bind fun t365 => (if t365 = true then ((L2_near.f k x319001).bind fun t366 => (L2_ZoneLattice.j1 k bt329.2.2 bt343.2.2.1 bt343.2.2.2 bt358.1 bt358.2 (!t366) x318000 x318001 x319000 x319001 bt329.1 bt329.2.1 bt343.1 bt343.2.1)) else (L2_ZoneLattice.j1 k bt329.2.2 bt343.2.2.1 bt343.2.2.2 bt358.1 bt358.2 true x318000 x318001 x319000 x319001 bt329.1 bt329.2.1 bt343.1 bt343.2.1))))))))))))))
def L2_ZoneLattice.j1 : Nat → Option Int → Bool → Option Int → Bool → Option Int → Bool → Int → List (S67) → Int → List (S67) → Int → List (S120) → Int → List (S120) → Option (Bool)
 | 0, _, _, _, _, _, _, _, _, _, _, _, _, _, _ => none
 | k + 1, x8, x10, x11, x12, x13, x102, x318000, x318001, x319000, x319001, x335000, x335001, x350000, x350001 => if x102 = true then (some true) else ((R2_JoinedZone.f k x318000 x318001 x319000 x319001).bind fun bt367 => (if bt367.2.2 = true then (if x8.isNone = true then ((L2_isZone.f k x335000 x335001 bt367.1 bt367.2.1).bind fun t374 => (if t374 = true then (L2_ZoneLattice.j2 k x10 x11 x12 x13 x318000 x318001 x319000 x319001 x350000 x350001) else (none))) else (none)) else ((L2_coded.f x8 4).bind fun t375 => (if t375 = true then ((L2_noZone.f x335000 x335001).bind fun t376 => (if t376 = true then (L2_ZoneLattice.j2 k x10 x11 x12 x13 x318000 x318001 x319000 x319001 x350000 x350001) else (none))) else (none)))))
def L2_ZoneLattice.j2 : Nat → Bool → Option Int → Bool → Option Int → Int → List (S67) → Int → List (S67) → Int → List (S120) → Option (Bool)
 | 0, _, _, _, _, _, _, _, _, _, _ => none
 | k + 1, x10, x11, x12, x13, x318000, x318001, x319000, x319001, x350000, x350001 => (R2_MetZone.f k x318000 x318001 x319000 x319001).bind fun bt377 => ((R2_ClosedZone.f k bt377.1 bt377.2).bind fun bt381 => (if x11.isNone = true then (if (x10 == bt381.2.2) = true then ((L2_isZone.f k x350000 x350001 bt381.1 bt381.2.1).bind fun t388 => (if t388 = true then (if x13.isNone = true then ((R2_ZoneIn.f k x318000 x318001 x319000 x319001).bind fun t390 => (some (x12 == t390))) else (none)) else (none))) else (none)) else (none)))
end
def L2_ZoneLattice.f (k : Nat) (a0_0 : Int) (l0_1 : List (S67)) (a1_0 : Int) (l1_1 : List (S67)) : Option (Bool) := (L2_free.f k).bind fun t319 => (if t319 = true then (if (l0_1.length : Int) > 100 then (L2_ZoneLattice.j0 k t319 true a0_0 l0_1 a1_0 l1_1) else (L2_ZoneLattice.j0 k t319 (decide ((l1_1.length : Int) > 100)) a0_0 l0_1 a1_0 l1_1)) else (L2_ZoneLattice.j0 k t319 true a0_0 l0_1 a1_0 l1_1))
theorem L2_ZoneLattice.mono_l : ∀ k, (∀ y0 y1 y2 y3 y4 y5, LeO (L2_ZoneLattice.j0 k y0 y1 y2 y3 y4 y5) (L2_ZoneLattice.j0 (k + 1) y0 y1 y2 y3 y4 y5)) ∧ (∀ y0 y1 y2 y3 y4 y5 y6 y7 y8 y9 y10 y11 y12 y13, LeO (L2_ZoneLattice.j1 k y0 y1 y2 y3 y4 y5 y6 y7 y8 y9 y10 y11 y12 y13) (L2_ZoneLattice.j1 (k + 1) y0 y1 y2 y3 y4 y5 y6 y7 y8 y9 y10 y11 y12 y13)) ∧ (∀ y0 y1 y2 y3 y4 y5 y6 y7 y8 y9, LeO (L2_ZoneLattice.j2 k y0 y1 y2 y3 y4 y5 y6 y7 y8 y9) (L2_ZoneLattice.j2 (k + 1) y0 y1 y2 y3 y4 y5 y6 y7 y8 y9))
 | 0 => ⟨fun _ _ _ _ _ _ r h => by simp [L2_ZoneLattice.j0] at h, fun _ _ _ _ _ _ _ _ _ _ _ _ _ _ r h => by simp [L2_ZoneLattice.j1] at h, fun _ _ _ _ _ _ _ _ _ _ r h => by simp [L2_ZoneLattice.j2] at h⟩
 | k + 1 => by
  obtain ⟨ih0, ih1, ih2⟩ := L2_ZoneLattice.mono_l k
  refine ⟨?_, ?_, ?_⟩
  ·intro y0 y1 y2 y3 y4 y5
   unfold L2_ZoneLattice.j0
   repeat' first
   | (with_reducible exact ih0 _ _ _ _ _ _)
   | (with_reducible exact ih1 _ _ _ _ _ _ _ _ _ _ _ _ _ _)
   | (with_reducible exact ih2 _ _ _ _ _ _ _ _ _ _)
   | (with_reducible exact L2_free.mono _)
   | (with_reducible exact L2_isZone.mono _ _ _ _ _)
   | (with_reducible exact L2_near.mono _ _)
   | (with_reducible exact L2_zoneOf.mono _ _ _)
   | (with_reducible exact R2_ClosedZone.mono _ _ _)
   | (with_reducible exact R2_JoinedZone.mono _ _ _ _ _)
   | (with_reducible exact R2_MetZone.mono _ _ _ _ _)
   | (with_reducible exact R2_TwoZones.mono _ _ _ _ _)
   | (with_reducible exact R2_ZoneIn.mono _ _ _ _ _)
   | (with_reducible exact zone_Within.mono _ _ _ _ _)
   | (with_reducible exact LeO.refl _)
   | (with_reducible exact LeO.none _)
   | (with_reducible refine LeO.ite ?_ ?_)
   | (with_reducible refine LeO.bind ?_ (fun _ => ?_))
   | exact ih0 _ _ _ _ _ _
   | exact ih1 _ _ _ _ _ _ _ _ _ _ _ _ _ _
   | exact ih2 _ _ _ _ _ _ _ _ _ _
   | exact L2_free.mono _
   | exact L2_isZone.mono _ _ _ _ _
   | exact L2_near.mono _ _
   | exact L2_zoneOf.mono _ _ _
   | exact R2_ClosedZone.mono _ _ _
   | exact R2_JoinedZone.mono _ _ _ _ _
   | exact R2_MetZone.mono _ _ _ _ _
   | exact R2_TwoZones.mono _ _ _ _ _
   | exact R2_ZoneIn.mono _ _ _ _ _
   | exact zone_Within.mono _ _ _ _ _
   | exact LeO.none _
   | refine LeO.ite ?_ ?_
   | refine LeO.bind ?_ (fun _ => ?_)
  ·intro y0 y1 y2 y3 y4 y5 y6 y7 y8 y9 y10 y11 y12 y13
   unfold L2_ZoneLattice.j1
   repeat' first
   | (with_reducible exact ih0 _ _ _ _ _ _)
   | (with_reducible exact ih1 _ _ _ _ _ _ _ _ _ _ _ _ _ _)
   | (with_reducible exact ih2 _ _ _ _ _ _ _ _ _ _)
   | (with_reducible exact L2_free.mono _)
   | (with_reducible exact L2_isZone.mono _ _ _ _ _)
   | (with_reducible exact L2_near.mono _ _)
   | (with_reducible exact L2_zoneOf.mono _ _ _)
   | (with_reducible exact R2_ClosedZone.mono _ _ _)
   | (with_reducible exact R2_JoinedZone.mono _ _ _ _ _)
   | (with_reducible exact R2_MetZone.mono _ _ _ _ _)
   | (with_reducible exact R2_TwoZones.mono _ _ _ _ _)
   | (with_reducible exact R2_ZoneIn.mono _ _ _ _ _)
   | (with_reducible exact zone_Within.mono _ _ _ _ _)
   | (with_reducible exact LeO.refl _)
   | (with_reducible exact LeO.none _)
   | (with_reducible refine LeO.ite ?_ ?_)
   | (with_reducible refine LeO.bind ?_ (fun _ => ?_))
   | exact ih0 _ _ _ _ _ _
   | exact ih1 _ _ _ _ _ _ _ _ _ _ _ _ _ _
   | exact ih2 _ _ _ _ _ _ _ _ _ _
   | exact L2_free.mono _
   | exact L2_isZone.mono _ _ _ _ _
   | exact L2_near.mono _ _
   | exact L2_zoneOf.mono _ _ _
   | exact R2_ClosedZone.mono _ _ _
   | exact R2_JoinedZone.mono _ _ _ _ _
   | exact R2_MetZone.mono _ _ _ _ _
   | exact R2_TwoZones.mono _ _ _ _ _
   | exact R2_ZoneIn.mono _ _ _ _ _
   | exact zone_Within.mono _ _ _ _ _
   | exact LeO.none _
   | refine LeO.ite ?_ ?_
   | refine LeO.bind ?_ (fun _ => ?_)
  intro y0 y1 y2 y3 y4 y5 y6 y7 y8 y9
  unfold L2_ZoneLattice.j2
  repeat' first
  | (with_reducible exact ih0 _ _ _ _ _ _)
  | (with_reducible exact ih1 _ _ _ _ _ _ _ _ _ _ _ _ _ _)
  | (with_reducible exact ih2 _ _ _ _ _ _ _ _ _ _)
  | (with_reducible exact L2_free.mono _)
  | (with_reducible exact L2_isZone.mono _ _ _ _ _)
  | (with_reducible exact L2_near.mono _ _)
  | (with_reducible exact L2_zoneOf.mono _ _ _)
  | (with_reducible exact R2_ClosedZone.mono _ _ _)
  | (with_reducible exact R2_JoinedZone.mono _ _ _ _ _)
  | (with_reducible exact R2_MetZone.mono _ _ _ _ _)
  | (with_reducible exact R2_TwoZones.mono _ _ _ _ _)
  | (with_reducible exact R2_ZoneIn.mono _ _ _ _ _)
  | (with_reducible exact zone_Within.mono _ _ _ _ _)
  | (with_reducible exact LeO.refl _)
  | (with_reducible exact LeO.none _)
  | (with_reducible refine LeO.ite ?_ ?_)
  | (with_reducible refine LeO.bind ?_ (fun _ => ?_))
  | exact ih0 _ _ _ _ _ _
  | exact ih1 _ _ _ _ _ _ _ _ _ _ _ _ _ _
  | exact ih2 _ _ _ _ _ _ _ _ _ _
  | exact L2_free.mono _
  | exact L2_isZone.mono _ _ _ _ _
  | exact L2_near.mono _ _
  | exact L2_zoneOf.mono _ _ _
  | exact R2_ClosedZone.mono _ _ _
  | exact R2_JoinedZone.mono _ _ _ _ _
  | exact R2_MetZone.mono _ _ _ _ _
  | exact R2_TwoZones.mono _ _ _ _ _
  | exact R2_ZoneIn.mono _ _ _ _ _
  | exact zone_Within.mono _ _ _ _ _
  | exact LeO.none _
  | refine LeO.ite ?_ ?_
  | refine LeO.bind ?_ (fun _ => ?_)
theorem L2_ZoneLattice.mono : ∀ a0 a1 a2 a3 k, LeO (L2_ZoneLattice.f k a0 a1 a2 a3) (L2_ZoneLattice.f (k + 1) a0 a1 a2 a3) := by
 intro a0 a1 a2 a3 k
 obtain ⟨ih0, ih1, ih2⟩ := L2_ZoneLattice.mono_l k
 unfold L2_ZoneLattice.f
 repeat' first
   | (with_reducible exact ih0 _ _ _ _ _ _)
   | (with_reducible exact ih1 _ _ _ _ _ _ _ _ _ _ _ _ _ _)
   | (with_reducible exact ih2 _ _ _ _ _ _ _ _ _ _)
   | (with_reducible exact L2_free.mono _)
   | (with_reducible exact L2_isZone.mono _ _ _ _ _)
   | (with_reducible exact L2_near.mono _ _)
   | (with_reducible exact L2_zoneOf.mono _ _ _)
   | (with_reducible exact R2_ClosedZone.mono _ _ _)
   | (with_reducible exact R2_JoinedZone.mono _ _ _ _ _)
   | (with_reducible exact R2_MetZone.mono _ _ _ _ _)
   | (with_reducible exact R2_TwoZones.mono _ _ _ _ _)
   | (with_reducible exact R2_ZoneIn.mono _ _ _ _ _)
   | (with_reducible exact zone_Within.mono _ _ _ _ _)
   | (with_reducible exact LeO.refl _)
   | (with_reducible exact LeO.none _)
   | (with_reducible refine LeO.ite ?_ ?_)
   | (with_reducible refine LeO.bind ?_ (fun _ => ?_))
   | exact ih0 _ _ _ _ _ _
   | exact ih1 _ _ _ _ _ _ _ _ _ _ _ _ _ _
   | exact ih2 _ _ _ _ _ _ _ _ _ _
   | exact L2_free.mono _
   | exact L2_isZone.mono _ _ _ _ _
   | exact L2_near.mono _ _
   | exact L2_zoneOf.mono _ _ _
   | exact R2_ClosedZone.mono _ _ _
   | exact R2_JoinedZone.mono _ _ _ _ _
   | exact R2_MetZone.mono _ _ _ _ _
   | exact R2_TwoZones.mono _ _ _ _ _
   | exact R2_ZoneIn.mono _ _ _ _ _
   | exact zone_Within.mono _ _ _ _ _
   | exact LeO.none _
   | refine LeO.ite ?_ ?_
   | refine LeO.bind ?_ (fun _ => ?_)
def L2_ZoneLattice.T5 : Bool × List (List Nat × List Nat) := (true, [([], []), ([0], [0]), ([], []), ([2, 1], [2]), ([1, 3, 3], [1, 3]), ([4], [4]), ([5], [5]), ([5], [5]), ([], []), ([8, 6, 4, 0, 1, 2, 3, 4, 5, 6, 8], [6, 8]), ([7, 9, 0, 1, 2, 3, 4, 5, 6, 7, 8, 9], [7])])
def L2_ZoneLattice.B5 : List Nat := [0, 1, 0, 7, 15, 31, 63, 63, 0, 383, 1023]
theorem L2_ZoneLattice.tab5 : rtab .any (opsOf Tryd.f7 5) = L2_ZoneLattice.T5 := by kernel_rfl
theorem L2_ZoneLattice.bits5 : waitsOk L2_ZoneLattice.T5.2 L2_ZoneLattice.B5 = true := by kernel_rfl
def L2_ZoneLattice.T6 : Bool × List (List Nat × List Nat) := (true, [([], []), ([0], [0]), ([], []), ([2, 1], [2]), ([1, 3, 3], [1, 3]), ([4], [4]), ([5], [5]), ([5], [5]), ([5], [5]), ([], []), ([9, 6, 4, 0, 1, 2, 3, 4, 5, 6, 9], [6, 9]), ([7, 10, 0, 1, 2, 3, 4, 5, 6, 7, 9, 10], [7]), ([8, 11, 0, 1, 2, 3, 4, 5, 6, 7, 8, 9, 10, 11], [8])])
def L2_ZoneLattice.B6 : List Nat := [0, 1, 0, 7, 15, 31, 63, 63, 63, 0, 639, 1791, 4095]
theorem L2_ZoneLattice.tab6 : rtab .any (opsOf Tryd.f7 6) = L2_ZoneLattice.T6 := by kernel_rfl
theorem L2_ZoneLattice.bits6 : waitsOk L2_ZoneLattice.T6.2 L2_ZoneLattice.B6 = true := by kernel_rfl
def L2_ZoneLattice.T7 : Bool × List (List Nat × List Nat) := (true, [([], []), ([0], [0]), ([], []), ([2, 1], [2]), ([1, 3, 3], [1, 3]), ([4], [4]), ([5], [5]), ([5], [5]), ([6, 4, 0, 1, 2, 3, 4, 5, 6], [6]), ([7, 8, 0, 1, 2, 3, 4, 5, 6, 7, 8], [7])])
def L2_ZoneLattice.B7 : List Nat := [0, 1, 0, 7, 15, 31, 63, 63, 127, 511]
theorem L2_ZoneLattice.tab7 : rtab .any (opsOf Tryd.f7 7) = L2_ZoneLattice.T7 := by kernel_rfl
theorem L2_ZoneLattice.bits7 : waitsOk L2_ZoneLattice.T7.2 L2_ZoneLattice.B7 = true := by kernel_rfl

end Go.Proofs.YtcalcnfppnbooaaDoor.Z
