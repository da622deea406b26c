-- Written by wip/xprint.py (the session's program over the kit's print).
import Derived.Test.YtjpboodkmhikpaaDoorEb
import Derived.Test.YtjpboodkmhikpaaDoorFld
import Derived.Test.YtjpboodkmhikpaaDoorZj
import Derived.Test.YtjpboodkmhikpaaDoorZm
import Derived.Test.YtjpboodkmhikpaaDoorZ0
import Derived.Test.YtjpboodkmhikpaaDoorZ1
import Derived.Test.YtjpboodkmhikpaaDoorZ3
import Derived.Test.YtjpboodkmhikpaaDoorZ4
import Derived.Test.YtjpboodkmhikpaaDoorZ5
namespace Go.Proofs.YtjpboodkmhikpaaDoor.Z
open Go.RowKit Go.Proofs.YtjpboodkmhikpaaDoorW.PrintWords Go.Proofs.YtjpboodkmhikpaaDoorW.PrintLast Go.Proofs.YtjpboodkmhikpaaDoorW.PrintMore Go.Proofs.Rcg
attribute [local go_sem] Go.Proofs.Rcg.fld_zone1 Go.Proofs.Rcg.fld_rzone1 max2_int min2_int max_two min_two max_three min_three max_four min_four   -- for this text's walks alone
set_option linter.unusedVariables false
set_option linter.unusedSimpArgs false

attribute [local go_sem high] eqA42
/-! ### L2_ZoneTriangle: function 9 -/
mutual
def L2_ZoneTriangle.j0 : Nat → Bool → Bool → Int → List (S112) → Option (Bool)
 | 0, _, _, _, _ => none
 | k + 1, x3, x35, x233000, x233001 => if x35 = true then (some x3) else ((L2_zoneOf.f k x233000 x233001).bind fun bt235 => ((zone_Close.f bt235.1 bt235.2).bind fun bt239 => (if bt239.2.2.2.isNone = true then (if bt239.2.2.1 = true then (L2_ZoneTriangle.j1 k bt239.2.2.1 none ((bt239.2.1.length : Int) != (wrap64 ((wrap64 (x233000 + 1)) * (wrap64 (x233000 + 1))))) x233000 x233001 bt239.1 bt239.2.1) else (L2_ZoneTriangle.j1 k bt239.2.2.1 none true x233000 x233001 bt239.1 bt239.2.1)) else (L2_ZoneTriangle.j1 k bt239.2.2.1 (some (bt239.2.2.2.getD 0)) true x233000 x233001 bt239.1 bt239.2.1))))
def L2_ZoneTriangle.j1 : Nat → Bool → Option Int → Bool → Int → List (S112) → Int → List (S42) → Option (Bool)
 | 0, _, _, _, _, _, _, _ => none
 | k + 1, x5, x6, x62, x233000, x233001, x246000, x246001 => if x62 = true then (if x6.isNone = true then (some (!x5)) else (some true)) else (L2_ZoneTriangle.l0 k (wrap64 (x233000 + 1)) 0 x233000 x233001 x246000 x246001)
def L2_ZoneTriangle.l0 : Nat → Int → Int → Int → List (S112) → Int → List (S42) → Option (Bool)
 | 0, _, _, _, _, _, _ => none
 | k + 1, x7, x8, x233000, x233001, x246000, x246001 => if x8 < x7 then (if 0 ≤ (wrap64 ((wrap64 (x8 * x7)) + x8)) then (if (wrap64 ((wrap64 (x8 * x7)) + x8)) < (x246001.length : Int) then (if (!((rd_T42 x246001 (wrap64 ((wrap64 (x8 * x7)) + x8))).f0) || (!(((rd_T42 x246001 (wrap64 ((wrap64 (x8 * x7)) + x8))).f1) == 0))) = true then (none) else (L2_ZoneTriangle.l1 k x7 x8 0 x233000 x233001 x246000 x246001)) else (none)) else (none)) else ((zone_Close.f x246000 x246001).bind fun bt255 => ((L2_zoneOf.f k x233000 x233001).bind fun bt262 => ((L2_zoneOf.f k x233000 x233001).bind fun bt266 => ((zone_Join.f bt262.1 bt262.2 bt266.1 bt266.2).bind fun bt270 => ((L2_zoneOf.f k x233000 x233001).bind fun bt276 => ((L2_zoneOf.f k x233000 x233001).bind fun bt280 => ((zone_Meet.f bt276.1 bt276.2 bt280.1 bt280.2).bind fun bt284 => ((L2_zoneBack.f k x246000 x246001).bind fun bt291 => (if bt255.2.2.2.isNone = true then (if bt255.2.2.1 = true then (if bt270.2.2.isNone = true then (if bt284.2.2.2.isNone = true then (L2_ZoneTriangle.j5 k (!bt284.2.2.1) bt255.1 bt255.2.1 bt270.1 bt270.2.1 bt284.1 bt284.2.1 bt291.1 bt291.2) else (L2_ZoneTriangle.j5 k true bt255.1 bt255.2.1 bt270.1 bt270.2.1 bt284.1 bt284.2.1 bt291.1 bt291.2)) else (L2_ZoneTriangle.j5 k true bt255.1 bt255.2.1 bt270.1 bt270.2.1 bt284.1 bt284.2.1 bt291.1 bt291.2)) else (L2_ZoneTriangle.j5 k true bt255.1 bt255.2.1 bt270.1 bt270.2.1 bt284.1 bt284.2.1 bt291.1 bt291.2)) else (L2_ZoneTriangle.j5 k true bt255.1 bt255.2.1 bt270.1 bt270.2.1 bt284.1 bt284.2.1 bt291.1 bt291.2))))))))))
def L2_ZoneTriangle.l1 : Nat → Int → Int → Int → Int → List (S112) → Int → List (S42) → Option (Bool)
 | 0, _, _, _, _, _, _, _ => none
 | k + 1, x7, x8, x9, x233000, x233001, x246000, x246001 => if x9 < x7 then (L2_ZoneTriangle.l2 k x7 x8 x9 0 x233000 x233001 x246000 x246001) else (L2_ZoneTriangle.l0 k x7 (wrap64 (x8 + 1)) x233000 x233001 x246000 x246001)
def L2_ZoneTriangle.l2 : Nat → Int → Int → Int → Int → Int → List (S112) → Int → List (S42) → Option (Bool)
 | 0, _, _, _, _, _, _, _, _ => none
 | k + 1, x7, x8, x9, x10, x233000, x233001, x246000, x246001 => if x10 < x7 then (if 0 ≤ (wrap64 ((wrap64 (x8 * x7)) + x10)) then (if (wrap64 ((wrap64 (x8 * x7)) + x10)) < (x246001.length : Int) then (if 0 ≤ (wrap64 ((wrap64 (x10 * x7)) + x9)) then (if (wrap64 ((wrap64 (x10 * x7)) + x9)) < (x246001.length : Int) then (if 0 ≤ (wrap64 ((wrap64 (x8 * x7)) + x9)) then (if (wrap64 ((wrap64 (x8 * x7)) + x9)) < (x246001.length : Int) then (if (rd_T42 x246001 (wrap64 ((wrap64 (x8 * x7)) + x10))).f0 = true then (if (rd_T42 x246001 (wrap64 ((wrap64 (x10 * x7)) + x9))).f0 = true then (if ((rd_T42 x246001 (wrap64 ((wrap64 (x8 * x7)) + x9))).f0 = true) then (if ((rd_T42 x246001 (wrap64 ((wrap64 (x8 * x7)) + x9))).f1) > (wrap64 (((rd_T42 x246001 (wrap64 ((wrap64 (x8 * x7)) + x10))).f1) + ((rd_T42 x246001 (wrap64 ((wrap64 (x10 * x7)) + x9))).f1))) then (none) else (L2_ZoneTriangle.l2 k x7 x8 x9 (wrap64 (x10 + 1)) x233000 x233001 x246000 x246001)) else (none)) else (L2_ZoneTriangle.l2 k x7 x8 x9 (wrap64 (x10 + 1)) x233000 x233001 x246000 x246001)) else (L2_ZoneTriangle.l2 k x7 x8 x9 (wrap64 (x10 + 1)) x233000 x233001 x246000 x246001)) else (none)) else (none)) else (none)) else (none)) else (none)) else (none)) else (L2_ZoneTriangle.l1 k x7 x8 (wrap64 (x9 + 1)) x233000 x233001 x246000 x246001)
def L2_ZoneTriangle.j5 : Nat → Bool → Int → List (S42) → Int → List (S42) → Int → List (S42) → Int → List (S112) → Option (Bool)
 | 0, _, _, _, _, _, _, _, _, _ => none
 | k + 1, x188, x262000, x262001, x276000, x276001, x291000, x291001, x296000, x296001 => if x188 = true then (none) else ((L2_isZone.f k x262000 x262001 x296000 x296001).bind fun t299 => (if t299 = true then ((L2_isZone.f k x276000 x276001 x296000 x296001).bind fun t300 => (if t300 = true then ((L2_isZone.f k x291000 x291001 x296000 x296001).bind fun t301 => (some t301)) else (none))) else (none)))
end
def L2_ZoneTriangle.f (k : Nat) (a0_0 : Int) (l0_1 : List (S112)) : Option (Bool) := (L2_free.f k).bind fun t233 => (if t233 = true then (if (l0_1.length : Int) > 100 then (L2_ZoneTriangle.j0 k t233 true a0_0 l0_1) else ((L2_near.f k l0_1).bind fun t234 => (L2_ZoneTriangle.j0 k t233 (!t234) a0_0 l0_1))) else (L2_ZoneTriangle.j0 k t233 true a0_0 l0_1))
theorem L2_ZoneTriangle.mono_l : ∀ k, (∀ y0 y1 y2 y3, LeO (L2_ZoneTriangle.j0 k y0 y1 y2 y3) (L2_ZoneTriangle.j0 (k + 1) y0 y1 y2 y3)) ∧ (∀ y0 y1 y2 y3 y4 y5 y6, LeO (L2_ZoneTriangle.j1 k y0 y1 y2 y3 y4 y5 y6) (L2_ZoneTriangle.j1 (k + 1) y0 y1 y2 y3 y4 y5 y6)) ∧ (∀ y0 y1 y2 y3 y4 y5, LeO (L2_ZoneTriangle.l0 k y0 y1 y2 y3 y4 y5) (L2_ZoneTriangle.l0 (k + 1) y0 y1 y2 y3 y4 y5)) ∧ (∀ y0 y1 y2 y3 y4 y5 y6, LeO (L2_ZoneTriangle.l1 k y0 y1 y2 y3 y4 y5 y6) (L2_ZoneTriangle.l1 (k + 1) y0 y1 y2 y3 y4 y5 y6)) ∧ (∀ y0 y1 y2 y3 y4 y5 y6 y7, LeO (L2_ZoneTriangle.l2 k y0 y1 y2 y3 y4 y5 y6 y7) (L2_ZoneTriangle.l2 (k + 1) y0 y1 y2 y3 y4 y5 y6 y7)) ∧ (∀ y0 y1 y2 y3 y4 y5 y6 y7 y8, LeO (L2_ZoneTriangle.j5 k y0 y1 y2 y3 y4 y5 y6 y7 y8) (L2_ZoneTriangle.j5 (k + 1) y0 y1 y2 y3 y4 y5 y6 y7 y8))
 | 0 => ⟨fun _ _ _ _ r h => by simp [L2_ZoneTriangle.j0] at h, fun _ _ _ _ _ _ _ r h => by simp [L2_ZoneTriangle.j1] at h, fun _ _ _ _ _ _ r h => by simp [L2_ZoneTriangle.l0] at h, fun _ _ _ _ _ _ _ r h => by simp [L2_ZoneTriangle.l1] at h, fun _ _ _ _ _ _ _ _ r h => by simp [L2_ZoneTriangle.l2] at h, fun _ _ _ _ _ _ _ _ _ r h => by simp [L2_ZoneTriangle.j5] at h⟩
 | k + 1 => by
  obtain ⟨ih0, ih1, ih2, ih3, ih4, ih5⟩ := L2_ZoneTriangle.mono_l k
  refine ⟨?_, ?_, ?_, ?_, ?_, ?_⟩
  ·intro y0 y1 y2 y3
   unfold L2_ZoneTriangle.j0
   repeat' first
   | (with_reducible exact ih0 _ _ _ _)
   | (with_reducible exact ih1 _ _ _ _ _ _ _)
   | (with_reducible exact ih2 _ _ _ _ _ _)
   | (with_reducible exact ih3 _ _ _ _ _ _ _)
   | (with_reducible exact ih4 _ _ _ _ _ _ _ _)
   | (with_reducible exact ih5 _ _ _ _ _ _ _ _ _)
   | (with_reducible exact L2_free.mono _)
   | (with_reducible exact L2_isZone.mono _ _ _ _ _)
   | (with_reducible exact L2_near.mono _ _)
   | (with_reducible exact L2_zoneBack.mono _ _ _)
   | (with_reducible exact L2_zoneOf.mono _ _ _)
   | (with_reducible exact LeO.refl _)
   | (with_reducible exact LeO.none _)
   | (with_reducible refine LeO.ite ?_ ?_)
   | (with_reducible refine LeO.bind ?_ (fun _ => ?_))
   | exact ih0 _ _ _ _
   | exact ih1 _ _ _ _ _ _ _
   | exact ih2 _ _ _ _ _ _
   | exact ih3 _ _ _ _ _ _ _
   | exact ih4 _ _ _ _ _ _ _ _
   | exact ih5 _ _ _ _ _ _ _ _ _
   | exact L2_free.mono _
   | exact L2_isZone.mono _ _ _ _ _
   | exact L2_near.mono _ _
   | exact L2_zoneBack.mono _ _ _
   | exact L2_zoneOf.mono _ _ _
   | exact LeO.none _
   | refine LeO.ite ?_ ?_
   | refine LeO.bind ?_ (fun _ => ?_)
  ·intro y0 y1 y2 y3 y4 y5 y6
   unfold L2_ZoneTriangle.j1
   repeat' first
   | (with_reducible exact ih0 _ _ _ _)
   | (with_reducible exact ih1 _ _ _ _ _ _ _)
   | (with_reducible exact ih2 _ _ _ _ _ _)
   | (with_reducible exact ih3 _ _ _ _ _ _ _)
   | (with_reducible exact ih4 _ _ _ _ _ _ _ _)
   | (with_reducible exact ih5 _ _ _ _ _ _ _ _ _)
   | (with_reducible exact L2_free.mono _)
   | (with_reducible exact L2_isZone.mono _ _ _ _ _)
   | (with_reducible exact L2_near.mono _ _)
   | (with_reducible exact L2_zoneBack.mono _ _ _)
   | (with_reducible exact L2_zoneOf.mono _ _ _)
   | (with_reducible exact LeO.refl _)
   | (with_reducible exact LeO.none _)
   | (with_reducible refine LeO.ite ?_ ?_)
   | (with_reducible refine LeO.bind ?_ (fun _ => ?_))
   | exact ih0 _ _ _ _
   | exact ih1 _ _ _ _ _ _ _
   | exact ih2 _ _ _ _ _ _
   | exact ih3 _ _ _ _ _ _ _
   | exact ih4 _ _ _ _ _ _ _ _
   | exact ih5 _ _ _ _ _ _ _ _ _
   | exact L2_free.mono _
   | exact L2_isZone.mono _ _ _ _ _
   | exact L2_near.mono _ _
   | exact L2_zoneBack.mono _ _ _
   | exact L2_zoneOf.mono _ _ _
   | exact LeO.none _
   | refine LeO.ite ?_ ?_
   | refine LeO.bind ?_ (fun _ => ?_)
  ·intro y0 y1 y2 y3 y4 y5
   unfold L2_ZoneTriangle.l0
   repeat' first
   | (with_reducible exact ih0 _ _ _ _)
   | (with_reducible exact ih1 _ _ _ _ _ _ _)
   | (with_reducible exact ih2 _ _ _ _ _ _)
   | (with_reducible exact ih3 _ _ _ _ _ _ _)
   | (with_reducible exact ih4 _ _ _ _ _ _ _ _)
   | (with_reducible exact ih5 _ _ _ _ _ _ _ _ _)
   | (with_reducible exact L2_free.mono _)
   | (with_reducible exact L2_isZone.mono _ _ _ _ _)
   | (with_reducible exact L2_near.mono _ _)
   | (with_reducible exact L2_zoneBack.mono _ _ _)
   | (with_reducible exact L2_zoneOf.mono _ _ _)
   | (with_reducible exact LeO.refl _)
   | (with_reducible exact LeO.none _)
   | (with_reducible refine LeO.ite ?_ ?_)
   | (with_reducible refine LeO.bind ?_ (fun _ => ?_))
   | exact ih0 _ _ _ _
   | exact ih1 _ _ _ _ _ _ _
   | exact ih2 _ _ _ _ _ _
   | exact ih3 _ _ _ _ _ _ _
   | exact ih4 _ _ _ _ _ _ _ _
   | exact ih5 _ _ _ _ _ _ _ _ _
   | exact L2_free.mono _
   | exact L2_isZone.mono _ _ _ _ _
   | exact L2_near.mono _ _
   | exact L2_zoneBack.mono _ _ _
   | exact L2_zoneOf.mono _ _ _
   | exact LeO.none _
   | refine LeO.ite ?_ ?_
   | refine LeO.bind ?_ (fun _ => ?_)
  ·intro y0 y1 y2 y3 y4 y5 y6
   unfold L2_ZoneTriangle.l1
   repeat' first
   | (with_reducible exact ih0 _ _ _ _)
   | (with_reducible exact ih1 _ _ _ _ _ _ _)
   | (with_reducible exact ih2 _ _ _ _ _ _)
   | (with_reducible exact ih3 _ _ _ _ _ _ _)
   | (with_reducible exact ih4 _ _ _ _ _ _ _ _)
   | (with_reducible exact ih5 _ _ _ _ _ _ _ _ _)
   | (with_reducible exact L2_free.mono _)
   | (with_reducible exact L2_isZone.mono _ _ _ _ _)
   | (with_reducible exact L2_near.mono _ _)
   | (with_reducible exact L2_zoneBack.mono _ _ _)
   | (with_reducible exact L2_zoneOf.mono _ _ _)
   | (with_reducible exact LeO.refl _)
   | (with_reducible exact LeO.none _)
   | (with_reducible refine LeO.ite ?_ ?_)
   | (with_reducible refine LeO.bind ?_ (fun _ => ?_))
   | exact ih0 _ _ _ _
   | exact ih1 _ _ _ _ _ _ _
   | exact ih2 _ _ _ _ _ _
   | exact ih3 _ _ _ _ _ _ _
   | exact ih4 _ _ _ _ _ _ _ _
   | exact ih5 _ _ _ _ _ _ _ _ _
   | exact L2_free.mono _
   | exact L2_isZone.mono _ _ _ _ _
   | exact L2_near.mono _ _
   | exact L2_zoneBack.mono _ _ _
   | exact L2_zoneOf.mono _ _ _
   | exact LeO.none _
   | refine LeO.ite ?_ ?_
   | refine LeO.bind ?_ (fun _ => ?_)
  ·intro y0 y1 y2 y3 y4 y5 y6 y7
   unfold L2_ZoneTriangle.l2
   repeat' first
   | (with_reducible exact ih0 _ _ _ _)
   | (with_reducible exact ih1 _ _ _ _ _ _ _)
   | (with_reducible exact ih2 _ _ _ _ _ _)
   | (with_reducible exact ih3 _ _ _ _ _ _ _)
   | (with_reducible exact ih4 _ _ _ _ _ _ _ _)
   | (with_reducible exact ih5 _ _ _ _ _ _ _ _ _)
   | (with_reducible exact L2_free.mono _)
   | (with_reducible exact L2_isZone.mono _ _ _ _ _)
   | (with_reducible exact L2_near.mono _ _)
   | (with_reducible exact L2_zoneBack.mono _ _ _)
   | (with_reducible exact L2_zoneOf.mono _ _ _)
   | (with_reducible exact LeO.refl _)
   | (with_reducible exact LeO.none _)
   | (with_reducible refine LeO.ite ?_ ?_)
   | (with_reducible refine LeO.bind ?_ (fun _ => ?_))
   | exact ih0 _ _ _ _
   | exact ih1 _ _ _ _ _ _ _
   | exact ih2 _ _ _ _ _ _
   | exact ih3 _ _ _ _ _ _ _
   | exact ih4 _ _ _ _ _ _ _ _
   | exact ih5 _ _ _ _ _ _ _ _ _
   | exact L2_free.mono _
   | exact L2_isZone.mono _ _ _ _ _
   | exact L2_near.mono _ _
   | exact L2_zoneBack.mono _ _ _
   | exact L2_zoneOf.mono _ _ _
   | exact LeO.none _
   | refine LeO.ite ?_ ?_
   | refine LeO.bind ?_ (fun _ => ?_)
  intro y0 y1 y2 y3 y4 y5 y6 y7 y8
  unfold L2_ZoneTriangle.j5
  repeat' first
  | (with_reducible exact ih0 _ _ _ _)
  | (with_reducible exact ih1 _ _ _ _ _ _ _)
  | (with_reducible exact ih2 _ _ _ _ _ _)
  | (with_reducible exact ih3 _ _ _ _ _ _ _)
  | (with_reducible exact ih4 _ _ _ _ _ _ _ _)
  | (with_reducible exact ih5 _ _ _ _ _ _ _ _ _)
  | (with_reducible exact L2_free.mono _)
  | (with_reducible exact L2_isZone.mono _ _ _ _ _)
  | (with_reducible exact L2_near.mono _ _)
  | (with_reducible exact L2_zoneBack.mono _ _ _)
  | (with_reducible exact L2_zoneOf.mono _ _ _)
  | (with_reducible exact LeO.refl _)
  | (with_reducible exact LeO.none _)
  | (with_reducible refine LeO.ite ?_ ?_)
  | (with_reducible refine LeO.bind ?_ (fun _ => ?_))
  | exact ih0 _ _ _ _
  | exact ih1 _ _ _ _ _ _ _
  | exact ih2 _ _ _ _ _ _
  | exact ih3 _ _ _ _ _ _ _
  | exact ih4 _ _ _ _ _ _ _ _
  | exact ih5 _ _ _ _ _ _ _ _ _
  | exact L2_free.mono _
  | exact L2_isZone.mono _ _ _ _ _
  | exact L2_near.mono _ _
  | exact L2_zoneBack.mono _ _ _
  | exact L2_zoneOf.mono _ _ _
  | exact LeO.none _
  | refine LeO.ite ?_ ?_
  | refine LeO.bind ?_ (fun _ => ?_)
theorem L2_ZoneTriangle.mono : ∀ a0 a1 k, LeO (L2_ZoneTriangle.f k a0 a1) (L2_ZoneTriangle.f (k + 1) a0 a1) := by
 intro a0 a1 k
 obtain ⟨ih0, ih1, ih2, ih3, ih4, ih5⟩ := L2_ZoneTriangle.mono_l k
 unfold L2_ZoneTriangle.f
 repeat' first
   | (with_reducible exact ih0 _ _ _ _)
   | (with_reducible exact ih1 _ _ _ _ _ _ _)
   | (with_reducible exact ih2 _ _ _ _ _ _)
   | (with_reducible exact ih3 _ _ _ _ _ _ _)
   | (with_reducible exact ih4 _ _ _ _ _ _ _ _)
   | (with_reducible exact ih5 _ _ _ _ _ _ _ _ _)
   | (with_reducible exact L2_free.mono _)
   | (with_reducible exact L2_isZone.mono _ _ _ _ _)
   | (with_reducible exact L2_near.mono _ _)
   | (with_reducible exact L2_zoneBack.mono _ _ _)
   | (with_reducible exact L2_zoneOf.mono _ _ _)
   | (with_reducible exact LeO.refl _)
   | (with_reducible exact LeO.none _)
   | (with_reducible refine LeO.ite ?_ ?_)
   | (with_reducible refine LeO.bind ?_ (fun _ => ?_))
   | exact ih0 _ _ _ _
   | exact ih1 _ _ _ _ _ _ _
   | exact ih2 _ _ _ _ _ _
   | exact ih3 _ _ _ _ _ _ _
   | exact ih4 _ _ _ _ _ _ _ _
   | exact ih5 _ _ _ _ _ _ _ _ _
   | exact L2_free.mono _
   | exact L2_isZone.mono _ _ _ _ _
   | exact L2_near.mono _ _
   | exact L2_zoneBack.mono _ _ _
   | exact L2_zoneOf.mono _ _ _
   | exact LeO.none _
   | refine LeO.ite ?_ ?_
   | refine LeO.bind ?_ (fun _ => ?_)
def L2_ZoneTriangle.T25 : Bool × List (List Nat × List Nat) := (true, [([], []), ([0], [0]), ([], []), ([2, 1], [2]), ([1, 3, 3], [1, 3]), ([4], [4]), ([5], [5]), ([5], [5]), ([], []), ([8, 6, 4, 0, 1, 2, 3, 4, 5, 6, 8], [6, 8]), ([7, 9, 0, 1, 2, 3, 4, 5, 6, 7, 8, 9], [7])])
def L2_ZoneTriangle.B25 : List Nat := [0, 1, 0, 7, 15, 31, 63, 63, 0, 383, 1023]
theorem L2_ZoneTriangle.tab25 : rtab .any (opsOf Tryd.f9 25) = L2_ZoneTriangle.T25 := by kernel_rfl
theorem L2_ZoneTriangle.bits25 : waitsOk L2_ZoneTriangle.T25.2 L2_ZoneTriangle.B25 = true := by kernel_rfl
def L2_ZoneTriangle.T26 : Bool × List (List Nat × List Nat) := (true, [([], []), ([0], [0]), ([], []), ([2, 1], [2]), ([1, 3, 3], [1, 3]), ([4], [4]), ([5], [5]), ([5], [5]), ([5], [5]), ([], []), ([9, 6, 4, 0, 1, 2, 3, 4, 5, 6, 9], [6, 9]), ([7, 10, 0, 1, 2, 3, 4, 5, 6, 7, 9, 10], [7]), ([8, 11, 0, 1, 2, 3, 4, 5, 6, 7, 8, 9, 10, 11], [8])])
def L2_ZoneTriangle.B26 : List Nat := [0, 1, 0, 7, 15, 31, 63, 63, 63, 0, 639, 1791, 4095]
theorem L2_ZoneTriangle.tab26 : rtab .any (opsOf Tryd.f9 26) = L2_ZoneTriangle.T26 := by kernel_rfl
theorem L2_ZoneTriangle.bits26 : waitsOk L2_ZoneTriangle.T26.2 L2_ZoneTriangle.B26 = true := by kernel_rfl

end Go.Proofs.YtjpboodkmhikpaaDoor.Z
