import Derived.Test.YtjpboodkmhikpaaDoorOrSp
import Derived.Test.YtjpboodkmhikpaaDoorOrEb
import Derived.Test.YtjpboodkmhikpaaDoorOrQg
import Derived.Test.YtjpboodkmhikpaaDoorOrZ0
import Derived.Test.YtjpboodkmhikpaaDoorOrZ4
import Derived.Test.YtjpboodkmhikpaaDoorOrZ13
import Derived.Test.YtjpboodkmhikpaaDoorOrZ14
-- Written by wip/xprint.py (the session's program over the kit's print).
namespace Go.Proofs.YtjpboodkmhikpaaDoor.Z
open Go.RowKit Go.Proofs.YtjpboodkmhikpaaDoorW.PrintWords Go.Proofs.YtjpboodkmhikpaaDoorW.PrintLast Go.Proofs.YtjpboodkmhikpaaDoorW.PrintMore Go.Proofs.Rcg Go.Proofs.Rco
attribute [local go_sem] max2_int min2_int max_two min_two max_three min_three max_four min_four   -- for this text's walks alone
set_option linter.unusedVariables false
set_option linter.unusedSimpArgs false

/-! ### L2_OctReached: function 12 -/
mutual
def L2_OctReached.j0 : Nat → Int → Int → Int → Int → Bool → Bool → Int → List (S112) → Option (Bool)
 | 0, _, _, _, _, _, _, _, _ => none
 | k + 1, x1, x2, x3, x4, x11, x38, x519000, x519001 => if x38 = true then (some x11) else ((L2_octOf.f k x519000 x519001).bind fun bt521 => ((octagon_Close.f bt521.1 bt521.2).bind fun bt525 => (if bt525.2.2.2.isNone = true then (if bt525.2.2.1 = true then (if x2 < 0 then (L2_OctReached.j1 k x1 x2 x3 x4 true x519000 x519001 bt525.1 bt525.2.1) else (if x4 < 0 then (L2_OctReached.j1 k x1 x2 x3 x4 true x519000 x519001 bt525.1 bt525.2.1) else (if x2 ≥ x519000 then (L2_OctReached.j1 k x1 x2 x3 x4 true x519000 x519001 bt525.1 bt525.2.1) else (L2_OctReached.j1 k x1 x2 x3 x4 (decide (x4 ≥ x519000)) x519000 x519001 bt525.1 bt525.2.1)))) else (L2_OctReached.j1 k x1 x2 x3 x4 true x519000 x519001 bt525.1 bt525.2.1)) else (L2_OctReached.j1 k x1 x2 x3 x4 true x519000 x519001 bt525.1 bt525.2.1))))
def L2_OctReached.j1 : Nat → Int → Int → Int → Int → Bool → Int → List (S112) → Int → List (S95) → Option (Bool)
 | 0, _, _, _, _, _, _, _, _, _ => none
 | k + 1, x1, x2, x3, x4, x72, x519000, x519001, x532000, x532001 => if x72 = true then (some true) else (if x2 = x4 then (L2_OctReached.j2 k x1 x2 x3 x4 true x519000 x519001 x532000 x532001) else (L2_OctReached.j2 k x1 x2 x3 x4 ((x532001.length : Int) != (wrap64 ((wrap64 (4 * x519000)) * x519000))) x519000 x519001 x532000 x532001))
def L2_OctReached.j2 : Nat → Int → Int → Int → Int → Bool → Int → List (S112) → Int → List (S95) → Option (Bool)
 | 0, _, _, _, _, _, _, _, _, _ => none
 | k + 1, x1, x2, x3, x4, x87, x519000, x519001, x532000, x532001 => if x87 = true then (some true) else (if x1 = 1 then (if x3 = 1 then (L2_OctReached.j3 k x1 x2 x3 x4 false x519000 x519001 x532000 x532001) else (L2_OctReached.j3 k x1 x2 x3 x4 (x3 != (-1)) x519000 x519001 x532000 x532001)) else (if x1 = (-1) then (if x3 = 1 then (L2_OctReached.j3 k x1 x2 x3 x4 false x519000 x519001 x532000 x532001) else (L2_OctReached.j3 k x1 x2 x3 x4 (x3 != (-1)) x519000 x519001 x532000 x532001)) else (L2_OctReached.j3 k x1 x2 x3 x4 true x519000 x519001 x532000 x532001)))
def L2_OctReached.j3 : Nat → Int → Int → Int → Int → Bool → Int → List (S112) → Int → List (S95) → Option (Bool)
 | 0, _, _, _, _, _, _, _, _, _ => none
 | k + 1, x1, x2, x3, x4, x101, x519000, x519001, x532000, x532001 => if x101 = true then (some true) else (if x1 < 0 then (L2_OctReached.j4 k x1 x2 x3 x4 (wrap64 ((wrap64 (2 * x2)) + 1)) x519000 x519001 x532000 x532001) else (L2_OctReached.j4 k x1 x2 x3 x4 (wrap64 (2 * x2)) x519000 x519001 x532000 x532001))
def L2_OctReached.j4 : Nat → Int → Int → Int → Int → Int → Int → List (S112) → Int → List (S95) → Option (Bool)
 | 0, _, _, _, _, _, _, _, _, _ => none
 | k + 1, x1, x2, x3, x4, x15, x519000, x519001, x532000, x532001 => if x3 < 0 then (L2_OctReached.j5 k x1 x2 x3 x4 x15 (wrap64 (2 * x4)) x519000 x519001 x532000 x532001) else (L2_OctReached.j5 k x1 x2 x3 x4 x15 (wrap64 ((wrap64 (2 * x4)) + 1)) x519000 x519001 x532000 x532001)
def L2_OctReached.j5 : Nat → Int → Int → Int → Int → Int → Int → Int → List (S112) → Int → List (S95) → Option (Bool)
 | 0, _, _, _, _, _, _, _, _, _, _ => none
 | k + 1, x1, x2, x3, x4, x15, x16, x519000, x519001, x532000, x532001 => if 0 ≤ (wrap64 ((wrap64 ((wrap64 (x16 * 2)) * x519000)) + x15)) then (if (wrap64 ((wrap64 ((wrap64 (x16 * 2)) * x519000)) + x15)) < (x532001.length : Int) then (if ((rd_T95 x532001 (wrap64 ((wrap64 ((wrap64 (x16 * 2)) * x519000)) + x15))).f0 = true) then ((L2_octOf.f k x519000 x519001).bind fun bt547 => ((octagon_Guard.f bt547.1 bt547.2 (wrap64 (-x1)) x2 (wrap64 (-x3)) x4 (wrap64 (-((rd_T95 x532001 (wrap64 ((wrap64 ((wrap64 (x16 * 2)) * x519000)) + x15))).f1)))).bind fun bt551 => ((L2_octOf.f k x519000 x519001).bind fun bt557 => ((octagon_Guard.f bt557.1 bt557.2 (wrap64 (-x1)) x2 (wrap64 (-x3)) x4 (wrap64 ((wrap64 (-((rd_T95 x532001 (wrap64 ((wrap64 ((wrap64 (x16 * 2)) * x519000)) + x15))).f1))) - 1))).bind fun bt561 => (if bt551.2.2.2.isNone = true then (if bt551.2.2.1 = true then (if bt561.2.2.2.isNone = true then (some (!bt561.2.2.1)) else (none)) else (none)) else (none)))))) else ((L2_octOf.f k x519000 x519001).bind fun bt535 => ((octagon_Guard.f bt535.1 bt535.2 (wrap64 (-x1)) x2 (wrap64 (-x3)) x4 (-33554432)).bind fun bt539 => (if bt539.2.2.2.isNone = true then (if bt539.2.2.1 = true then (some (bt539.1 == x519000)) else (none)) else (none))))) else (none)) else (none)
end
def L2_OctReached.f (k : Nat) (a0_0 : Int) (l0_1 : List (S112)) (a1 : Int) (a2 : Int) (a3 : Int) (a4 : Int) : Option (Bool) := (L2_odd.f k).bind fun t519 => (if t519 = true then (if (l0_1.length : Int) > 100 then (L2_OctReached.j0 k a1 a2 a3 a4 t519 true a0_0 l0_1) else ((L2_near.f k l0_1).bind fun t520 => (L2_OctReached.j0 k a1 a2 a3 a4 t519 (!t520) a0_0 l0_1))) else (L2_OctReached.j0 k a1 a2 a3 a4 t519 true a0_0 l0_1))
theorem L2_OctReached.mono_l : ∀ k, (∀ y0 y1 y2 y3 y4 y5 y6 y7, LeO (L2_OctReached.j0 k y0 y1 y2 y3 y4 y5 y6 y7) (L2_OctReached.j0 (k + 1) y0 y1 y2 y3 y4 y5 y6 y7)) ∧ (∀ y0 y1 y2 y3 y4 y5 y6 y7 y8, LeO (L2_OctReached.j1 k y0 y1 y2 y3 y4 y5 y6 y7 y8) (L2_OctReached.j1 (k + 1) y0 y1 y2 y3 y4 y5 y6 y7 y8)) ∧ (∀ y0 y1 y2 y3 y4 y5 y6 y7 y8, LeO (L2_OctReached.j2 k y0 y1 y2 y3 y4 y5 y6 y7 y8) (L2_OctReached.j2 (k + 1) y0 y1 y2 y3 y4 y5 y6 y7 y8)) ∧ (∀ y0 y1 y2 y3 y4 y5 y6 y7 y8, LeO (L2_OctReached.j3 k y0 y1 y2 y3 y4 y5 y6 y7 y8) (L2_OctReached.j3 (k + 1) y0 y1 y2 y3 y4 y5 y6 y7 y8)) ∧ (∀ y0 y1 y2 y3 y4 y5 y6 y7 y8, LeO (L2_OctReached.j4 k y0 y1 y2 y3 y4 y5 y6 y7 y8) (L2_OctReached.j4 (k + 1) y0 y1 y2 y3 y4 y5 y6 y7 y8)) ∧ (∀ y0 y1 y2 y3 y4 y5 y6 y7 y8 y9, LeO (L2_OctReached.j5 k y0 y1 y2 y3 y4 y5 y6 y7 y8 y9) (L2_OctReached.j5 (k + 1) y0 y1 y2 y3 y4 y5 y6 y7 y8 y9))
 | 0 => ⟨fun _ _ _ _ _ _ _ _ r h => by simp [L2_OctReached.j0] at h, fun _ _ _ _ _ _ _ _ _ r h => by simp [L2_OctReached.j1] at h, fun _ _ _ _ _ _ _ _ _ r h => by simp [L2_OctReached.j2] at h, fun _ _ _ _ _ _ _ _ _ r h => by simp [L2_OctReached.j3] at h, fun _ _ _ _ _ _ _ _ _ r h => by simp [L2_OctReached.j4] at h, fun _ _ _ _ _ _ _ _ _ _ r h => by simp [L2_OctReached.j5] at h⟩
 | k + 1 => by
  obtain ⟨ih0, ih1, ih2, ih3, ih4, ih5⟩ := L2_OctReached.mono_l k
  refine ⟨?_, ?_, ?_, ?_, ?_, ?_⟩
  ·intro y0 y1 y2 y3 y4 y5 y6 y7
   unfold L2_OctReached.j0
   repeat' first
   | (with_reducible exact ih0 _ _ _ _ _ _ _ _)
   | (with_reducible exact ih1 _ _ _ _ _ _ _ _ _)
   | (with_reducible exact ih2 _ _ _ _ _ _ _ _ _)
   | (with_reducible exact ih3 _ _ _ _ _ _ _ _ _)
   | (with_reducible exact ih4 _ _ _ _ _ _ _ _ _)
   | (with_reducible exact ih5 _ _ _ _ _ _ _ _ _ _)
   | (with_reducible exact L2_near.mono _ _)
   | (with_reducible exact L2_octOf.mono _ _ _)
   | (with_reducible exact L2_odd.mono _)
   | (with_reducible exact LeO.refl _)
   | (with_reducible exact LeO.none _)
   | (with_reducible refine LeO.ite ?_ ?_)
   | (with_reducible refine LeO.bind ?_ (fun _ => ?_))
   | exact ih0 _ _ _ _ _ _ _ _
   | exact ih1 _ _ _ _ _ _ _ _ _
   | exact ih2 _ _ _ _ _ _ _ _ _
   | exact ih3 _ _ _ _ _ _ _ _ _
   | exact ih4 _ _ _ _ _ _ _ _ _
   | exact ih5 _ _ _ _ _ _ _ _ _ _
   | exact L2_near.mono _ _
   | exact L2_octOf.mono _ _ _
   | exact L2_odd.mono _
   | exact LeO.none _
   | refine LeO.ite ?_ ?_
   | refine LeO.bind ?_ (fun _ => ?_)
  ·intro y0 y1 y2 y3 y4 y5 y6 y7 y8
   unfold L2_OctReached.j1
   repeat' first
   | (with_reducible exact ih0 _ _ _ _ _ _ _ _)
   | (with_reducible exact ih1 _ _ _ _ _ _ _ _ _)
   | (with_reducible exact ih2 _ _ _ _ _ _ _ _ _)
   | (with_reducible exact ih3 _ _ _ _ _ _ _ _ _)
   | (with_reducible exact ih4 _ _ _ _ _ _ _ _ _)
   | (with_reducible exact ih5 _ _ _ _ _ _ _ _ _ _)
   | (with_reducible exact L2_near.mono _ _)
   | (with_reducible exact L2_octOf.mono _ _ _)
   | (with_reducible exact L2_odd.mono _)
   | (with_reducible exact LeO.refl _)
   | (with_reducible exact LeO.none _)
   | (with_reducible refine LeO.ite ?_ ?_)
   | (with_reducible refine LeO.bind ?_ (fun _ => ?_))
   | exact ih0 _ _ _ _ _ _ _ _
   | exact ih1 _ _ _ _ _ _ _ _ _
   | exact ih2 _ _ _ _ _ _ _ _ _
   | exact ih3 _ _ _ _ _ _ _ _ _
   | exact ih4 _ _ _ _ _ _ _ _ _
   | exact ih5 _ _ _ _ _ _ _ _ _ _
   | exact L2_near.mono _ _
   | exact L2_octOf.mono _ _ _
   | exact L2_odd.mono _
   | exact LeO.none _
   | refine LeO.ite ?_ ?_
   | refine LeO.bind ?_ (fun _ => ?_)
  ·intro y0 y1 y2 y3 y4 y5 y6 y7 y8
   unfold L2_OctReached.j2
   repeat' first
   | (with_reducible exact ih0 _ _ _ _ _ _ _ _)
   | (with_reducible exact ih1 _ _ _ _ _ _ _ _ _)
   | (with_reducible exact ih2 _ _ _ _ _ _ _ _ _)
   | (with_reducible exact ih3 _ _ _ _ _ _ _ _ _)
   | (with_reducible exact ih4 _ _ _ _ _ _ _ _ _)
   | (with_reducible exact ih5 _ _ _ _ _ _ _ _ _ _)
   | (with_reducible exact L2_near.mono _ _)
   | (with_reducible exact L2_octOf.mono _ _ _)
   | (with_reducible exact L2_odd.mono _)
   | (with_reducible exact LeO.refl _)
   | (with_reducible exact LeO.none _)
   | (with_reducible refine LeO.ite ?_ ?_)
   | (with_reducible refine LeO.bind ?_ (fun _ => ?_))
   | exact ih0 _ _ _ _ _ _ _ _
   | exact ih1 _ _ _ _ _ _ _ _ _
   | exact ih2 _ _ _ _ _ _ _ _ _
   | exact ih3 _ _ _ _ _ _ _ _ _
   | exact ih4 _ _ _ _ _ _ _ _ _
   | exact ih5 _ _ _ _ _ _ _ _ _ _
   | exact L2_near.mono _ _
   | exact L2_octOf.mono _ _ _
   | exact L2_odd.mono _
   | exact LeO.none _
   | refine LeO.ite ?_ ?_
   | refine LeO.bind ?_ (fun _ => ?_)
  ·intro y0 y1 y2 y3 y4 y5 y6 y7 y8
   unfold L2_OctReached.j3
   repeat' first
   | (with_reducible exact ih0 _ _ _ _ _ _ _ _)
   | (with_reducible exact ih1 _ _ _ _ _ _ _ _ _)
   | (with_reducible exact ih2 _ _ _ _ _ _ _ _ _)
   | (with_reducible exact ih3 _ _ _ _ _ _ _ _ _)
   | (with_reducible exact ih4 _ _ _ _ _ _ _ _ _)
   | (with_reducible exact ih5 _ _ _ _ _ _ _ _ _ _)
   | (with_reducible exact L2_near.mono _ _)
   | (with_reducible exact L2_octOf.mono _ _ _)
   | (with_reducible exact L2_odd.mono _)
   | (with_reducible exact LeO.refl _)
   | (with_reducible exact LeO.none _)
   | (with_reducible refine LeO.ite ?_ ?_)
   | (with_reducible refine LeO.bind ?_ (fun _ => ?_))
   | exact ih0 _ _ _ _ _ _ _ _
   | exact ih1 _ _ _ _ _ _ _ _ _
   | exact ih2 _ _ _ _ _ _ _ _ _
   | exact ih3 _ _ _ _ _ _ _ _ _
   | exact ih4 _ _ _ _ _ _ _ _ _
   | exact ih5 _ _ _ _ _ _ _ _ _ _
   | exact L2_near.mono _ _
   | exact L2_octOf.mono _ _ _
   | exact L2_odd.mono _
   | exact LeO.none _
   | refine LeO.ite ?_ ?_
   | refine LeO.bind ?_ (fun _ => ?_)
  ·intro y0 y1 y2 y3 y4 y5 y6 y7 y8
   unfold L2_OctReached.j4
   repeat' first
   | (with_reducible exact ih0 _ _ _ _ _ _ _ _)
   | (with_reducible exact ih1 _ _ _ _ _ _ _ _ _)
   | (with_reducible exact ih2 _ _ _ _ _ _ _ _ _)
   | (with_reducible exact ih3 _ _ _ _ _ _ _ _ _)
   | (with_reducible exact ih4 _ _ _ _ _ _ _ _ _)
   | (with_reducible exact ih5 _ _ _ _ _ _ _ _ _ _)
   | (with_reducible exact L2_near.mono _ _)
   | (with_reducible exact L2_octOf.mono _ _ _)
   | (with_reducible exact L2_odd.mono _)
   | (with_reducible exact LeO.refl _)
   | (with_reducible exact LeO.none _)
   | (with_reducible refine LeO.ite ?_ ?_)
   | (with_reducible refine LeO.bind ?_ (fun _ => ?_))
   | exact ih0 _ _ _ _ _ _ _ _
   | exact ih1 _ _ _ _ _ _ _ _ _
   | exact ih2 _ _ _ _ _ _ _ _ _
   | exact ih3 _ _ _ _ _ _ _ _ _
   | exact ih4 _ _ _ _ _ _ _ _ _
   | exact ih5 _ _ _ _ _ _ _ _ _ _
   | exact L2_near.mono _ _
   | exact L2_octOf.mono _ _ _
   | exact L2_odd.mono _
   | exact LeO.none _
   | refine LeO.ite ?_ ?_
   | refine LeO.bind ?_ (fun _ => ?_)
  intro y0 y1 y2 y3 y4 y5 y6 y7 y8 y9
  unfold L2_OctReached.j5
  repeat' first
  | (with_reducible exact ih0 _ _ _ _ _ _ _ _)
  | (with_reducible exact ih1 _ _ _ _ _ _ _ _ _)
  | (with_reducible exact ih2 _ _ _ _ _ _ _ _ _)
  | (with_reducible exact ih3 _ _ _ _ _ _ _ _ _)
  | (with_reducible exact ih4 _ _ _ _ _ _ _ _ _)
  | (with_reducible exact ih5 _ _ _ _ _ _ _ _ _ _)
  | (with_reducible exact L2_near.mono _ _)
  | (with_reducible exact L2_octOf.mono _ _ _)
  | (with_reducible exact L2_odd.mono _)
  | (with_reducible exact LeO.refl _)
  | (with_reducible exact LeO.none _)
  | (with_reducible refine LeO.ite ?_ ?_)
  | (with_reducible refine LeO.bind ?_ (fun _ => ?_))
  | exact ih0 _ _ _ _ _ _ _ _
  | exact ih1 _ _ _ _ _ _ _ _ _
  | exact ih2 _ _ _ _ _ _ _ _ _
  | exact ih3 _ _ _ _ _ _ _ _ _
  | exact ih4 _ _ _ _ _ _ _ _ _
  | exact ih5 _ _ _ _ _ _ _ _ _ _
  | exact L2_near.mono _ _
  | exact L2_octOf.mono _ _ _
  | exact L2_odd.mono _
  | exact LeO.none _
  | refine LeO.ite ?_ ?_
  | refine LeO.bind ?_ (fun _ => ?_)
theorem L2_OctReached.mono : ∀ a0 a1 a2 a3 a4 a5 k, LeO (L2_OctReached.f k a0 a1 a2 a3 a4 a5) (L2_OctReached.f (k + 1) a0 a1 a2 a3 a4 a5) := by
 intro a0 a1 a2 a3 a4 a5 k
 obtain ⟨ih0, ih1, ih2, ih3, ih4, ih5⟩ := L2_OctReached.mono_l k
 unfold L2_OctReached.f
 repeat' first
   | (with_reducible exact ih0 _ _ _ _ _ _ _ _)
   | (with_reducible exact ih1 _ _ _ _ _ _ _ _ _)
   | (with_reducible exact ih2 _ _ _ _ _ _ _ _ _)
   | (with_reducible exact ih3 _ _ _ _ _ _ _ _ _)
   | (with_reducible exact ih4 _ _ _ _ _ _ _ _ _)
   | (with_reducible exact ih5 _ _ _ _ _ _ _ _ _ _)
   | (with_reducible exact L2_near.mono _ _)
   | (with_reducible exact L2_octOf.mono _ _ _)
   | (with_reducible exact L2_odd.mono _)
   | (with_reducible exact LeO.refl _)
   | (with_reducible exact LeO.none _)
   | (with_reducible refine LeO.ite ?_ ?_)
   | (with_reducible refine LeO.bind ?_ (fun _ => ?_))
   | exact ih0 _ _ _ _ _ _ _ _
   | exact ih1 _ _ _ _ _ _ _ _ _
   | exact ih2 _ _ _ _ _ _ _ _ _
   | exact ih3 _ _ _ _ _ _ _ _ _
   | exact ih4 _ _ _ _ _ _ _ _ _
   | exact ih5 _ _ _ _ _ _ _ _ _ _
   | exact L2_near.mono _ _
   | exact L2_octOf.mono _ _ _
   | exact L2_odd.mono _
   | exact LeO.none _
   | refine LeO.ite ?_ ?_
   | refine LeO.bind ?_ (fun _ => ?_)
def L2_OctReached.T21 : Bool × List (List Nat × List Nat) := (true, [([], []), ([0], [0]), ([], []), ([2], [2]), ([], []), ([], []), ([5], [5]), ([], []), ([], []), ([8], [8]), ([9], [9]), ([1, 3, 4, 6, 7, 10, 1], [1, 3, 4, 6, 7, 10]), ([11], [11]), ([12], [12]), ([12], [12]), ([12], [12]), ([14, 11, 0, 1, 2, 3, 4, 5, 6, 7, 8, 9, 10, 11, 12, 13, 14], [14]), ([15, 16, 0, 1, 2, 3, 4, 5, 6, 7, 8, 9, 10, 11, 12, 13, 14, 15, 16], [15])])
def L2_OctReached.B21 : List Nat := [0, 1, 0, 4, 0, 0, 32, 0, 0, 256, 768, 2047, 4095, 8191, 8191, 8191, 32767, 131071]
theorem L2_OctReached.tab21 : rtab .any (opsOf Tryd.f12 21) = L2_OctReached.T21 := by kernel_rfl
theorem L2_OctReached.bits21 : waitsOk L2_OctReached.T21.2 L2_OctReached.B21 = true := by kernel_rfl
def L2_OctReached.T22 : Bool × List (List Nat × List Nat) := (true, [([], []), ([0], [0]), ([], []), ([2], [2]), ([], []), ([], []), ([5], [5]), ([], []), ([], []), ([8], [8]), ([9], [9]), ([10], [10]), ([1, 3, 4, 6, 7, 11, 1], [1, 3, 4, 6, 7, 11]), ([12], [12]), ([13], [13]), ([13], [13]), ([13], [13]), ([], []), ([17, 14, 12, 0, 1, 2, 3, 4, 5, 6, 7, 8, 9, 10, 11, 12, 13, 14, 17], [14, 17]), ([15, 18, 0, 1, 2, 3, 4, 5, 6, 7, 8, 9, 10, 11, 12, 13, 14, 15, 17, 18], [15]), ([16, 19, 0, 1, 2, 3, 4, 5, 6, 7, 8, 9, 10, 11, 12, 13, 14, 15, 16, 17, 18, 19], [16])])
def L2_OctReached.B22 : List Nat := [0, 1, 0, 4, 0, 0, 32, 0, 0, 256, 768, 1792, 4095, 8191, 16383, 16383, 16383, 0, 163839, 458751, 1048575]
theorem L2_OctReached.tab22 : rtab .any (opsOf Tryd.f12 22) = L2_OctReached.T22 := by kernel_rfl
theorem L2_OctReached.bits22 : waitsOk L2_OctReached.T22.2 L2_OctReached.B22 = true := by kernel_rfl
set_option maxHeartbeats 8000000 in
set_option maxRecDepth 100000 in
theorem L2_OctReached.calls [EA] (k : Nat) (a0_0 : Int) (A0_1 : Option Addr) (c0_1 : Nat) (l0_1 : List (S112)) (a1 : Int) (a2 : Int) (a3 : Int) (a4 : Int) (r : Bool) (w : World) (hr0_1 : Kd.C k112 w A0_1 l0_1.length l0_1) (hc0_1 : l0_1.length ≤ c0_1) (h : L2_OctReached.f k a0_0 l0_1 a1 a2 a3 a4 = some r) (h2_ : ErrAt 2 1 w) (h3_ : ErrAt 3 0 w) (h7_ : ErrAt 7 4 w) :
  Calls Tryd.prog 12 #[.agg #[.int .i64 a0_0, .slice A0_1 l0_1.length c0_1], .int .i64 a1, .int .i64 a2, .int .i64 a3, .int .i64 a4] w fun e w' => e = .returned (.bool r) ∧ Below w.heap.size w w' := by
 have hE2 := am h2_
 clear h2_
 have hE3 := am h3_
 clear h3_
 have hE7 := am h7_
 clear h7_
 have hu78 := Tryd.underlying78
 have hu82 := Tryd.underlying82
 have hu95 := Tryd.underlying95
 have hu26 := Tryd.underlying26
 have HR0_1 := am hr0_1
 have HC0_1 := am hc0_1
 clear hr0_1 hc0_1
 have HB := am (Below.refl w.heap.size w)
 have H : ((L2_odd.f k).bind fun t519 => (if t519 = true then (if (l0_1.length : Int) > 100 then (L2_OctReached.j0 k a1 a2 a3 a4 t519 true a0_0 l0_1) else ((L2_near.f k l0_1).bind fun t520 => (L2_OctReached.j0 k a1 a2 a3 a4 t519 (!t520) a0_0 l0_1))) else (L2_OctReached.j0 k a1 a2 a3 a4 t519 true a0_0 l0_1))) = some r := h
 clear h
 replace H := Option.bind_eq_some_iff.mp H
 obtain ⟨t519, A60, H⟩ := H
 replace H : (if t519 = true then (if (l0_1.length : Int) > 100 then (L2_OctReached.j0 k a1 a2 a3 a4 t519 true a0_0 l0_1) else ((L2_near.f k l0_1).bind fun t520 => (L2_OctReached.j0 k a1 a2 a3 a4 t519 (!t520) a0_0 l0_1))) else (L2_OctReached.j0 k a1 a2 a3 a4 t519 true a0_0 l0_1)) = some r := H
 have A6 := am A60
 clear A60
 have HC7 := am H
 clear H
 go_enter Tryd.func12, Tryd.ntmps12
 go_upto_region 2 with (first | ((with_reducible refine gate_dst (N := 5) rfl ?_); (try (refine gate_guard (by rfl) ?_; dsimp only)); refine box_event ?hg (N := 5) ?hd (cs := #[.int .i64 a0_0, .slice A0_1 l0_1.length c0_1]) (t := 78) ?hr ?_; (case hd => rfl); (case hg => rfl); (case hr => first | (go_simp; done) | (go_simp; rfl)); intro gb518 hg w8 hbox hb; have n0_ := am (below_step pw hb); have n1_ := am (hbox); have n2_ := am (sz (w := w) hg pw); have n3_ := am (sz (w := w) hg pw); clear HB; revert n0_ n1_ n2_ n3_; intro HB BK518 GW518 GE518; clear hb hbox hg) | ((with_reducible refine gate_callee (f := 48) rfl ?_); refine goesL_ (some 24) rfl rfl Tryd.func48 kk rfl #[] rfl (by (try simp only [List.map_toArray, List.map_cons, List.map_nil]); first | done | rfl | (simp only [List.length_drop, List.length_take]; rfl)) ?_; (with_reducible refine (L2_odd.calls k  t519 _ A6.out (am (ErrAt.below hE2.out pw)).out (am (ErrAt.below hE3.out pw)).out (am (ErrAt.below hE7.out pw)).out).mono ?_); rintro e w9 ⟨rfl, hb⟩; refine ⟨_, rfl, ?_⟩; have n0_ := bb BK518 hb; have n1_ := am (below_step pw hb); clear BK518 HB; revert n0_ n1_; intro BK518 HB; (try clear hb); (try clear hb2); (try clear hk); (try clear hi)))
 (try simp only [Act.put, List.setIfInBounds_toArray, List.set_cons_zero, List.set_cons_succ])
 go_cut [38] (fun v38 wc => ∃ (kq : Nat) (x38_6 : Bool), v38 = .bool x38_6 ∧ Aside0 (L2_OctReached.j0 kq a1 a2 a3 a4 t519 x38_6 a0_0 l0_1 = some r) ∧ Aside0 (kq ≤ k) ∧ Aside0 (wc.heap[gb518]? = some (.cells #[.int .i64 a0_0, (.slice A0_1 l0_1.length c0_1)] 78 (0, 0))) ∧ Aside0 (Below w.heap.size w wc))
 case first =>
  have H := HC7.out
  clear HC7
  by_cases c10 : t519 = true
  ·subst c10
   have H1 : (if (l0_1.length : Int) > 100 then (L2_OctReached.j0 k a1 a2 a3 a4 true true a0_0 l0_1) else ((L2_near.f k l0_1).bind fun t520 => (L2_OctReached.j0 k a1 a2 a3 a4 true (!t520) a0_0 l0_1))) = some r := by rw [if_pos rfl] at H; exact H
   clear H; have H := H1; clear H1; by_cases c11 : (l0_1.length : Int) > 100
   ·rw [if_pos c11] at H
    have c11b0 : decide (100 < (l0_1.length : Int)) = true := decide_eq_true c11; have c11b1 : decide (100 < l0_1.length) = true := decide_eq_true (by omega); clear c11; (first | rw [c11b0] | (simp only [i64_w, i32_w]; rw [c11b0]) | skip)
    as_aux_lemma =>
     have H' := am H; clear H; have hcz12_0 : w9.cell? ⟨gb518, 0, none⟩ = some (.int .i64 a0_0) := bc BK518 0; have hcz12_1 : w9.cell? ⟨gb518, 1, none⟩ = some (.slice A0_1 l0_1.length c0_1) := bc BK518 1; have hfz12_0 := blk_frozen BK518.out 0; have hfz12_1 := blk_frozen BK518.out 1; go_wp2; go_meet
     case rel => exact ⟨_, (true), pr, H', ⟨by first | omega | exact Nat.le_refl _⟩, ⟨pk⟩, ⟨pw⟩⟩
   rw [if_neg c11] at H; have c11b0 : decide (100 < (l0_1.length : Int)) = false := decide_eq_false c11; have c11b1 : decide (100 < l0_1.length) = false := decide_eq_false (by omega); clear c11; (first | rw [c11b0] | (simp only [i64_w, i32_w]; rw [c11b0]) | skip); replace H := Option.bind_eq_some_iff.mp H; obtain ⟨t520, A130, H⟩ := H; replace H : (L2_OctReached.j0 k a1 a2 a3 a4 true (!t520) a0_0 l0_1) = some r := H; have A13 := am A130; clear A130
   as_aux_lemma =>
    have H' := am H; clear H; have hcz14_0 : w9.cell? ⟨gb518, 0, none⟩ = some (.int .i64 a0_0) := bc BK518 0; have hcz14_1 : w9.cell? ⟨gb518, 1, none⟩ = some (.slice A0_1 l0_1.length c0_1) := bc BK518 1; have hfz14_0 := blk_frozen BK518.out 0; have hfz14_1 := blk_frozen BK518.out 1
    go_wp2_with (first | (go_at_call 21; (with_reducible refine (L2_near.calls k _ _ l0_1 t520 _ ?side1 ?side2 A13.out).mono ?_); (case side1 => repeat (first | exact (Kd.C_below HR0_1.out HB.out) | (with_reducible refine Kd.C_alloc ?_ _) | (with_reducible refine Kd.C_drewN ?_ _) | (with_reducible refine Kd.C_drew ?_))); (case side2 => exact HC0_1.out); rintro e w' ⟨rfl, ⟨nd, rfl⟩⟩))
    go_meet
    case rel => exact ⟨_, (!t520), pr, H', ⟨by first | omega | exact Nat.le_refl _⟩, ⟨pk⟩, ⟨pw⟩⟩
  replace c10 := Bool.eq_false_iff.mpr c10
  subst c10
  have H1 : (L2_OctReached.j0 k a1 a2 a3 a4 false true a0_0 l0_1) = some r := by rw [if_neg (show ¬ (false = true) by decide)] at H; exact H
  clear H
  have H := H1
  clear H1
  as_aux_lemma =>
   have H' := am H; clear H; go_wp2; go_meet
   case rel => exact ⟨_, (true), pr, H', ⟨by first | omega | exact Nat.le_refl _⟩, ⟨pk⟩, ⟨pw⟩⟩
 as_aux_lemma =>
 clear HC7
 (try clear c1)
 (try clear p2)
 (try clear c4)
 (try clear c10)
 (try clear c11)
 (try clear c11b0)
 (try clear c11b1)
 (try clear c12)
 (try clear hcz12_0)
 (try clear hcz12_1)
 (try clear hcz14_0)
 (try clear hcz14_1)
 (try clear hfz12_0)
 (try clear hfz12_1)
 (try clear hfz14_0)
 (try clear hfz14_1)
 obtain ⟨kq, x38_6, rfl, HA, HJ6, BK518, HB⟩ := hcut
 cases kq with
 | zero => exact absurd HA.out (by simp [L2_OctReached.j0])
 | succ kj6 =>
  have H := HA.out
  clear HA
  simp only [L2_OctReached.j0] at H
  by_cases c15 : x38_6 = true
  ·subst c15
   have H1 : (some t519) = some r := by rw [if_pos rfl] at H; exact H
   clear H; have H := H1; clear H1
   as_aux_lemma =>
    obtain rfl := Option.some.inj H; go_wp2; go_ret; exact ⟨pe, pw⟩
  replace c15 := Bool.eq_false_iff.mpr c15
  subst c15
  have H1 : ((L2_octOf.f kj6 a0_0 l0_1).bind fun bt521 => ((octagon_Close.f bt521.1 bt521.2).bind fun bt525 => (if bt525.2.2.2.isNone = true then (if bt525.2.2.1 = true then (if a2 < 0 then (L2_OctReached.j1 kj6 a1 a2 a3 a4 true a0_0 l0_1 bt525.1 bt525.2.1) else (if a4 < 0 then (L2_OctReached.j1 kj6 a1 a2 a3 a4 true a0_0 l0_1 bt525.1 bt525.2.1) else (if a2 ≥ a0_0 then (L2_OctReached.j1 kj6 a1 a2 a3 a4 true a0_0 l0_1 bt525.1 bt525.2.1) else (L2_OctReached.j1 kj6 a1 a2 a3 a4 (decide (a4 ≥ a0_0)) a0_0 l0_1 bt525.1 bt525.2.1)))) else (L2_OctReached.j1 kj6 a1 a2 a3 a4 true a0_0 l0_1 bt525.1 bt525.2.1)) else (L2_OctReached.j1 kj6 a1 a2 a3 a4 true a0_0 l0_1 bt525.1 bt525.2.1)))) = some r := by rw [if_neg (show ¬ (false = true) by decide)] at H; exact H
  clear H
  have H := H1
  clear H1
  replace H := Option.bind_eq_some_iff.mp H
  obtain ⟨⟨t521, t522⟩, A160, H⟩ := H
  replace H : ((octagon_Close.f t521 t522).bind fun bt525 => (if bt525.2.2.2.isNone = true then (if bt525.2.2.1 = true then (if a2 < 0 then (L2_OctReached.j1 kj6 a1 a2 a3 a4 true a0_0 l0_1 bt525.1 bt525.2.1) else (if a4 < 0 then (L2_OctReached.j1 kj6 a1 a2 a3 a4 true a0_0 l0_1 bt525.1 bt525.2.1) else (if a2 ≥ a0_0 then (L2_OctReached.j1 kj6 a1 a2 a3 a4 true a0_0 l0_1 bt525.1 bt525.2.1) else (L2_OctReached.j1 kj6 a1 a2 a3 a4 (decide (a4 ≥ a0_0)) a0_0 l0_1 bt525.1 bt525.2.1)))) else (L2_OctReached.j1 kj6 a1 a2 a3 a4 true a0_0 l0_1 bt525.1 bt525.2.1)) else (L2_OctReached.j1 kj6 a1 a2 a3 a4 true a0_0 l0_1 bt525.1 bt525.2.1))) = some r := H
  have A16 := am A160
  clear A160
  replace H := Option.bind_eq_some_iff.mp H
  obtain ⟨⟨t525, t526, t529, t530⟩, A170, H⟩ := H
  replace H : (if t530.isNone = true then (if t529 = true then (if a2 < 0 then (L2_OctReached.j1 kj6 a1 a2 a3 a4 true a0_0 l0_1 t525 t526) else (if a4 < 0 then (L2_OctReached.j1 kj6 a1 a2 a3 a4 true a0_0 l0_1 t525 t526) else (if a2 ≥ a0_0 then (L2_OctReached.j1 kj6 a1 a2 a3 a4 true a0_0 l0_1 t525 t526) else (L2_OctReached.j1 kj6 a1 a2 a3 a4 (decide (a4 ≥ a0_0)) a0_0 l0_1 t525 t526)))) else (L2_OctReached.j1 kj6 a1 a2 a3 a4 true a0_0 l0_1 t525 t526)) else (L2_OctReached.j1 kj6 a1 a2 a3 a4 true a0_0 l0_1 t525 t526)) = some r := H
  have A17 := am A170
  clear A170
  have HC18 := am H
  clear H
  have hcz19_0 : wc.cell? ⟨gb518, 0, none⟩ = some (.int .i64 a0_0) := bc BK518 0
  have hcz19_1 : wc.cell? ⟨gb518, 1, none⟩ = some (.slice A0_1 l0_1.length c0_1) := bc BK518 1
  have hfz19_0 := blk_frozen BK518.out 0
  have hfz19_1 := blk_frozen BK518.out 1
  go_upto_region 5 with (first | ((with_reducible refine gate_callee (f := 49) rfl ?_); refine goesL_ (some 42) rfl rfl Tryd.func49 kk rfl #[.agg #[.int .i64 a0_0, .slice A0_1 l0_1.length c0_1]] rfl (by (try simp only [List.map_toArray, List.map_cons, List.map_nil]); first | done | rfl | (simp only [List.length_drop, List.length_take]; rfl)) ?_; (with_reducible refine (L2_octOf.calls kj6 a0_0 _ _ l0_1 t521 t522 _ ?side1 ?side2 A16.out).mono ?_); (case side1 => repeat (first | exact (Kd.C_below HR0_1.out HB.out) | (with_reducible refine Kd.C_alloc ?_ _) | (with_reducible refine Kd.C_drewN ?_ _) | (with_reducible refine Kd.C_drew ?_))); (case side2 => exact HC0_1.out); rintro e w20 ⟨v523, rfl, ho0, hb⟩; refine ⟨_, rfl, ?_⟩; have n0_ := am (Kd.R_lower ho0 (below_size pw)); have n1_ := bb BK518 hb; have n2_ := am (below_step pw hb); clear BK518 HB; revert n0_ n1_ n2_; intro HO524 BK518 HB; (try clear hb); (try clear hb2); (try clear hk); (try clear hi); (try clear ho0); obtain ⟨Ao21, co21, eo21⟩ := Kd.R_slice HO524.out; subst eo21) | ((with_reducible refine gate_callee (f := 55) rfl ?_); refine goesL_ (some 43) rfl rfl Tryd.func55 kk rfl #[.agg #[.int .i64 t521, .slice Ao21 t522.length co21]] rfl (by (try simp only [List.map_toArray, List.map_cons, List.map_nil]); first | done | rfl | (simp only [List.length_drop, List.length_take]; rfl)) ?_; (with_reducible refine (octagon_Close.calls t521 _ _ t522 t525 t526 t529 t530 _ ?side1 ?side2 A17.out (am (ErrAt.below hE2.out pw)).out (am (ErrAt.below hE3.out pw)).out (am (ErrAt.below hE7.out pw)).out).mono ?_); (case side1 => repeat (first | exact (Kd.R_reads' HO524.out).2.2 | (with_reducible refine Kd.C_alloc ?_ _) | (with_reducible refine Kd.C_drewN ?_ _) | (with_reducible refine Kd.C_drew ?_))); (case side2 => exact (Kd.R_reads' HO524.out).2.1); rintro e w22 ⟨v527, rfl, ho0, hb⟩; refine ⟨_, rfl, ?_⟩; have n0_ := am (Kd.R_elder' (rk HO524) (Kd.R_base ho0) hb); have n1_ := am (Kd.R_lower (Kd.R_new' ho0 (Kd.R_lt (rk HO524))) (below_size pw)); have n2_ := bb BK518 hb; have n3_ := am (below_step pw hb); clear HO524 BK518 HB; revert n0_ n1_ n2_ n3_; intro HO524 HO528 BK518 HB; (try clear hb); (try clear hb2); (try clear hk); (try clear hi); (try clear ho0); (try simp only [errW_none, errW_some])) | ((with_reducible refine gate_dst (N := 12) rfl ?_); (try (refine gate_guard (by rfl) ?_; dsimp only)); refine box_event ?hg (N := 12) ?hd (cs := #[.int .i64 0, .slice none 0 0]) (t := 82) ?hr ?_; (case hd => rfl); (case hg => rfl); (case hr => first | (go_simp; done) | (go_simp; rfl)); intro gb531 hg w23 hbox hb; have n0_ := am (Kd.R_below (rk HO524) hb); have n1_ := am (Kd.R_below (rk HO528) hb); have n2_ := bb BK518 hb; have n3_ := am (below_step pw hb); have n4_ := am (hbox); have n5_ := am (sz (w := w) hg pw); have n6_ := am (sz (w := w) hg pw); have n7_ := am (nl BK518 hg); have n8_ := am ((nl BK518 hg).symm); clear HO524 HO528 BK518 HB; revert n0_ n1_ n2_ n3_ n4_ n5_ n6_ n7_ n8_; intro HO524 HO528 BK518 HB BK531 GW531 GE531 NB518_531 NB531_518; clear hb hbox hg; have hnb24 := NB531_518.out; have hnc24 := NB518_531.out; have hcz25_0 : w23.cell? ⟨gb531, 0, none⟩ = some (.int .i64 0) := bc BK531 0; have hcz25_1 : w23.cell? ⟨gb531, 1, none⟩ = some (.slice none 0 0) := bc BK531 1; have hfz25_0 := blk_frozen BK531.out 0; have hfz25_1 := blk_frozen BK531.out 1; obtain ⟨Ao26, co26, eo26⟩ := Kd.R_slice HO528.out; subst eo26))
  (try simp only [Act.put, List.setIfInBounds_toArray, List.set_cons_zero, List.set_cons_succ])
  go_cut [72] (fun v72 wc => ∃ (kq : Nat) (x72_17 : Bool), v72 = .bool x72_17 ∧ Aside0 (L2_OctReached.j1 kq a1 a2 a3 a4 x72_17 a0_0 l0_1 t525 t526 = some r) ∧ Aside0 (kq ≤ kj6) ∧ Aside0 (Kd.R k95 95 wc w.heap.size (fun _ => True) (.slice Ao26 t526.length co26) t526) ∧ Aside0 (wc.heap[gb518]? = some (.cells #[.int .i64 a0_0, (.slice A0_1 l0_1.length c0_1)] 78 (0, 0))) ∧ Aside0 (wc.heap[gb531]? = some (.cells #[.int .i64 t525, (.slice Ao26 t526.length co26)] 82 (0, 0))) ∧ Aside0 (Below w.heap.size w wc))
  case first =>
   have H := HC18.out; clear HC18; rcases t530 with _ | q532
   ·have H1 : (if t529 = true then (if a2 < 0 then (L2_OctReached.j1 kj6 a1 a2 a3 a4 true a0_0 l0_1 t525 t526) else (if a4 < 0 then (L2_OctReached.j1 kj6 a1 a2 a3 a4 true a0_0 l0_1 t525 t526) else (if a2 ≥ a0_0 then (L2_OctReached.j1 kj6 a1 a2 a3 a4 true a0_0 l0_1 t525 t526) else (L2_OctReached.j1 kj6 a1 a2 a3 a4 (decide (a4 ≥ a0_0)) a0_0 l0_1 t525 t526)))) else (L2_OctReached.j1 kj6 a1 a2 a3 a4 true a0_0 l0_1 t525 t526)) = some r := by rw [if_pos (show (none : Option Int).isNone = true by rfl)] at H; exact H
    clear H; have H := H1; clear H1
    try simp only [errW_none, errW_some]
    by_cases c27 : t529 = true
    ·subst c27
     have H1 : (if a2 < 0 then (L2_OctReached.j1 kj6 a1 a2 a3 a4 true a0_0 l0_1 t525 t526) else (if a4 < 0 then (L2_OctReached.j1 kj6 a1 a2 a3 a4 true a0_0 l0_1 t525 t526) else (if a2 ≥ a0_0 then (L2_OctReached.j1 kj6 a1 a2 a3 a4 true a0_0 l0_1 t525 t526) else (L2_OctReached.j1 kj6 a1 a2 a3 a4 (decide (a4 ≥ a0_0)) a0_0 l0_1 t525 t526)))) = some r := by rw [if_pos rfl] at H; exact H
     clear H; have H := H1; clear H1; by_cases c28 : a2 < 0
     ·rw [if_pos c28] at H
      have c28b0 : decide (a2 < 0) = true := decide_eq_true c28; clear c28; (first | rw [c28b0] | (simp only [i64_w, i32_w]; rw [c28b0]) | skip)
      as_aux_lemma =>
       have H' := am H; clear H; go_wp2; go_meet
       case rel => exact ⟨_, (true), pr, H', ⟨by have := HJ6.out; first | omega | exact Nat.le_refl _⟩, ⟨by (with_reducible repeat (first | apply Kd.R_alloc | apply Kd.R_drewN | apply Kd.R_drew)); exact Kd.R_mono (Kd.R_far (p := ⟨gb531, 1, none⟩) (Kd.R_far (p := ⟨gb531, 0, none⟩) (Kd.R_types HO528.out BK531.out (by decide)) (fun _ hk => hk.2) (.int .i64 t525)) (fun _ hk => hk.2) (.slice Ao26 t526.length co26)) (fun _ hk => trivial)⟩, ⟨by (with_reducible repeat (first | refine blk_drewN ?_ _ | refine blk_drew ?_ | refine blk_alloc ?_ _)); refine blk_far ?_ NB518_531.out _; (with_reducible repeat (first | refine blk_drewN ?_ _ | refine blk_drew ?_ | refine blk_alloc ?_ _)); refine blk_far ?_ NB518_531.out _; (with_reducible repeat (first | refine blk_drewN ?_ _ | refine blk_drew ?_ | refine blk_alloc ?_ _)); exact BK518.out⟩, ⟨by (with_reducible repeat (first | refine blk_drewN ?_ _ | refine blk_drew ?_ | refine blk_alloc ?_ _)); refine blk_put (cs := #[.int .i64 t525, .slice none 0 0]) ?_ 1 _ rfl; (with_reducible repeat (first | refine blk_drewN ?_ _ | refine blk_drew ?_ | refine blk_alloc ?_ _)); refine blk_put (cs := #[.int .i64 0, .slice none 0 0]) ?_ 0 _ rfl; (with_reducible repeat (first | refine blk_drewN ?_ _ | refine blk_drew ?_ | refine blk_alloc ?_ _)); exact BK531.out⟩, ⟨pw⟩⟩
     rw [if_neg c28] at H; have c28b0 : decide (a2 < 0) = false := decide_eq_false c28; clear c28; (first | rw [c28b0] | (simp only [i64_w, i32_w]; rw [c28b0]) | skip); by_cases c29 : a4 < 0
     ·rw [if_pos c29] at H
      have c29b0 : decide (a4 < 0) = true := decide_eq_true c29; clear c29
      as_aux_lemma =>
       have H' := am H; clear H; go_wp2; go_meet
       case rel => exact ⟨_, (true), pr, H', ⟨by have := HJ6.out; first | omega | exact Nat.le_refl _⟩, ⟨by (with_reducible repeat (first | apply Kd.R_alloc | apply Kd.R_drewN | apply Kd.R_drew)); exact Kd.R_mono (Kd.R_far (p := ⟨gb531, 1, none⟩) (Kd.R_far (p := ⟨gb531, 0, none⟩) (Kd.R_types HO528.out BK531.out (by decide)) (fun _ hk => hk.2) (.int .i64 t525)) (fun _ hk => hk.2) (.slice Ao26 t526.length co26)) (fun _ hk => trivial)⟩, ⟨by (with_reducible repeat (first | refine blk_drewN ?_ _ | refine blk_drew ?_ | refine blk_alloc ?_ _)); refine blk_far ?_ NB518_531.out _; (with_reducible repeat (first | refine blk_drewN ?_ _ | refine blk_drew ?_ | refine blk_alloc ?_ _)); refine blk_far ?_ NB518_531.out _; (with_reducible repeat (first | refine blk_drewN ?_ _ | refine blk_drew ?_ | refine blk_alloc ?_ _)); exact BK518.out⟩, ⟨by (with_reducible repeat (first | refine blk_drewN ?_ _ | refine blk_drew ?_ | refine blk_alloc ?_ _)); refine blk_put (cs := #[.int .i64 t525, .slice none 0 0]) ?_ 1 _ rfl; (with_reducible repeat (first | refine blk_drewN ?_ _ | refine blk_drew ?_ | refine blk_alloc ?_ _)); refine blk_put (cs := #[.int .i64 0, .slice none 0 0]) ?_ 0 _ rfl; (with_reducible repeat (first | refine blk_drewN ?_ _ | refine blk_drew ?_ | refine blk_alloc ?_ _)); exact BK531.out⟩, ⟨pw⟩⟩
     rw [if_neg c29] at H; have c29b0 : decide (a4 < 0) = false := decide_eq_false c29; clear c29; by_cases c30 : a2 ≥ a0_0
     ·rw [if_pos c30] at H
      have c30b0 : decide (a0_0 ≤ a2) = true := decide_eq_true c30; clear c30
      as_aux_lemma =>
       have H' := am H; clear H; have hnb31 := NB518_531.out; have hnc31 := NB531_518.out; have hcz32_0 : w23.cell? ⟨gb518, 0, none⟩ = some (.int .i64 a0_0) := bc BK518 0; have hcz32_1 : w23.cell? ⟨gb518, 1, none⟩ = some (.slice A0_1 l0_1.length c0_1) := bc BK518 1; have hfz32_0 := blk_frozen BK518.out 0; have hfz32_1 := blk_frozen BK518.out 1; go_wp2; go_meet
       case rel => exact ⟨_, (true), pr, H', ⟨by have := HJ6.out; first | omega | exact Nat.le_refl _⟩, ⟨by (with_reducible repeat (first | apply Kd.R_alloc | apply Kd.R_drewN | apply Kd.R_drew)); exact Kd.R_mono (Kd.R_far (p := ⟨gb531, 1, none⟩) (Kd.R_far (p := ⟨gb531, 0, none⟩) (Kd.R_types HO528.out BK531.out (by decide)) (fun _ hk => hk.2) (.int .i64 t525)) (fun _ hk => hk.2) (.slice Ao26 t526.length co26)) (fun _ hk => trivial)⟩, ⟨by (with_reducible repeat (first | refine blk_drewN ?_ _ | refine blk_drew ?_ | refine blk_alloc ?_ _)); refine blk_far ?_ NB518_531.out _; (with_reducible repeat (first | refine blk_drewN ?_ _ | refine blk_drew ?_ | refine blk_alloc ?_ _)); refine blk_far ?_ NB518_531.out _; (with_reducible repeat (first | refine blk_drewN ?_ _ | refine blk_drew ?_ | refine blk_alloc ?_ _)); exact BK518.out⟩, ⟨by (with_reducible repeat (first | refine blk_drewN ?_ _ | refine blk_drew ?_ | refine blk_alloc ?_ _)); refine blk_put (cs := #[.int .i64 t525, .slice none 0 0]) ?_ 1 _ rfl; (with_reducible repeat (first | refine blk_drewN ?_ _ | refine blk_drew ?_ | refine blk_alloc ?_ _)); refine blk_put (cs := #[.int .i64 0, .slice none 0 0]) ?_ 0 _ rfl; (with_reducible repeat (first | refine blk_drewN ?_ _ | refine blk_drew ?_ | refine blk_alloc ?_ _)); exact BK531.out⟩, ⟨pw⟩⟩
     rw [if_neg c30] at H; have c30b0 : decide (a0_0 ≤ a2) = false := decide_eq_false c30; clear c30
     as_aux_lemma =>
      have H' := am H; clear H; have hnb33 := NB518_531.out; have hnc33 := NB531_518.out; have hcz34_0 : w23.cell? ⟨gb518, 0, none⟩ = some (.int .i64 a0_0) := bc BK518 0; have hcz34_1 : w23.cell? ⟨gb518, 1, none⟩ = some (.slice A0_1 l0_1.length c0_1) := bc BK518 1; have hfz34_0 := blk_frozen BK518.out 0; have hfz34_1 := blk_frozen BK518.out 1; go_wp2; go_meet
      case rel => exact ⟨_, (decide (a4 ≥ a0_0)), pr, H', ⟨by have := HJ6.out; first | omega | exact Nat.le_refl _⟩, ⟨by (with_reducible repeat (first | apply Kd.R_alloc | apply Kd.R_drewN | apply Kd.R_drew)); exact Kd.R_mono (Kd.R_far (p := ⟨gb531, 1, none⟩) (Kd.R_far (p := ⟨gb531, 0, none⟩) (Kd.R_types HO528.out BK531.out (by decide)) (fun _ hk => hk.2) (.int .i64 t525)) (fun _ hk => hk.2) (.slice Ao26 t526.length co26)) (fun _ hk => trivial)⟩, ⟨by (with_reducible repeat (first | refine blk_drewN ?_ _ | refine blk_drew ?_ | refine blk_alloc ?_ _)); refine blk_far ?_ NB518_531.out _; (with_reducible repeat (first | refine blk_drewN ?_ _ | refine blk_drew ?_ | refine blk_alloc ?_ _)); refine blk_far ?_ NB518_531.out _; (with_reducible repeat (first | refine blk_drewN ?_ _ | refine blk_drew ?_ | refine blk_alloc ?_ _)); exact BK518.out⟩, ⟨by (with_reducible repeat (first | refine blk_drewN ?_ _ | refine blk_drew ?_ | refine blk_alloc ?_ _)); refine blk_put (cs := #[.int .i64 t525, .slice none 0 0]) ?_ 1 _ rfl; (with_reducible repeat (first | refine blk_drewN ?_ _ | refine blk_drew ?_ | refine blk_alloc ?_ _)); refine blk_put (cs := #[.int .i64 0, .slice none 0 0]) ?_ 0 _ rfl; (with_reducible repeat (first | refine blk_drewN ?_ _ | refine blk_drew ?_ | refine blk_alloc ?_ _)); exact BK531.out⟩, ⟨pw⟩⟩
    replace c27 := Bool.eq_false_iff.mpr c27; subst c27
    have H1 : (L2_OctReached.j1 kj6 a1 a2 a3 a4 true a0_0 l0_1 t525 t526) = some r := by rw [if_neg (show ¬ (false = true) by decide)] at H; exact H
    clear H; have H := H1; clear H1
    as_aux_lemma =>
     have H' := am H; clear H; go_wp2; go_meet
     case rel => exact ⟨_, (true), pr, H', ⟨by have := HJ6.out; first | omega | exact Nat.le_refl _⟩, ⟨by (with_reducible repeat (first | apply Kd.R_alloc | apply Kd.R_drewN | apply Kd.R_drew)); exact Kd.R_mono (Kd.R_far (p := ⟨gb531, 1, none⟩) (Kd.R_far (p := ⟨gb531, 0, none⟩) (Kd.R_types HO528.out BK531.out (by decide)) (fun _ hk => hk.2) (.int .i64 t525)) (fun _ hk => hk.2) (.slice Ao26 t526.length co26)) (fun _ hk => trivial)⟩, ⟨by (with_reducible repeat (first | refine blk_drewN ?_ _ | refine blk_drew ?_ | refine blk_alloc ?_ _)); refine blk_far ?_ NB518_531.out _; (with_reducible repeat (first | refine blk_drewN ?_ _ | refine blk_drew ?_ | refine blk_alloc ?_ _)); refine blk_far ?_ NB518_531.out _; (with_reducible repeat (first | refine blk_drewN ?_ _ | refine blk_drew ?_ | refine blk_alloc ?_ _)); exact BK518.out⟩, ⟨by (with_reducible repeat (first | refine blk_drewN ?_ _ | refine blk_drew ?_ | refine blk_alloc ?_ _)); refine blk_put (cs := #[.int .i64 t525, .slice none 0 0]) ?_ 1 _ rfl; (with_reducible repeat (first | refine blk_drewN ?_ _ | refine blk_drew ?_ | refine blk_alloc ?_ _)); refine blk_put (cs := #[.int .i64 0, .slice none 0 0]) ?_ 0 _ rfl; (with_reducible repeat (first | refine blk_drewN ?_ _ | refine blk_drew ?_ | refine blk_alloc ?_ _)); exact BK531.out⟩, ⟨pw⟩⟩
   have H1 : (L2_OctReached.j1 kj6 a1 a2 a3 a4 true a0_0 l0_1 t525 t526) = some r := by rw [if_neg (show ¬ (some q532).isNone = true by simp)] at H; exact H
   clear H; have H := H1; clear H1
   try simp only [errW_none, errW_some]
   as_aux_lemma =>
    have H' := am H; clear H; go_wp2; go_meet
    case rel => exact ⟨_, (true), pr, H', ⟨by have := HJ6.out; first | omega | exact Nat.le_refl _⟩, ⟨by (with_reducible repeat (first | apply Kd.R_alloc | apply Kd.R_drewN | apply Kd.R_drew)); exact Kd.R_mono (Kd.R_far (p := ⟨gb531, 1, none⟩) (Kd.R_far (p := ⟨gb531, 0, none⟩) (Kd.R_types HO528.out BK531.out (by decide)) (fun _ hk => hk.2) (.int .i64 t525)) (fun _ hk => hk.2) (.slice Ao26 t526.length co26)) (fun _ hk => trivial)⟩, ⟨by (with_reducible repeat (first | refine blk_drewN ?_ _ | refine blk_drew ?_ | refine blk_alloc ?_ _)); refine blk_far ?_ NB518_531.out _; (with_reducible repeat (first | refine blk_drewN ?_ _ | refine blk_drew ?_ | refine blk_alloc ?_ _)); refine blk_far ?_ NB518_531.out _; (with_reducible repeat (first | refine blk_drewN ?_ _ | refine blk_drew ?_ | refine blk_alloc ?_ _)); exact BK518.out⟩, ⟨by (with_reducible repeat (first | refine blk_drewN ?_ _ | refine blk_drew ?_ | refine blk_alloc ?_ _)); refine blk_put (cs := #[.int .i64 t525, .slice none 0 0]) ?_ 1 _ rfl; (with_reducible repeat (first | refine blk_drewN ?_ _ | refine blk_drew ?_ | refine blk_alloc ?_ _)); refine blk_put (cs := #[.int .i64 0, .slice none 0 0]) ?_ 0 _ rfl; (with_reducible repeat (first | refine blk_drewN ?_ _ | refine blk_drew ?_ | refine blk_alloc ?_ _)); exact BK531.out⟩, ⟨pw⟩⟩
  as_aux_lemma =>
  clear HC18
  (try clear c1)
  (try clear c2)
  (try clear p2)
  (try clear c3)
  (try clear c4)
  (try clear c5)
  (try clear q5)
  (try clear c10)
  (try clear c11)
  (try clear c11b0)
  (try clear c11b1)
  (try clear c12)
  (try clear c15)
  (try clear c24)
  (try clear c27)
  (try clear c28)
  (try clear c28b0)
  (try clear c29)
  (try clear c29b0)
  (try clear c30)
  (try clear c30b0)
  (try clear c31)
  (try clear c33)
  (try clear hcz12_0)
  (try clear hcz12_1)
  (try clear hcz14_0)
  (try clear hcz14_1)
  (try clear hcz19_0)
  (try clear hcz19_1)
  (try clear hcz25_0)
  (try clear hcz25_1)
  (try clear hcz32_0)
  (try clear hcz32_1)
  (try clear hcz34_0)
  (try clear hcz34_1)
  (try clear hfz12_0)
  (try clear hfz12_1)
  (try clear hfz14_0)
  (try clear hfz14_1)
  (try clear hfz19_0)
  (try clear hfz19_1)
  (try clear hfz25_0)
  (try clear hfz25_1)
  (try clear hfz32_0)
  (try clear hfz32_1)
  (try clear hfz34_0)
  (try clear hfz34_1)
  (try clear p2)
  (try clear q532)
  obtain ⟨kq, x72_17, rfl, HA, HJ17, HO_532001, BK518, BK531, HB⟩ := hcut
  cases kq with
  | zero => exact absurd HA.out (by simp [L2_OctReached.j1])
  | succ kj17 =>
   have H := HA.out; clear HA; simp only [L2_OctReached.j1] at H; by_cases c35 : x72_17 = true
   ·subst c35
    have H1 : (some true) = some r := by rw [if_pos rfl] at H; exact H
    clear H; have H := H1; clear H1
    as_aux_lemma =>
     obtain rfl := Option.some.inj H; go_wp2; go_ret; exact ⟨pe, pw⟩
   replace c35 := Bool.eq_false_iff.mpr c35; subst c35
   have H1 : (if a2 = a4 then (L2_OctReached.j2 kj17 a1 a2 a3 a4 true a0_0 l0_1 t525 t526) else (L2_OctReached.j2 kj17 a1 a2 a3 a4 ((t526.length : Int) != (wrap64 ((wrap64 (4 * a0_0)) * a0_0))) a0_0 l0_1 t525 t526)) = some r := by rw [if_neg (show ¬ (false = true) by decide)] at H; exact H
   clear H; have H := H1; clear H1; have HC36 := am H; clear H; go_upto_region 7 with (fail); go_cut [87] (fun v87 wc => ∃ (kq : Nat) (x87_35 : Bool), v87 = .bool x87_35 ∧ Aside0 (L2_OctReached.j2 kq a1 a2 a3 a4 x87_35 a0_0 l0_1 t525 t526 = some r) ∧ Aside0 (kq ≤ kj17) ∧ Aside0 (Kd.R k95 95 wc w.heap.size (fun _ => True) (.slice Ao26 t526.length co26) t526) ∧ Aside0 (wc.heap[gb518]? = some (.cells #[.int .i64 a0_0, (.slice A0_1 l0_1.length c0_1)] 78 (0, 0))) ∧ Aside0 (wc.heap[gb531]? = some (.cells #[.int .i64 t525, (.slice Ao26 t526.length co26)] 82 (0, 0))) ∧ Aside0 (Below w.heap.size w wc))
   case first =>
    have H := HC36.out; clear HC36; by_cases c37 : a2 = a4
    ·rw [if_pos c37] at H
     have c37b0 : (a2 == a4) = true := beq_iff_eq.mpr c37; have c37b1 : (a2 != a4) = false := bne_eq_false_iff_eq.mpr c37; clear c37; (first | rw [c37b0] | (simp only [i64_w, i32_w]; rw [c37b0]) | skip)
     as_aux_lemma =>
      have H' := am H; clear H; go_wp2; go_meet
      case rel => exact ⟨_, (true), pr, H', ⟨by have := HJ6.out; have := HJ17.out; first | omega | exact Nat.le_refl _⟩, ⟨by (with_reducible repeat (first | apply Kd.R_alloc | apply Kd.R_drewN | apply Kd.R_drew)); exact HO_532001.out⟩, ⟨pk⟩, ⟨pk⟩, ⟨pw⟩⟩
    rw [if_neg c37] at H; have c37b0 : (a2 == a4) = false := beq_eq_false_iff_ne.mpr c37; have c37b1 : (a2 != a4) = true := bne_iff_ne.mpr c37; (first | rw [c37b0] | (simp only [i64_w, i32_w]; rw [c37b0]) | skip)
    as_aux_lemma =>
     have H' := am H; clear H; have hnb38 := NB531_518.out; have hnc38 := NB518_531.out; have hcz39_0 : wc.cell? ⟨gb531, 0, none⟩ = some (.int .i64 t525) := bc BK531 0; have hcz39_1 : wc.cell? ⟨gb531, 1, none⟩ = some (.slice Ao26 t526.length co26) := bc BK531 1; have hfz39_0 := blk_frozen BK531.out 0; have hfz39_1 := blk_frozen BK531.out 1; have hcz40_0 : wc.cell? ⟨gb518, 0, none⟩ = some (.int .i64 a0_0) := bc BK518 0; have hcz40_1 : wc.cell? ⟨gb518, 1, none⟩ = some (.slice A0_1 l0_1.length c0_1) := bc BK518 1; have hfz40_0 := blk_frozen BK518.out 0; have hfz40_1 := blk_frozen BK518.out 1; go_wp2; go_meet
     case rel => exact ⟨_, (((t526.length : Int) != (wrap64 ((wrap64 (4 * a0_0)) * a0_0)))), pr, H', ⟨by have := HJ6.out; have := HJ17.out; first | omega | exact Nat.le_refl _⟩, ⟨by (with_reducible repeat (first | apply Kd.R_alloc | apply Kd.R_drewN | apply Kd.R_drew)); exact HO_532001.out⟩, ⟨pk⟩, ⟨pk⟩, ⟨pw⟩⟩
   as_aux_lemma =>
   clear HC36; (try clear c1); (try clear c2); (try clear p2); (try clear c3); (try clear c4); (try clear c5); (try clear q5); (try clear p6); (try clear c10); (try clear c11); (try clear c11b0); (try clear c11b1); (try clear c12); (try clear c15); (try clear c24); (try clear c27); (try clear c28); (try clear c28b0); (try clear c29); (try clear c29b0); (try clear c30); (try clear c30b0); (try clear c31); (try clear c33); (try clear c35); (try clear c37); (try clear c37b0); (try clear c37b1); (try clear c38); (try clear hcz12_0); (try clear hcz12_1); (try clear hcz14_0); (try clear hcz14_1); (try clear hcz19_0); (try clear hcz19_1); (try clear hcz25_0); (try clear hcz25_1); (try clear hcz32_0); (try clear hcz32_1); (try clear hcz34_0); (try clear hcz34_1); (try clear hcz39_0); (try clear hcz39_1); (try clear hcz40_0); (try clear hcz40_1); (try clear hfz12_0); (try clear hfz12_1); (try clear hfz14_0); (try clear hfz14_1); (try clear hfz19_0); (try clear hfz19_1); (try clear hfz25_0); (try clear hfz25_1); (try clear hfz32_0); (try clear hfz32_1); (try clear hfz34_0); (try clear hfz34_1); (try clear hfz39_0); (try clear hfz39_1); (try clear hfz40_0); (try clear hfz40_1); (try clear p2); (try clear q5); (try clear q532); obtain ⟨kq, x87_35, rfl, HA, HJ35, HO_532001, BK518, BK531, HB⟩ := hcut; cases kq with
   | zero => exact absurd HA.out (by simp [L2_OctReached.j2])
   | succ kj35 =>
    have H := HA.out; clear HA; simp only [L2_OctReached.j2] at H; by_cases c41 : x87_35 = true
    ·subst c41
     have H1 : (some true) = some r := by rw [if_pos rfl] at H; exact H
     clear H; have H := H1; clear H1
     as_aux_lemma =>
      obtain rfl := Option.some.inj H; go_wp2; go_ret; exact ⟨pe, pw⟩
    replace c41 := Bool.eq_false_iff.mpr c41; subst c41
    have H1 : (if a1 = 1 then (if a3 = 1 then (L2_OctReached.j3 kj35 a1 a2 a3 a4 false a0_0 l0_1 t525 t526) else (L2_OctReached.j3 kj35 a1 a2 a3 a4 (a3 != (-1)) a0_0 l0_1 t525 t526)) else (if a1 = (-1) then (if a3 = 1 then (L2_OctReached.j3 kj35 a1 a2 a3 a4 false a0_0 l0_1 t525 t526) else (L2_OctReached.j3 kj35 a1 a2 a3 a4 (a3 != (-1)) a0_0 l0_1 t525 t526)) else (L2_OctReached.j3 kj35 a1 a2 a3 a4 true a0_0 l0_1 t525 t526))) = some r := by rw [if_neg (show ¬ (false = true) by decide)] at H; exact H
    clear H; have H := H1; clear H1; have HC42 := am H; clear H; go_upto_region 9 with (fail); go_cut [101] (fun v101 wc => ∃ (kq : Nat) (x101_41 : Bool), v101 = .bool x101_41 ∧ Aside0 (L2_OctReached.j3 kq a1 a2 a3 a4 x101_41 a0_0 l0_1 t525 t526 = some r) ∧ Aside0 (kq ≤ kj35) ∧ Aside0 (Kd.R k95 95 wc w.heap.size (fun _ => True) (.slice Ao26 t526.length co26) t526) ∧ Aside0 (wc.heap[gb518]? = some (.cells #[.int .i64 a0_0, (.slice A0_1 l0_1.length c0_1)] 78 (0, 0))) ∧ Aside0 (wc.heap[gb531]? = some (.cells #[.int .i64 t525, (.slice Ao26 t526.length co26)] 82 (0, 0))) ∧ Aside0 (Below w.heap.size w wc))
    case first =>
     have H := HC42.out; clear HC42; by_cases c43 : a1 = 1
     ·rw [if_pos c43] at H
      have c43b0 : (a1 == 1) = true := beq_iff_eq.mpr c43; have c43b1 : (a1 != 1) = false := bne_eq_false_iff_eq.mpr c43; clear c43; (first | rw [c43b0] | (simp only [i64_w, i32_w]; rw [c43b0]) | skip); by_cases c44 : a3 = 1
      ·rw [if_pos c44] at H
       have c44b0 : (a3 == 1) = true := beq_iff_eq.mpr c44; have c44b1 : (a3 != 1) = false := bne_eq_false_iff_eq.mpr c44; clear c44
       as_aux_lemma =>
        have H' := am H; clear H; go_wp2; go_meet
        case rel => exact ⟨_, (false), pr, H', ⟨by have := HJ6.out; have := HJ17.out; have := HJ35.out; first | omega | exact Nat.le_refl _⟩, ⟨by (with_reducible repeat (first | apply Kd.R_alloc | apply Kd.R_drewN | apply Kd.R_drew)); exact HO_532001.out⟩, ⟨pk⟩, ⟨pk⟩, ⟨pw⟩⟩
      rw [if_neg c44] at H; have c44b0 : (a3 == 1) = false := beq_eq_false_iff_ne.mpr c44; have c44b1 : (a3 != 1) = true := bne_iff_ne.mpr c44
      as_aux_lemma =>
       have H' := am H; clear H; go_wp2; go_meet
       case rel => exact ⟨_, ((a3 != (-1))), pr, H', ⟨by have := HJ6.out; have := HJ17.out; have := HJ35.out; first | omega | exact Nat.le_refl _⟩, ⟨by (with_reducible repeat (first | apply Kd.R_alloc | apply Kd.R_drewN | apply Kd.R_drew)); exact HO_532001.out⟩, ⟨pk⟩, ⟨pk⟩, ⟨pw⟩⟩
     rw [if_neg c43] at H; have c43b0 : (a1 == 1) = false := beq_eq_false_iff_ne.mpr c43; have c43b1 : (a1 != 1) = true := bne_iff_ne.mpr c43; (first | rw [c43b0] | (simp only [i64_w, i32_w]; rw [c43b0]) | skip); by_cases c45 : a1 = (-1)
     ·rw [if_pos c45] at H
      have c45b0 : (a1 == (-1)) = true := beq_iff_eq.mpr c45; have c45b1 : (a1 != (-1)) = false := bne_eq_false_iff_eq.mpr c45; clear c45; by_cases c46 : a3 = 1
      ·rw [if_pos c46] at H
       have c46b0 : (a3 == 1) = true := beq_iff_eq.mpr c46; have c46b1 : (a3 != 1) = false := bne_eq_false_iff_eq.mpr c46; clear c46
       as_aux_lemma =>
        have H' := am H; clear H; go_wp2; go_meet
        case rel => exact ⟨_, (false), pr, H', ⟨by have := HJ6.out; have := HJ17.out; have := HJ35.out; first | omega | exact Nat.le_refl _⟩, ⟨by (with_reducible repeat (first | apply Kd.R_alloc | apply Kd.R_drewN | apply Kd.R_drew)); exact HO_532001.out⟩, ⟨pk⟩, ⟨pk⟩, ⟨pw⟩⟩
      rw [if_neg c46] at H; have c46b0 : (a3 == 1) = false := beq_eq_false_iff_ne.mpr c46; have c46b1 : (a3 != 1) = true := bne_iff_ne.mpr c46
      as_aux_lemma =>
       have H' := am H; clear H; go_wp2; go_meet
       case rel => exact ⟨_, ((a3 != (-1))), pr, H', ⟨by have := HJ6.out; have := HJ17.out; have := HJ35.out; first | omega | exact Nat.le_refl _⟩, ⟨by (with_reducible repeat (first | apply Kd.R_alloc | apply Kd.R_drewN | apply Kd.R_drew)); exact HO_532001.out⟩, ⟨pk⟩, ⟨pk⟩, ⟨pw⟩⟩
     rw [if_neg c45] at H; have c45b0 : (a1 == (-1)) = false := beq_eq_false_iff_ne.mpr c45; have c45b1 : (a1 != (-1)) = true := bne_iff_ne.mpr c45
     as_aux_lemma =>
      have H' := am H; clear H; go_wp2; go_meet
      case rel => exact ⟨_, (true), pr, H', ⟨by have := HJ6.out; have := HJ17.out; have := HJ35.out; first | omega | exact Nat.le_refl _⟩, ⟨by (with_reducible repeat (first | apply Kd.R_alloc | apply Kd.R_drewN | apply Kd.R_drew)); exact HO_532001.out⟩, ⟨pk⟩, ⟨pk⟩, ⟨pw⟩⟩
    as_aux_lemma =>
    clear HC42; (try clear c1); (try clear c2); (try clear p2); (try clear c3); (try clear c4); (try clear c5); (try clear q5); (try clear p6); (try clear c10); (try clear c11); (try clear c11b0); (try clear c11b1); (try clear c12); (try clear c15); (try clear c24); (try clear c27); (try clear c28); (try clear c28b0); (try clear c29); (try clear c29b0); (try clear c30); (try clear c30b0); (try clear c31); (try clear c33); (try clear c35); (try clear c37); (try clear c37b0); (try clear c37b1); (try clear c38); (try clear c41); (try clear c43); (try clear c43b0); (try clear c43b1); (try clear c44); (try clear c44b0); (try clear c44b1); (try clear c45); (try clear c45b0); (try clear c45b1); (try clear c46); (try clear c46b0); (try clear c46b1); (try clear hcz12_0); (try clear hcz12_1); (try clear hcz14_0); (try clear hcz14_1); (try clear hcz19_0); (try clear hcz19_1); (try clear hcz25_0); (try clear hcz25_1); (try clear hcz32_0); (try clear hcz32_1); (try clear hcz34_0); (try clear hcz34_1); (try clear hcz39_0); (try clear hcz39_1); (try clear hcz40_0); (try clear hcz40_1); (try clear hfz12_0); (try clear hfz12_1); (try clear hfz14_0); (try clear hfz14_1); (try clear hfz19_0); (try clear hfz19_1); (try clear hfz25_0); (try clear hfz25_1); (try clear hfz32_0); (try clear hfz32_1); (try clear hfz34_0); (try clear hfz34_1); (try clear hfz39_0); (try clear hfz39_1); (try clear hfz40_0); (try clear hfz40_1); (try clear p2); (try clear p6); (try clear q5); (try clear q532); obtain ⟨kq, x101_41, rfl, HA, HJ41, HO_532001, BK518, BK531, HB⟩ := hcut; cases kq with
    | zero => exact absurd HA.out (by simp [L2_OctReached.j3])
    | succ kj41 =>
     have H := HA.out; clear HA; simp only [L2_OctReached.j3] at H; by_cases c47 : x101_41 = true
     ·subst c47
      have H1 : (some true) = some r := by rw [if_pos rfl] at H; exact H
      clear H; have H := H1; clear H1
      as_aux_lemma =>
       obtain rfl := Option.some.inj H; go_wp2; go_ret; exact ⟨pe, pw⟩
     replace c47 := Bool.eq_false_iff.mpr c47; subst c47
     have H1 : (if a1 < 0 then (L2_OctReached.j4 kj41 a1 a2 a3 a4 (wrap64 ((wrap64 (2 * a2)) + 1)) a0_0 l0_1 t525 t526) else (L2_OctReached.j4 kj41 a1 a2 a3 a4 (wrap64 (2 * a2)) a0_0 l0_1 t525 t526)) = some r := by rw [if_neg (show ¬ (false = true) by decide)] at H; exact H
     clear H; have H := H1; clear H1; have HC48 := am H; clear H; go_upto_if 105 with (fail); go_cut [15] (fun v15 wc => ∃ (kq : Nat) (x15_47 : Int), v15 = .int .i64 x15_47 ∧ Aside0 (L2_OctReached.j4 kq a1 a2 a3 a4 x15_47 a0_0 l0_1 t525 t526 = some r) ∧ Aside0 (kq ≤ kj41) ∧ Aside0 (Kd.R k95 95 wc w.heap.size (fun _ => True) (.slice Ao26 t526.length co26) t526) ∧ Aside0 (wc.heap[gb518]? = some (.cells #[.int .i64 a0_0, (.slice A0_1 l0_1.length c0_1)] 78 (0, 0))) ∧ Aside0 (wc.heap[gb531]? = some (.cells #[.int .i64 t525, (.slice Ao26 t526.length co26)] 82 (0, 0))) ∧ Aside0 (Below w.heap.size w wc))
     case first =>
      have H := HC48.out; clear HC48; by_cases c49 : a1 < 0
      ·rw [if_pos c49] at H
       have c49b0 : decide (a1 < 0) = true := decide_eq_true c49; clear c49; (first | rw [c49b0] | (simp only [i64_w, i32_w]; rw [c49b0]) | skip)
       as_aux_lemma =>
        have H' := am H; clear H; go_wp2; go_meet
        case rel => exact ⟨_, (wrap64 ((wrap64 (2 * a2)) + 1)), pr, H', ⟨by have := HJ6.out; have := HJ17.out; have := HJ35.out; have := HJ41.out; first | omega | exact Nat.le_refl _⟩, ⟨by (with_reducible repeat (first | apply Kd.R_alloc | apply Kd.R_drewN | apply Kd.R_drew)); exact HO_532001.out⟩, ⟨pk⟩, ⟨pk⟩, ⟨pw⟩⟩
      rw [if_neg c49] at H; have c49b0 : decide (a1 < 0) = false := decide_eq_false c49; clear c49; (first | rw [c49b0] | (simp only [i64_w, i32_w]; rw [c49b0]) | skip)
      as_aux_lemma =>
       have H' := am H; clear H; go_wp2; go_meet
       case rel => exact ⟨_, (wrap64 (2 * a2)), pr, H', ⟨by have := HJ6.out; have := HJ17.out; have := HJ35.out; have := HJ41.out; first | omega | exact Nat.le_refl _⟩, ⟨by (with_reducible repeat (first | apply Kd.R_alloc | apply Kd.R_drewN | apply Kd.R_drew)); exact HO_532001.out⟩, ⟨pk⟩, ⟨pk⟩, ⟨pw⟩⟩
     as_aux_lemma =>
     clear HC48; (try clear c1); (try clear c2); (try clear p2); (try clear c3); (try clear c4); (try clear c5); (try clear q5); (try clear p6); (try clear c10); (try clear c11); (try clear c11b0); (try clear c11b1); (try clear c12); (try clear c15); (try clear c24); (try clear c27); (try clear c28); (try clear c28b0); (try clear c29); (try clear c29b0); (try clear c30); (try clear c30b0); (try clear c31); (try clear c33); (try clear c35); (try clear c37); (try clear c37b0); (try clear c37b1); (try clear c38); (try clear c41); (try clear c43); (try clear c43b0); (try clear c43b1); (try clear c44); (try clear c44b0); (try clear c44b1); (try clear c45); (try clear c45b0); (try clear c45b1); (try clear c46); (try clear c46b0); (try clear c46b1); (try clear c47); (try clear c49); (try clear c49b0); (try clear hcz12_0); (try clear hcz12_1); (try clear hcz14_0); (try clear hcz14_1); (try clear hcz19_0); (try clear hcz19_1); (try clear hcz25_0); (try clear hcz25_1); (try clear hcz32_0); (try clear hcz32_1); (try clear hcz34_0); (try clear hcz34_1); (try clear hcz39_0); (try clear hcz39_1); (try clear hcz40_0); (try clear hcz40_1); (try clear hfz12_0); (try clear hfz12_1); (try clear hfz14_0); (try clear hfz14_1); (try clear hfz19_0); (try clear hfz19_1); (try clear hfz25_0); (try clear hfz25_1); (try clear hfz32_0); (try clear hfz32_1); (try clear hfz34_0); (try clear hfz34_1); (try clear hfz39_0); (try clear hfz39_1); (try clear hfz40_0); (try clear hfz40_1); (try clear p2); (try clear p6); (try clear q5); (try clear q532); obtain ⟨kq, x15_47, rfl, HA, HJ47, HO_532001, BK518, BK531, HB⟩ := hcut; cases kq with
     | zero => exact absurd HA.out (by simp [L2_OctReached.j4])
     | succ kj47 =>
      have H := HA.out; clear HA; simp only [L2_OctReached.j4] at H; have HC50 := am H; clear H; go_upto_if 112 with (fail); go_cut [16] (fun v16 wc => ∃ (kq : Nat) (x16_49 : Int), v16 = .int .i64 x16_49 ∧ Aside0 (L2_OctReached.j5 kq a1 a2 a3 a4 x15_47 x16_49 a0_0 l0_1 t525 t526 = some r) ∧ Aside0 (kq ≤ kj47) ∧ Aside0 (Kd.R k95 95 wc w.heap.size (fun _ => True) (.slice Ao26 t526.length co26) t526) ∧ Aside0 (wc.heap[gb518]? = some (.cells #[.int .i64 a0_0, (.slice A0_1 l0_1.length c0_1)] 78 (0, 0))) ∧ Aside0 (wc.heap[gb531]? = some (.cells #[.int .i64 t525, (.slice Ao26 t526.length co26)] 82 (0, 0))) ∧ Aside0 (Below w.heap.size w wc))
      case first =>
       have H := HC50.out; clear HC50; by_cases c51 : a3 < 0
       ·rw [if_pos c51] at H
        have c51b0 : decide (a3 < 0) = true := decide_eq_true c51; clear c51; (first | rw [c51b0] | (simp only [i64_w, i32_w]; rw [c51b0]) | skip)
        as_aux_lemma =>
         have H' := am H; clear H; go_wp2; go_meet
         case rel => exact ⟨_, (wrap64 (2 * a4)), pr, H', ⟨by have := HJ6.out; have := HJ17.out; have := HJ35.out; have := HJ41.out; have := HJ47.out; first | omega | exact Nat.le_refl _⟩, ⟨by (with_reducible repeat (first | apply Kd.R_alloc | apply Kd.R_drewN | apply Kd.R_drew)); exact HO_532001.out⟩, ⟨pk⟩, ⟨pk⟩, ⟨pw⟩⟩
       rw [if_neg c51] at H; have c51b0 : decide (a3 < 0) = false := decide_eq_false c51; clear c51; (first | rw [c51b0] | (simp only [i64_w, i32_w]; rw [c51b0]) | skip)
       as_aux_lemma =>
        have H' := am H; clear H; go_wp2; go_meet
        case rel => exact ⟨_, (wrap64 ((wrap64 (2 * a4)) + 1)), pr, H', ⟨by have := HJ6.out; have := HJ17.out; have := HJ35.out; have := HJ41.out; have := HJ47.out; first | omega | exact Nat.le_refl _⟩, ⟨by (with_reducible repeat (first | apply Kd.R_alloc | apply Kd.R_drewN | apply Kd.R_drew)); exact HO_532001.out⟩, ⟨pk⟩, ⟨pk⟩, ⟨pw⟩⟩
      as_aux_lemma =>
      clear HC50; (try clear c1); (try clear c2); (try clear p2); (try clear c3); (try clear c4); (try clear c5); (try clear q5); (try clear p6); (try clear c10); (try clear c11); (try clear c11b0); (try clear c11b1); (try clear c12); (try clear c15); (try clear c24); (try clear c27); (try clear c28); (try clear c28b0); (try clear c29); (try clear c29b0); (try clear c30); (try clear c30b0); (try clear c31); (try clear c33); (try clear c35); (try clear c37); (try clear c37b0); (try clear c37b1); (try clear c38); (try clear c41); (try clear c43); (try clear c43b0); (try clear c43b1); (try clear c44); (try clear c44b0); (try clear c44b1); (try clear c45); (try clear c45b0); (try clear c45b1); (try clear c46); (try clear c46b0); (try clear c46b1); (try clear c47); (try clear c49); (try clear c49b0); (try clear c51); (try clear c51b0); (try clear hcz12_0); (try clear hcz12_1); (try clear hcz14_0); (try clear hcz14_1); (try clear hcz19_0); (try clear hcz19_1); (try clear hcz25_0); (try clear hcz25_1); (try clear hcz32_0); (try clear hcz32_1); (try clear hcz34_0); (try clear hcz34_1); (try clear hcz39_0); (try clear hcz39_1); (try clear hcz40_0); (try clear hcz40_1); (try clear hfz12_0); (try clear hfz12_1); (try clear hfz14_0); (try clear hfz14_1); (try clear hfz19_0); (try clear hfz19_1); (try clear hfz25_0); (try clear hfz25_1); (try clear hfz32_0); (try clear hfz32_1); (try clear hfz34_0); (try clear hfz34_1); (try clear hfz39_0); (try clear hfz39_1); (try clear hfz40_0); (try clear hfz40_1); (try clear p2); (try clear p6); (try clear q5); (try clear q532); obtain ⟨kq, x16_49, rfl, HA, HJ49, HO_532001, BK518, BK531, HB⟩ := hcut; cases kq with
      | zero => exact absurd HA.out (by simp [L2_OctReached.j5])
      | succ kj49 =>
       have H := HA.out; clear HA; simp only [L2_OctReached.j5] at H; obtain ⟨ji52, hji52⟩ : ∃ j_ : Int, (wrap64 ((wrap64 ((wrap64 (x16_49 * 2)) * a0_0)) + x15_47)) = j_ := ⟨_, rfl⟩
       replace H : (if 0 ≤ (ji52) then (if (ji52) < (t526.length : Int) then (if ((rd_T95 t526 (ji52)).f0 = true) then ((L2_octOf.f kj49 a0_0 l0_1).bind fun bt547 => ((octagon_Guard.f bt547.1 bt547.2 (wrap64 (-a1)) a2 (wrap64 (-a3)) a4 (wrap64 (-((rd_T95 t526 (ji52)).f1)))).bind fun bt551 => ((L2_octOf.f kj49 a0_0 l0_1).bind fun bt557 => ((octagon_Guard.f bt557.1 bt557.2 (wrap64 (-a1)) a2 (wrap64 (-a3)) a4 (wrap64 ((wrap64 (-((rd_T95 t526 (ji52)).f1))) - 1))).bind fun bt561 => (if bt551.2.2.2.isNone = true then (if bt551.2.2.1 = true then (if bt561.2.2.2.isNone = true then (some (!bt561.2.2.1)) else (none)) else (none)) else (none)))))) else ((L2_octOf.f kj49 a0_0 l0_1).bind fun bt535 => ((octagon_Guard.f bt535.1 bt535.2 (wrap64 (-a1)) a2 (wrap64 (-a3)) a4 (-33554432)).bind fun bt539 => (if bt539.2.2.2.isNone = true then (if bt539.2.2.1 = true then (some (bt539.1 == a0_0)) else (none)) else (none))))) else (none)) else (none)) = some r := by first | (rw [hji52] at H; exact H) | (simp only [hji52] at H ⊢; exact H)
       have hji52w : (IntKind.i64.wrap ((wrap64 ((wrap64 (x16_49 * 2)) * a0_0)) + x15_47)) = ji52 := (i64_w _).trans hji52; by_cases c53 : 0 ≤ (ji52)
       ·rw [if_pos c53] at H
        have c53b0 : decide (0 ≤ (ji52)) = true := decide_eq_true c53; clear c53; by_cases c54 : (ji52) < (t526.length : Int)
        ·rw [if_pos c54] at H
         have c54b0 : decide ((ji52) < (t526.length : Int)) = true := decide_eq_true c54; clear c54; obtain ⟨bq55, hbq55⟩ : ∃ b_ : Bool, b_ = ((rd_T95 t526 (ji52)).f0) := ⟨_, rfl⟩
         replace H : (if (bq55 = true) then ((L2_octOf.f kj49 a0_0 l0_1).bind fun bt547 => ((octagon_Guard.f bt547.1 bt547.2 (wrap64 (-a1)) a2 (wrap64 (-a3)) a4 (wrap64 (-((rd_T95 t526 (ji52)).f1)))).bind fun bt551 => ((L2_octOf.f kj49 a0_0 l0_1).bind fun bt557 => ((octagon_Guard.f bt557.1 bt557.2 (wrap64 (-a1)) a2 (wrap64 (-a3)) a4 (wrap64 ((wrap64 (-((rd_T95 t526 (ji52)).f1))) - 1))).bind fun bt561 => (if bt551.2.2.2.isNone = true then (if bt551.2.2.1 = true then (if bt561.2.2.2.isNone = true then (some (!bt561.2.2.1)) else (none)) else (none)) else (none)))))) else ((L2_octOf.f kj49 a0_0 l0_1).bind fun bt535 => ((octagon_Guard.f bt535.1 bt535.2 (wrap64 (-a1)) a2 (wrap64 (-a3)) a4 (-33554432)).bind fun bt539 => (if bt539.2.2.2.isNone = true then (if bt539.2.2.1 = true then (some (bt539.1 == a0_0)) else (none)) else (none))))) = some r := by rw [← hbq55] at H; exact H
         have Nbq55 := am hbq55; clear hbq55; by_cases c56 : (bq55 = true)
         ·subst c56
          have H1 : ((L2_octOf.f kj49 a0_0 l0_1).bind fun bt547 => ((octagon_Guard.f bt547.1 bt547.2 (wrap64 (-a1)) a2 (wrap64 (-a3)) a4 (wrap64 (-((rd_T95 t526 (ji52)).f1)))).bind fun bt551 => ((L2_octOf.f kj49 a0_0 l0_1).bind fun bt557 => ((octagon_Guard.f bt557.1 bt557.2 (wrap64 (-a1)) a2 (wrap64 (-a3)) a4 (wrap64 ((wrap64 (-((rd_T95 t526 (ji52)).f1))) - 1))).bind fun bt561 => (if bt551.2.2.2.isNone = true then (if bt551.2.2.1 = true then (if bt561.2.2.2.isNone = true then (some (!bt561.2.2.1)) else (none)) else (none)) else (none)))))) = some r := by rw [if_pos rfl] at H; exact H
          clear H; have H := H1; clear H1; replace H := Option.bind_eq_some_iff.mp H; obtain ⟨⟨t547, t548⟩, A570, H⟩ := H; replace H : ((octagon_Guard.f t547 t548 (wrap64 (-a1)) a2 (wrap64 (-a3)) a4 (wrap64 (-((rd_T95 t526 (ji52)).f1)))).bind fun bt551 => ((L2_octOf.f kj49 a0_0 l0_1).bind fun bt557 => ((octagon_Guard.f bt557.1 bt557.2 (wrap64 (-a1)) a2 (wrap64 (-a3)) a4 (wrap64 ((wrap64 (-((rd_T95 t526 (ji52)).f1))) - 1))).bind fun bt561 => (if bt551.2.2.2.isNone = true then (if bt551.2.2.1 = true then (if bt561.2.2.2.isNone = true then (some (!bt561.2.2.1)) else (none)) else (none)) else (none))))) = some r := H; have A57 := am A570; clear A570; replace H := Option.bind_eq_some_iff.mp H; obtain ⟨⟨t551, t552, t555, t556⟩, A580, H⟩ := H; replace H : ((L2_octOf.f kj49 a0_0 l0_1).bind fun bt557 => ((octagon_Guard.f bt557.1 bt557.2 (wrap64 (-a1)) a2 (wrap64 (-a3)) a4 (wrap64 ((wrap64 (-((rd_T95 t526 (ji52)).f1))) - 1))).bind fun bt561 => (if t556.isNone = true then (if t555 = true then (if bt561.2.2.2.isNone = true then (some (!bt561.2.2.1)) else (none)) else (none)) else (none)))) = some r := H; have A58 := am A580; clear A580; replace H := Option.bind_eq_some_iff.mp H; obtain ⟨⟨t557, t558⟩, A590, H⟩ := H; replace H : ((octagon_Guard.f t557 t558 (wrap64 (-a1)) a2 (wrap64 (-a3)) a4 (wrap64 ((wrap64 (-((rd_T95 t526 (ji52)).f1))) - 1))).bind fun bt561 => (if t556.isNone = true then (if t555 = true then (if bt561.2.2.2.isNone = true then (some (!bt561.2.2.1)) else (none)) else (none)) else (none))) = some r := H; have A59 := am A590; clear A590; replace H := Option.bind_eq_some_iff.mp H; obtain ⟨⟨t561, t562, t565, t566⟩, A600, H⟩ := H; replace H : (if t556.isNone = true then (if t555 = true then (if t566.isNone = true then (some (!t565)) else (none)) else (none)) else (none)) = some r := H; have A60 := am A600; clear A600; rcases t556 with _ | q568
          ·have H1 : (if t555 = true then (if t566.isNone = true then (some (!t565)) else (none)) else (none)) = some r := by rw [if_pos (show (none : Option Int).isNone = true by rfl)] at H; exact H
           clear H; have H := H1; clear H1
           try simp only [errW_none, errW_some]
           by_cases c61 : t555 = true
           ·subst c61
            have H1 : (if t566.isNone = true then (some (!t565)) else (none)) = some r := by rw [if_pos rfl] at H; exact H
            clear H; have H := H1; clear H1; rcases t566 with _ | q569
            ·have H1 : (some (!t565)) = some r := by rw [if_pos (show (none : Option Int).isNone = true by rfl)] at H; exact H
             clear H; have H := H1; clear H1
             try simp only [errW_none, errW_some]
             as_aux_lemma =>
              obtain rfl := Option.some.inj H; have hnb62 := NB531_518.out; have hnc62 := NB518_531.out; have hcz63_0 : wc.cell? ⟨gb531, 0, none⟩ = some (.int .i64 t525) := bc BK531 0; have hcz63_1 : wc.cell? ⟨gb531, 1, none⟩ = some (.slice Ao26 t526.length co26) := bc BK531 1; have hfz63_0 := blk_frozen BK531.out 0; have hfz63_1 := blk_frozen BK531.out 1; have hcz64_0 : wc.cell? ⟨gb518, 0, none⟩ = some (.int .i64 a0_0) := bc BK518 0; have hcz64_1 : wc.cell? ⟨gb518, 1, none⟩ = some (.slice A0_1 l0_1.length c0_1) := bc BK518 1; have hfz64_0 := blk_frozen BK518.out 0; have hfz64_1 := blk_frozen BK518.out 1; have p533 : 0 ≤ ((ji52) : Int) := od; have q533 : (ji52) < (t526.length : Int) := od; obtain ⟨ad533, e533, hx533_0, hx533_1⟩ := at_T95 (Kd.R_reads' HO_532001.out).2.2 (ji52) p533 q533; (try rw [← Nbq55.out] at hx533_0); cases e533; replace p533 := eq_true p533; replace q533 := eq_true q533
              try go_wp2_with (first | ((with_reducible refine gate_dst (N := 17) rfl ?_); (try (refine gate_guard (by rfl) ?_; dsimp only)); refine box_event ?hg (N := 17) ?hd (cs := #[.bool false, .int .i64 0]) (t := 95) ?hr ?_; (case hd => rfl); (case hg => rfl); (case hr => first | (go_simp; done) | (go_simp; rfl)); intro gb534 hg w65 hbox hb; have n0_ := am (Kd.R_below (Kd.R_elderB (rk HO_532001) gb534 (Nat.le_of_eq hg.symm)) hb); have n1_ := bb BK518 hb; have n2_ := bb BK531 hb; have n3_ := am (below_step pw hb); have n4_ := am (hbox); have n5_ := am (sz (w := w) hg pw); have n6_ := am (sz (w := w) hg pw); have n7_ := am (nl BK518 hg); have n8_ := am ((nl BK518 hg).symm); have n9_ := am (nl BK531 hg); have n10_ := am ((nl BK531 hg).symm); clear HO_532001 BK518 BK531 HB; revert n0_ n1_ n2_ n3_ n4_ n5_ n6_ n7_ n8_ n9_ n10_; intro HO_532001 BK518 BK531 HB BK534 GW534 GE534 NB518_534 NB534_518 NB531_534 NB534_531; clear hb hbox hg; have hnb66 := NB534_518.out; have hnc66 := NB518_534.out; have hnb67 := NB534_531.out; have hnc67 := NB531_534.out; have hcz68_0 : w65.cell? ⟨gb534, 0, none⟩ = some (.bool false) := bc BK534 0; have hcz68_1 : w65.cell? ⟨gb534, 1, none⟩ = some (.int .i64 0) := bc BK534 1; have hfz68_0 := blk_frozen BK534.out 0; have hfz68_1 := blk_frozen BK534.out 1))
              have n0_ : Aside0 (Kd.R k95 95 ((w65.setCell ⟨gb534, 0, none⟩ (.bool true)).setCell ⟨gb534, 1, none⟩ (.int .i64 ((rd_T95 t526 (ji52)).f1))) w.heap.size (fun k_ => k_ ≠ gb534) (.slice (some ad533) t526.length co26) t526) := ⟨by (with_reducible repeat (first | apply Kd.R_alloc | apply Kd.R_drewN | apply Kd.R_drew)); exact Kd.R_mono (Kd.R_far (p := ⟨gb534, 1, none⟩) (Kd.R_far (p := ⟨gb534, 0, none⟩) (Kd.R_mono HO_532001.out (fun k_ hk => (⟨hk, hk.2⟩ : _ ∧ k_ ≠ gb534))) (fun _ hk => hk.2) (.bool true)) (fun _ hk => hk.2) (.int .i64 ((rd_T95 t526 (ji52)).f1))) (fun _ hk => hk.1.2)⟩; have n1_ : Aside0 (((w65.setCell ⟨gb534, 0, none⟩ (.bool true)).setCell ⟨gb534, 1, none⟩ (.int .i64 ((rd_T95 t526 (ji52)).f1))).heap[gb518]? = some (.cells #[.int .i64 a0_0, .slice A0_1 l0_1.length c0_1] 78 (0, 0))) := ⟨by (with_reducible repeat (first | refine blk_drewN ?_ _ | refine blk_drew ?_ | refine blk_alloc ?_ _)); refine blk_far ?_ NB518_534.out _; (with_reducible repeat (first | refine blk_drewN ?_ _ | refine blk_drew ?_ | refine blk_alloc ?_ _)); refine blk_far ?_ NB518_534.out _; (with_reducible repeat (first | refine blk_drewN ?_ _ | refine blk_drew ?_ | refine blk_alloc ?_ _)); exact BK518.out⟩; have n2_ : Aside0 (((w65.setCell ⟨gb534, 0, none⟩ (.bool true)).setCell ⟨gb534, 1, none⟩ (.int .i64 ((rd_T95 t526 (ji52)).f1))).heap[gb531]? = some (.cells #[.int .i64 t525, .slice (some ad533) t526.length co26] 82 (0, 0))) := ⟨by (with_reducible repeat (first | refine blk_drewN ?_ _ | refine blk_drew ?_ | refine blk_alloc ?_ _)); refine blk_far ?_ NB531_534.out _; (with_reducible repeat (first | refine blk_drewN ?_ _ | refine blk_drew ?_ | refine blk_alloc ?_ _)); refine blk_far ?_ NB531_534.out _; (with_reducible repeat (first | refine blk_drewN ?_ _ | refine blk_drew ?_ | refine blk_alloc ?_ _)); exact BK531.out⟩; have n3_ : Aside0 (((w65.setCell ⟨gb534, 0, none⟩ (.bool true)).setCell ⟨gb534, 1, none⟩ (.int .i64 ((rd_T95 t526 (ji52)).f1))).heap[gb534]? = some (.cells #[.bool true, .int .i64 ((rd_T95 t526 (ji52)).f1)] 95 (0, 0))) := ⟨by (with_reducible repeat (first | refine blk_drewN ?_ _ | refine blk_drew ?_ | refine blk_alloc ?_ _)); refine blk_put (cs := #[.bool true, .int .i64 0]) ?_ 1 _ rfl; (with_reducible repeat (first | refine blk_drewN ?_ _ | refine blk_drew ?_ | refine blk_alloc ?_ _)); refine blk_put (cs := #[.bool false, .int .i64 0]) ?_ 0 _ rfl; (with_reducible repeat (first | refine blk_drewN ?_ _ | refine blk_drew ?_ | refine blk_alloc ?_ _)); exact BK534.out⟩; have n4_ : Aside0 (Below w.heap.size w ((w65.setCell ⟨gb534, 0, none⟩ (.bool true)).setCell ⟨gb534, 1, none⟩ (.int .i64 ((rd_T95 t526 (ji52)).f1)))) := ⟨pw⟩; (try clear HO_532001); (try clear BK518); (try clear BK531); (try clear BK534); (try clear HB); generalize ((w65.setCell ⟨gb534, 0, none⟩ (.bool true)).setCell ⟨gb534, 1, none⟩ (.int .i64 ((rd_T95 t526 (ji52)).f1))) = w69 at n0_ n1_ n2_ n3_ n4_ ⊢; revert n0_ n1_ n2_ n3_ n4_; intro HO_532001 BK518 BK531 BK534 HB; have n0_ := am (Kd.R_drew HO_532001.out); have n1_ := am (blk_drew BK518.out); have n2_ := am (blk_drew BK531.out); have n3_ := am (blk_drew BK534.out); have n4_ := am (below_drew1 HB.out); clear HO_532001 BK518 BK531 BK534 HB; revert n0_ n1_ n2_ n3_ n4_; intro HO_532001 BK518 BK531 BK534 HB; refine start_ (n := 18) (S := fun w' => w'.cell? ⟨gb518, 0, none⟩ = some (.int .i64 a0_0) ∧ w'.cell? ⟨gb518, 1, none⟩ = some (.slice A0_1 l0_1.length c0_1) ∧ w'.cell? ⟨gb534, 0, none⟩ = some (.bool true) ∧ w'.cell? ⟨gb534, 1, none⟩ = some (.int .i64 ((rd_T95 t526 (ji52)).f1))) (ds := []) (bm 0 18) kk rfl rfl ⟨bc BK518 0, bc BK518 1, bc BK534 0, bc BK534 1⟩ (fun hHeld => ?_); refine with_tabW L2_OctReached.tab21 L2_OctReached.bits21 (fun HT_ HW_ => ?_); generalize w69.drew = w70 at HO_532001 BK518 BK531 BK534 HB hHeld ⊢; refine pure_ (i := 2) (N := some 157) (v := ?_) (a' := ?_) #[false, false, true, false, false, false, false, false, false, false, false, false, false, false, false, false, false, false] rfl rfl (any_of HT_.out kk) (fun _ _ _ h => h) (Or.inl ⟨by rfl, ?_⟩) ?_ ?_
              rotate_left; ·intro w'; go_simp; with_reducible rfl
              rotate_left; ·simp only [sp]; rfl
              refine pure_ (i := 3) (N := some 158) (v := ?_) (a' := ?_) #[false, false, true, true, false, false, false, false, false, false, false, false, false, false, false, false, false, false] rfl rfl (any_of HT_.out kk) (fun _ _ _ h => h) (Or.inl ⟨by rfl, ?_⟩) ?_ ?_; rotate_left; ·intro w'; go_simp; with_reducible rfl
              rotate_left; ·simp only [sp]; rfl
              refine pure_ (i := 4) (N := some 159) (v := ?_) (a' := ?_) #[false, false, true, true, true, false, false, false, false, false, false, false, false, false, false, false, false, false] rfl rfl (any_of HT_.out kk) (fun _ _ _ h => h) (Or.inl ⟨by rfl, ?_⟩) ?_ ?_; rotate_left; ·intro w'; go_simp; with_reducible rfl
              rotate_left; ·simp only [sp]; rfl
              refine pure_ (i := 5) (N := some 160) (v := ?_) (a' := ?_) #[false, false, true, true, true, true, false, false, false, false, false, false, false, false, false, false, false, false] rfl rfl (any_of HT_.out kk) (fun _ _ _ h => h) (Or.inl ⟨by rfl, ?_⟩) ?_ ?_; rotate_left; ·intro w'; go_simp; with_reducible rfl
              rotate_left; ·simp only [sp]; rfl
              refine pure_ (i := 6) (N := some 161) (v := ?_) (a' := ?_) #[false, false, true, true, true, true, true, false, false, false, false, false, false, false, false, false, false, false] rfl rfl (any_of HT_.out kk) (fun _ _ _ h => h) (Or.inl ⟨by rfl, ?_⟩) ?_ ?_; rotate_left; ·intro w'; go_simp; with_reducible rfl
              rotate_left; ·simp only [sp]; rfl
              refine pure_ (i := 7) (N := some 162) (v := ?_) (a' := ?_) #[false, false, true, true, true, true, true, true, false, false, false, false, false, false, false, false, false, false] rfl rfl (any_of HT_.out kk) (fun _ _ _ h => h) (Or.inl ⟨by rfl, ?_⟩) ?_ ?_; rotate_left; ·intro w'; go_simp; with_reducible rfl
              rotate_left; ·simp only [sp]; rfl
              refine pure_ (i := 8) (N := some 163) (v := ?_) (a' := ?_) #[false, false, true, true, true, true, true, true, true, false, false, false, false, false, false, false, false, false] rfl rfl (any_of HT_.out kk) (fun _ _ _ h => h) (Or.inl ⟨by rfl, ?_⟩) ?_ ?_; rotate_left; ·intro w'; go_simp; with_reducible rfl
              rotate_left; ·simp only [sp]; rfl
              refine take_ (i := 0) (N := some 155) (v := ?_) (a' := ?_) #[true, false, true, true, true, true, true, true, true, false, false, false, false, false, false, false, false, false] rfl rfl (take_ofW HT_.out HW_.out kk) (fun _ _ _ h => h) (Or.inl ⟨by rfl, ?_⟩) hHeld ?_ ?_; rotate_left; ·rintro w' ⟨s0, s1, s2, s3⟩; go_simp; with_reducible rfl
              rotate_left; ·simp only [sp]; rfl
              refine take_ (i := 9) (N := some 164) (v := ?_) (a' := ?_) #[true, false, true, true, true, true, true, true, true, true, false, false, false, false, false, false, false, false] rfl rfl (take_ofW HT_.out HW_.out kk) (fun _ _ _ h => h) (Or.inl ⟨by rfl, ?_⟩) hHeld ?_ ?_; rotate_left; ·rintro w' ⟨s0, s1, s2, s3⟩; go_simp; with_reducible rfl
              rotate_left; ·simp only [sp]; rfl
              refine pure_ (i := 10) (N := some 165) (v := ?_) (a' := ?_) #[true, false, true, true, true, true, true, true, true, true, true, false, false, false, false, false, false, false] rfl rfl (any_of HT_.out kk) (fun _ _ _ h => h) (Or.inl ⟨by rfl, ?_⟩) ?_ ?_; rotate_left; ·intro w'; go_simp; with_reducible rfl
              rotate_left; ·simp only [sp]; rfl
              refine one_ (i := 1) (N := some 156) (bm 11 18) rfl rfl (one_of HT_.out kk) (by decide) (fun K hK => ?_); refine goes_ Tryd.func49 kk rfl #[.agg #[.int .i64 a0_0, .slice A0_1 l0_1.length c0_1]] (by rfl) rfl rfl (by (try simp only [List.map_toArray, List.map_cons, List.map_nil]); first | done | rfl | (simp only [List.length_drop, List.length_take]; rfl)) ?_
              with_reducible refine (L2_octOf.calls kj49 a0_0 _ _ l0_1 t547 t548 _ ?side1 ?side2 A57.out).mono ?_
              (case side1 => repeat (first | exact (Kd.C_below HR0_1.out HB.out) | (with_reducible refine Kd.C_alloc ?_ _) | (with_reducible refine Kd.C_drewN ?_ _) | (with_reducible refine Kd.C_drew ?_)))
              (case side2 => exact HC0_1.out); rintro e w71 ⟨v549, rfl, ho0, hb⟩; refine ⟨_, rfl, ?_⟩; have n0_ := am (Kd.R_elder' (rk HO_532001) (Kd.R_base ho0) hb); have n1_ := am (Kd.R_lower (Kd.R_newB (Kd.R_new' ho0 (Kd.R_lt (rk HO_532001))) (g := gb534) (o := .cells #[.bool true, .int .i64 ((rd_T95 t526 (ji52)).f1)] 95 (0, 0)) pk) (below_size pw)); have n2_ := bb BK518 hb; have n3_ := bb BK531 hb; have n4_ := bb BK534 hb; have n5_ := am (below_step pw hb); clear HO_532001 BK518 BK531 BK534 HB; revert n0_ n1_ n2_ n3_ n4_ n5_; intro HO_532001 HO550 BK518 BK531 BK534 HB; (try clear hb); (try clear hb2); (try clear hk); (try clear hi); (try clear ho0); obtain ⟨Ao72, co72, eo72⟩ := Kd.R_slice HO550.out; (first | subst eo72 | (injection eo72 with f1_ f2_ f3_; have f4_ := f1_.symm; have f5_ := f3_.symm; clear f1_ f2_ f3_; subst f4_; subst f5_)); refine hK.out _ _ ⟨bc BK518 0, bc BK518 1, bc BK534 0, bc BK534 1⟩ (fun hHeld => ?_); clear hK K; refine norm_ (a' := ?_) ?_ ?_; rotate_left
              ·show Act.put _ (some 156) _ = _
               simp only [sp]; rfl
              refine one_ (i := 11) (N := some 166) (bm 12 18) rfl rfl (one_of HT_.out kk) (by decide) (fun K hK => ?_); refine goes_ Tryd.func56 kk rfl #[.agg #[.int .i64 t547, .slice Ao72 t548.length co72], .int .i64 (wrap64 (-a1)), .int .i64 a2, .int .i64 (wrap64 (-a3)), .int .i64 a4, .int .i64 (wrap64 (-((rd_T95 t526 (ji52)).f1)))] (by rfl) rfl rfl (by (try simp only [List.map_toArray, List.map_cons, List.map_nil]); first | done | (simp only [hji52]; rfl) | rfl | (simp only [List.length_drop, List.length_take]; rfl)) ?_
              with_reducible refine (octagon_Guard.calls t547 _ _ t548 (wrap64 (-a1)) a2 (wrap64 (-a3)) a4 (wrap64 (-((rd_T95 t526 (ji52)).f1))) t551 t552 true none _ ?side1 ?side2 A58.out (am (ErrAt.below hE2.out pw)).out (am (ErrAt.below hE3.out pw)).out (am (ErrAt.below hE7.out pw)).out).mono ?_
              (case side1 => repeat (first | exact (Kd.R_reads' HO550.out).2.2 | (with_reducible refine Kd.C_alloc ?_ _) | (with_reducible refine Kd.C_drewN ?_ _) | (with_reducible refine Kd.C_drew ?_)))
              (case side2 => exact (Kd.R_reads' HO550.out).2.1)
              rintro e w73 ⟨v553, rfl, ho0, hb⟩; refine ⟨_, rfl, ?_⟩; have n0_ := am (Kd.R_elder' (rk HO_532001) (Kd.R_base ho0) hb); have n1_ := am (Kd.R_elder' (rk HO550) (Kd.R_base ho0) hb); have n2_ := am (Kd.R_lower (Kd.R_newB (Kd.R_new' (Kd.R_new' ho0 (Kd.R_lt (rk HO_532001))) (Kd.R_lt (rk HO550))) (g := gb534) (o := .cells #[.bool true, .int .i64 ((rd_T95 t526 (ji52)).f1)] 95 (0, 0)) pk) (below_size pw)); have n3_ := bb BK518 hb; have n4_ := bb BK531 hb; have n5_ := bb BK534 hb; have n6_ := am (below_step pw hb); clear HO_532001 HO550 BK518 BK531 BK534 HB; revert n0_ n1_ n2_ n3_ n4_ n5_ n6_; intro HO_532001 HO550 HO554 BK518 BK531 BK534 HB; (try clear hb); (try clear hb2); (try clear hk); (try clear hi); (try clear ho0); (try simp only [errW_none, errW_some]); refine hK.out _ _ ⟨bc BK518 0, bc BK518 1, bc BK534 0, bc BK534 1⟩ (fun hHeld => ?_); clear hK K; refine norm_ (a' := ?_) ?_ ?_; rotate_left
              ·show Act.put _ (some 166) _ = _
               simp only [sp]; rfl
              refine pure_ (i := 12) (N := some 154) (v := ?_) (a' := ?_) (bm 13 18) rfl rfl (any_of HT_.out kk) (fun _ _ _ h => h) (Or.inl ⟨by rfl, ?_⟩) ?_ ?_; rotate_left; ·intro w'; go_simp; with_reducible rfl
              rotate_left; ·simp only [sp]; rfl
              refine pure_ (i := 13) (N := some 167) (v := ?_) (a' := ?_) (bm 14 18) rfl rfl (any_of HT_.out kk) (fun _ _ _ h => h) (Or.inl ⟨by rfl, ?_⟩) ?_ ?_; rotate_left; ·intro w'; go_simp; with_reducible rfl
              rotate_left; ·simp only [sp]; rfl
              refine pure_ (i := 14) (N := some 168) (v := ?_) (a' := ?_) (bm 15 18) rfl rfl (any_of HT_.out kk) (fun _ _ _ h => h) (Or.inl ⟨by rfl, ?_⟩) ?_ ?_; rotate_left; ·intro w'; go_simp; with_reducible rfl
              rotate_left; ·simp only [sp]; rfl
              refine pure_ (i := 15) (N := some 169) (v := ?_) (a' := ?_) (bm 16 18) rfl rfl (any_of HT_.out kk) (fun _ _ _ h => h) (Or.inl ⟨by rfl, ?_⟩) ?_ ?_; rotate_left; ·intro w'; go_simp; with_reducible rfl
              rotate_left; ·simp only [sp]; rfl
              refine pure_ (i := 16) (N := some 13) (v := ?_) (a' := ?_) (bm 17 18) rfl rfl (any_of HT_.out kk) (fun _ _ _ h => h) (Or.inl ⟨by rfl, ?_⟩) ?_ ?_; rotate_left; ·intro w'; go_simp; with_reducible rfl
              rotate_left; ·simp only [sp]; rfl
              refine pure_ (i := 17) (N := some 14) (v := ?_) (a' := ?_) (bm 18 18) rfl rfl (any_of HT_.out kk) (fun _ _ _ h => h) (Or.inl ⟨by rfl, ?_⟩) ?_ ?_; rotate_left; ·intro w'; go_simp; with_reducible rfl
              rotate_left; ·simp only [sp]; rfl
              refine done_ (done_of HT_.out kk) ?_; (try simp only [errW_none, errW_some])
              try go_wp2
              have n0_ := am (Kd.R_drew HO_532001.out); have n1_ := am (Kd.R_drew HO550.out); have n2_ := am (Kd.R_drew HO554.out); have n3_ := am (blk_drew BK518.out); have n4_ := am (blk_drew BK531.out); have n5_ := am (blk_drew BK534.out); have n6_ := am (below_drew1 HB.out); clear HO_532001 HO550 HO554 BK518 BK531 BK534 HB; revert n0_ n1_ n2_ n3_ n4_ n5_ n6_; intro HO_532001 HO550 HO554 BK518 BK531 BK534 HB; refine start_ (n := 21) (S := fun w' => w'.cell? ⟨gb518, 0, none⟩ = some (.int .i64 a0_0) ∧ w'.cell? ⟨gb518, 1, none⟩ = some (.slice A0_1 l0_1.length c0_1) ∧ w'.cell? ⟨gb534, 0, none⟩ = some (.bool true) ∧ w'.cell? ⟨gb534, 1, none⟩ = some (.int .i64 ((rd_T95 t526 (ji52)).f1))) (ds := []) (bm 0 21) kk rfl rfl ⟨bc BK518 0, bc BK518 1, bc BK534 0, bc BK534 1⟩ (fun hHeld => ?_); refine with_tabW L2_OctReached.tab22 L2_OctReached.bits22 (fun HT_ HW_ => ?_); generalize w73.drew = w74 at HO_532001 HO550 HO554 BK518 BK531 BK534 HB hHeld ⊢; refine pure_ (i := 2) (N := some 173) (v := ?_) (a' := ?_) #[false, false, true, false, false, false, false, false, false, false, false, false, false, false, false, false, false, false, false, false, false] rfl rfl (any_of HT_.out kk) (fun _ _ _ h => h) (Or.inl ⟨by rfl, ?_⟩) ?_ ?_; rotate_left; ·intro w'; go_simp; with_reducible rfl
              rotate_left; ·simp only [sp]; rfl
              refine pure_ (i := 3) (N := some 174) (v := ?_) (a' := ?_) #[false, false, true, true, false, false, false, false, false, false, false, false, false, false, false, false, false, false, false, false, false] rfl rfl (any_of HT_.out kk) (fun _ _ _ h => h) (Or.inl ⟨by rfl, ?_⟩) ?_ ?_; rotate_left; ·intro w'; go_simp; with_reducible rfl
              rotate_left; ·simp only [sp]; rfl
              refine pure_ (i := 4) (N := some 175) (v := ?_) (a' := ?_) #[false, false, true, true, true, false, false, false, false, false, false, false, false, false, false, false, false, false, false, false, false] rfl rfl (any_of HT_.out kk) (fun _ _ _ h => h) (Or.inl ⟨by rfl, ?_⟩) ?_ ?_; rotate_left; ·intro w'; go_simp; with_reducible rfl
              rotate_left; ·simp only [sp]; rfl
              refine pure_ (i := 5) (N := some 176) (v := ?_) (a' := ?_) #[false, false, true, true, true, true, false, false, false, false, false, false, false, false, false, false, false, false, false, false, false] rfl rfl (any_of HT_.out kk) (fun _ _ _ h => h) (Or.inl ⟨by rfl, ?_⟩) ?_ ?_; rotate_left; ·intro w'; go_simp; with_reducible rfl
              rotate_left; ·simp only [sp]; rfl
              refine pure_ (i := 6) (N := some 177) (v := ?_) (a' := ?_) #[false, false, true, true, true, true, true, false, false, false, false, false, false, false, false, false, false, false, false, false, false] rfl rfl (any_of HT_.out kk) (fun _ _ _ h => h) (Or.inl ⟨by rfl, ?_⟩) ?_ ?_; rotate_left; ·intro w'; go_simp; with_reducible rfl
              rotate_left; ·simp only [sp]; rfl
              refine pure_ (i := 7) (N := some 178) (v := ?_) (a' := ?_) #[false, false, true, true, true, true, true, true, false, false, false, false, false, false, false, false, false, false, false, false, false] rfl rfl (any_of HT_.out kk) (fun _ _ _ h => h) (Or.inl ⟨by rfl, ?_⟩) ?_ ?_; rotate_left; ·intro w'; go_simp; with_reducible rfl
              rotate_left; ·simp only [sp]; rfl
              refine pure_ (i := 8) (N := some 179) (v := ?_) (a' := ?_) #[false, false, true, true, true, true, true, true, true, false, false, false, false, false, false, false, false, false, false, false, false] rfl rfl (any_of HT_.out kk) (fun _ _ _ h => h) (Or.inl ⟨by rfl, ?_⟩) ?_ ?_; rotate_left; ·intro w'; go_simp; with_reducible rfl
              rotate_left; ·simp only [sp]; rfl
              refine take_ (i := 0) (N := some 171) (v := ?_) (a' := ?_) #[true, false, true, true, true, true, true, true, true, false, false, false, false, false, false, false, false, false, false, false, false] rfl rfl (take_ofW HT_.out HW_.out kk) (fun _ _ _ h => h) (Or.inl ⟨by rfl, ?_⟩) hHeld ?_ ?_; rotate_left; ·rintro w' ⟨s0, s1, s2, s3⟩; go_simp; with_reducible rfl
              rotate_left; ·simp only [sp]; rfl
              refine take_ (i := 9) (N := some 180) (v := ?_) (a' := ?_) #[true, false, true, true, true, true, true, true, true, true, false, false, false, false, false, false, false, false, false, false, false] rfl rfl (take_ofW HT_.out HW_.out kk) (fun _ _ _ h => h) (Or.inl ⟨by rfl, ?_⟩) hHeld ?_ ?_; rotate_left; ·rintro w' ⟨s0, s1, s2, s3⟩; go_simp; with_reducible rfl
              rotate_left; ·simp only [sp]; rfl
              refine pure_ (i := 10) (N := some 181) (v := ?_) (a' := ?_) #[true, false, true, true, true, true, true, true, true, true, true, false, false, false, false, false, false, false, false, false, false] rfl rfl (any_of HT_.out kk) (fun _ _ _ h => h) (Or.inl ⟨by rfl, ?_⟩) ?_ ?_; rotate_left; ·intro w'; go_simp; with_reducible rfl
              rotate_left; ·simp only [sp]; rfl
              refine pure_ (i := 11) (N := some 182) (v := ?_) (a' := ?_) #[true, false, true, true, true, true, true, true, true, true, true, true, false, false, false, false, false, false, false, false, false] rfl rfl (any_of HT_.out kk) (fun _ _ _ h => h) (Or.inl ⟨by rfl, ?_⟩) ?_ ?_; rotate_left; ·intro w'; go_simp; with_reducible rfl
              rotate_left; ·simp only [sp]; rfl
              refine join_ (σ := Value × Value × Nat) 3 (bm 18 21) (fun s_ => [(172, .agg #[.int .i64 t557, s_.1]), (183, .tuple #[.agg #[.int .i64 t561, s_.2.1], .bool t565, .nilIface]), (21, .pointer (some ⟨s_.2.2, 0, none⟩)), (170, .tuple #[.agg #[.int .i64 t561, s_.2.1], .bool t565, .nilIface]), (184, .agg #[.int .i64 t561, s_.2.1]), (185, .bool t565), (186, .nilIface)]) (fun s_ w' => (w'.cell? ⟨gb518, 0, none⟩ = some (.int .i64 a0_0) ∧ w'.cell? ⟨gb518, 1, none⟩ = some (.slice A0_1 l0_1.length c0_1) ∧ w'.cell? ⟨gb534, 0, none⟩ = some (.bool true) ∧ w'.cell? ⟨gb534, 1, none⟩ = some (.int .i64 ((rd_T95 t526 (ji52)).f1))) ∧ (Kd.R k95 95 w' w.heap.size (fun k_ => nb v553 k_ ∧ some k_ ≠ (s_.1 : Value).ownBlock ∧ some k_ ≠ (s_.2.1 : Value).ownBlock ∧ nb (.slice (some ad533) t526.length co26) k_ ∧ k_ ≠ gb534) (.slice Ao72 t548.length co72) t548) ∧ (Kd.R k95 95 w' w.heap.size (fun k_ => some k_ ≠ (.slice Ao72 t548.length co72 : Value).ownBlock ∧ some k_ ≠ (s_.1 : Value).ownBlock ∧ some k_ ≠ (s_.2.1 : Value).ownBlock ∧ nb (.slice (some ad533) t526.length co26) k_ ∧ k_ ≠ gb534) v553 t552) ∧ (Kd.R k95 95 w' w.heap.size (fun k_ => some k_ ≠ (.slice Ao72 t548.length co72 : Value).ownBlock ∧ nb v553 k_ ∧ some k_ ≠ (s_.2.1 : Value).ownBlock ∧ nb (.slice (some ad533) t526.length co26) k_ ∧ k_ ≠ gb534) s_.1 t558) ∧ (Kd.R k95 95 w' w.heap.size (fun k_ => some k_ ≠ (.slice Ao72 t548.length co72 : Value).ownBlock ∧ nb v553 k_ ∧ some k_ ≠ (s_.1 : Value).ownBlock ∧ nb (.slice (some ad533) t526.length co26) k_ ∧ k_ ≠ gb534) s_.2.1 t562) ∧ (Kd.R k95 95 w' w.heap.size (fun k_ => some k_ ≠ (.slice Ao72 t548.length co72 : Value).ownBlock ∧ nb v553 k_ ∧ some k_ ≠ (s_.1 : Value).ownBlock ∧ some k_ ≠ (s_.2.1 : Value).ownBlock ∧ k_ ≠ gb534) (.slice (some ad533) t526.length co26) t526) ∧ (w'.heap[gb518]? = some (.cells #[.int .i64 a0_0, .slice A0_1 l0_1.length c0_1] 78 (0, 0))) ∧ (w'.heap[gb531]? = some (.cells #[.int .i64 t525, .slice (some ad533) t526.length co26] 82 (0, 0))) ∧ (w'.heap[gb534]? = some (.cells #[.bool true, .int .i64 ((rd_T95 t526 (ji52)).f1)] 95 (0, 0))) ∧ (w'.heap[s_.2.2]? = some (.cells #[.int .i64 0, .slice none 0 0] 82 (0, 0))) ∧ (w.heap.size ≤ s_.2.2) ∧ (w.heap.size ≤ s_.2.2) ∧ (gb518 ≠ s_.2.2) ∧ (s_.2.2 ≠ gb518) ∧ (gb531 ≠ s_.2.2) ∧ (s_.2.2 ≠ gb531) ∧ (gb534 ≠ s_.2.2) ∧ (s_.2.2 ≠ gb534) ∧ (Below w.heap.size w w')) ?_ ?_; rotate_left
              ·intro hCont
               refine two_ (i := 1) (j := 17) (Ni := some 172) (Nj := some 21) (bm 12 21) #[true, false, true, true, true, true, true, true, true, true, true, true, false, false, false, false, false, true, false, false, false] rfl rfl rfl rfl (two_of HT_.out kk) (by decide) (by decide) (fun K hK => ?_) (fun K hK => ?_)
               ·skip
                refine goes_ Tryd.func49 kk rfl #[.agg #[.int .i64 a0_0, .slice A0_1 l0_1.length c0_1]] (by rfl) rfl rfl (by (try simp only [List.map_toArray, List.map_cons, List.map_nil]); first | done | rfl | (simp only [List.length_drop, List.length_take]; rfl)) ?_
                with_reducible refine (L2_octOf.calls kj49 a0_0 _ _ l0_1 t557 t558 _ ?side1 ?side2 A59.out).mono ?_
                (case side1 => repeat (first | exact (Kd.C_below HR0_1.out HB.out) | (with_reducible refine Kd.C_alloc ?_ _) | (with_reducible refine Kd.C_drewN ?_ _) | (with_reducible refine Kd.C_drew ?_)))
                (case side2 => exact HC0_1.out); rintro e w75 ⟨v559, rfl, ho0, hb⟩; refine ⟨_, rfl, ?_⟩; have n0_ := am (Kd.R_elder' (rk HO_532001) (Kd.R_base ho0) hb); have n1_ := am (Kd.R_elder' (rk HO550) (Kd.R_base ho0) hb); have n2_ := am (Kd.R_elder' (rk HO554) (Kd.R_base ho0) hb); have n3_ := am (Kd.R_lower (Kd.R_newB (Kd.R_new' (Kd.R_new' (Kd.R_new' ho0 (Kd.R_lt (rk HO_532001))) (Kd.R_lt (rk HO550))) (Kd.R_lt (rk HO554))) (g := gb534) (o := .cells #[.bool true, .int .i64 ((rd_T95 t526 (ji52)).f1)] 95 (0, 0)) pk) (below_size pw)); have n4_ := bb BK518 hb; have n5_ := bb BK531 hb; have n6_ := bb BK534 hb; have n7_ := am (below_step pw hb); clear HO_532001 HO550 HO554 BK518 BK531 BK534 HB; revert n0_ n1_ n2_ n3_ n4_ n5_ n6_ n7_; intro HO_532001 HO550 HO554 HO560 BK518 BK531 BK534 HB; (try clear hb); (try clear hb2); (try clear hk); (try clear hi); (try clear ho0); obtain ⟨Ao76, co76, eo76⟩ := Kd.R_slice HO560.out; (first | subst eo76 | (injection eo76 with f1_ f2_ f3_; have f4_ := f1_.symm; have f5_ := f3_.symm; clear f1_ f2_ f3_; subst f4_; subst f5_)); refine hK.out _ _ ⟨bc BK518 0, bc BK518 1, bc BK534 0, bc BK534 1⟩ (fun hHeld => ?_); clear hK K; refine norm_ (a' := ?_) ?_ ?_; rotate_left
                ·show Act.put _ (some 172) _ = _
                 simp only [sp]; rfl
                refine two_ (i := 12) (j := 17) (Ni := some 183) (Nj := some 21) (bm 13 21) #[true, true, true, true, true, true, true, true, true, true, true, true, false, false, false, false, false, true, false, false, false] rfl rfl rfl rfl (two_of HT_.out kk) (by decide) (by decide) (fun K hK => ?_) (fun K hK => ?_)
                ·skip
                 refine goes_ Tryd.func56 kk rfl #[.agg #[.int .i64 t557, .slice Ao76 t558.length co76], .int .i64 (wrap64 (-a1)), .int .i64 a2, .int .i64 (wrap64 (-a3)), .int .i64 a4, .int .i64 (wrap64 ((wrap64 (-((rd_T95 t526 (ji52)).f1))) - 1))] (by rfl) rfl rfl (by (try simp only [List.map_toArray, List.map_cons, List.map_nil]); first | done | (simp only [hji52]; rfl) | rfl | (simp only [List.length_drop, List.length_take]; rfl)) ?_
                 with_reducible refine (octagon_Guard.calls t557 _ _ t558 (wrap64 (-a1)) a2 (wrap64 (-a3)) a4 (wrap64 ((wrap64 (-((rd_T95 t526 (ji52)).f1))) - 1)) t561 t562 t565 none _ ?side1 ?side2 A60.out (am (ErrAt.below hE2.out pw)).out (am (ErrAt.below hE3.out pw)).out (am (ErrAt.below hE7.out pw)).out).mono ?_
                 (case side1 => repeat (first | exact (Kd.R_reads' HO560.out).2.2 | (with_reducible refine Kd.C_alloc ?_ _) | (with_reducible refine Kd.C_drewN ?_ _) | (with_reducible refine Kd.C_drew ?_)))
                 (case side2 => exact (Kd.R_reads' HO560.out).2.1)
                 rintro e w77 ⟨v563, rfl, ho0, hb⟩; refine ⟨_, rfl, ?_⟩; have n0_ := am (Kd.R_elder' (rk HO_532001) (Kd.R_base ho0) hb); have n1_ := am (Kd.R_elder' (rk HO550) (Kd.R_base ho0) hb); have n2_ := am (Kd.R_elder' (rk HO554) (Kd.R_base ho0) hb); have n3_ := am (Kd.R_elder' (rk HO560) (Kd.R_base ho0) hb); have n4_ := am (Kd.R_lower (Kd.R_newB (Kd.R_new' (Kd.R_new' (Kd.R_new' (Kd.R_new' ho0 (Kd.R_lt (rk HO_532001))) (Kd.R_lt (rk HO550))) (Kd.R_lt (rk HO554))) (Kd.R_lt (rk HO560))) (g := gb534) (o := .cells #[.bool true, .int .i64 ((rd_T95 t526 (ji52)).f1)] 95 (0, 0)) pk) (below_size pw)); have n5_ := bb BK518 hb; have n6_ := bb BK531 hb; have n7_ := bb BK534 hb; have n8_ := am (below_step pw hb); clear HO_532001 HO550 HO554 HO560 BK518 BK531 BK534 HB; revert n0_ n1_ n2_ n3_ n4_ n5_ n6_ n7_ n8_; intro HO_532001 HO550 HO554 HO560 HO564 BK518 BK531 BK534 HB; (try clear hb); (try clear hb2); (try clear hk); (try clear hi); (try clear ho0); (try simp only [errW_none, errW_some]); refine hK.out _ _ ⟨bc BK518 0, bc BK518 1, bc BK534 0, bc BK534 1⟩ (fun hHeld => ?_); clear hK K; refine norm_ (a' := ?_) ?_ ?_; rotate_left
                 ·show Act.put _ (some 183) _ = _
                  simp only [sp]; rfl
                 refine pure_ (i := 13) (N := some 170) (v := ?_) (a' := ?_) (bm 14 21) rfl rfl (any_of HT_.out kk) (fun _ _ _ h => h) (Or.inl ⟨by rfl, ?_⟩) ?_ ?_; rotate_left; ·intro w'; go_simp; with_reducible rfl
                 rotate_left; ·simp only [sp]; rfl
                 refine pure_ (i := 14) (N := some 184) (v := ?_) (a' := ?_) (bm 15 21) rfl rfl (any_of HT_.out kk) (fun _ _ _ h => h) (Or.inl ⟨by rfl, ?_⟩) ?_ ?_; rotate_left; ·intro w'; go_simp; with_reducible rfl
                 rotate_left; ·simp only [sp]; rfl
                 refine pure_ (i := 15) (N := some 185) (v := ?_) (a' := ?_) (bm 16 21) rfl rfl (any_of HT_.out kk) (fun _ _ _ h => h) (Or.inl ⟨by rfl, ?_⟩) ?_ ?_; rotate_left; ·intro w'; go_simp; with_reducible rfl
                 rotate_left; ·simp only [sp]; rfl
                 refine pure_ (i := 16) (N := some 186) (v := ?_) (a' := ?_) (bm 17 21) rfl rfl (any_of HT_.out kk) (fun _ _ _ h => h) (Or.inl ⟨by rfl, ?_⟩) ?_ ?_; rotate_left; ·intro w'; go_simp; with_reducible rfl
                 rotate_left; ·simp only [sp]; rfl
                 refine one_ (i := 17) (N := some 21) (bm 18 21) rfl rfl (one_of HT_.out kk) (by decide) (fun K hK => ?_)
                 refine box_step ?hg (N := 21) ?hd (cs := #[.int .i64 0, .slice none 0 0]) (t := 82) ?hr ?_; (case hd => rfl); (case hg => rfl); (case hr => first | (go_simp; done) | (go_simp; rfl))
                 intro gb567 hg w78 hbox hb; have n0_ := am (Kd.R_below (rk HO_532001) hb); have n1_ := am (Kd.R_below (rk HO550) hb); have n2_ := am (Kd.R_below (rk HO554) hb); have n3_ := am (Kd.R_below (rk HO560) hb); have n4_ := am (Kd.R_below (rk HO564) hb); have n5_ := bb BK518 hb; have n6_ := bb BK531 hb; have n7_ := bb BK534 hb; have n8_ := am (below_step pw hb); have n9_ := am (hbox); have n10_ := am (sz (w := w) hg pw); have n11_ := am (sz (w := w) hg pw); have n12_ := am (nl BK518 hg); have n13_ := am ((nl BK518 hg).symm); have n14_ := am (nl BK531 hg); have n15_ := am ((nl BK531 hg).symm); have n16_ := am (nl BK534 hg); have n17_ := am ((nl BK534 hg).symm); clear HO_532001 HO550 HO554 HO560 HO564 BK518 BK531 BK534 HB; revert n0_ n1_ n2_ n3_ n4_ n5_ n6_ n7_ n8_ n9_ n10_ n11_ n12_ n13_ n14_ n15_ n16_ n17_; intro HO_532001 HO550 HO554 HO560 HO564 BK518 BK531 BK534 HB BK567 GW567 GE567 NB518_567 NB567_518 NB531_567 NB567_531 NB534_567 NB567_534; clear hb hbox hg; refine hK.out _ _ ⟨bc BK518 0, bc BK518 1, bc BK534 0, bc BK534 1⟩ (fun hHeld => ?_); clear hK K; refine norm_ (a' := ?_) ?_ ?_; rotate_left
                 ·show Act.put _ (some 21) _ = _
                  simp only [sp]; rfl
                 exact norm_ (by simp only [putAll, Act.put, List.setIfInBounds_toArray, List.set_cons_zero, List.set_cons_succ, errW_none, errW_some]) (hCont (.slice Ao76 t558.length co76, v563, gb567) _ ⟨hHeld, (by (with_reducible repeat (first | apply Kd.R_alloc | apply Kd.R_drewN | apply Kd.R_drew)); exact Kd.R_mono HO550.out (fun _ hk => ⟨hk.1.1.2, ⟨hk.1.2, ⟨hk.2, ⟨hk.1.1.1.1.2, hk.1.1.1.2⟩⟩⟩⟩)), (by (with_reducible repeat (first | apply Kd.R_alloc | apply Kd.R_drewN | apply Kd.R_drew)); exact Kd.R_mono HO554.out (fun _ hk => ⟨hk.1.1.1.2, ⟨hk.1.2, ⟨hk.2, ⟨hk.1.1.1.1.2, hk.1.1.2⟩⟩⟩⟩)), (by (with_reducible repeat (first | apply Kd.R_alloc | apply Kd.R_drewN | apply Kd.R_drew)); exact Kd.R_mono HO560.out (fun _ hk => ⟨hk.1.1.1.2, ⟨hk.1.1.2, ⟨hk.2, ⟨hk.1.1.1.1.2, hk.1.2⟩⟩⟩⟩)), (by (with_reducible repeat (first | apply Kd.R_alloc | apply Kd.R_drewN | apply Kd.R_drew)); exact Kd.R_mono HO564.out (fun _ hk => ⟨hk.1.1.1.2, ⟨hk.1.1.2, ⟨hk.1.2, ⟨hk.1.1.1.1.2, hk.2⟩⟩⟩⟩)), (by (with_reducible repeat (first | apply Kd.R_alloc | apply Kd.R_drewN | apply Kd.R_drew)); exact Kd.R_mono HO_532001.out (fun _ hk => ⟨hk.1.1.1.2, ⟨hk.1.1.2, ⟨hk.1.2, ⟨hk.2, hk.1.1.1.1⟩⟩⟩⟩)), pk, pk, pk, pk, GW567.out, GE567.out, NB518_567.out, NB567_518.out, NB531_567.out, NB567_531.out, NB534_567.out, NB567_534.out, pw⟩)
                skip
                refine box_step ?hg (N := 21) ?hd (cs := #[.int .i64 0, .slice none 0 0]) (t := 82) ?hr ?_; (case hd => rfl); (case hg => rfl); (case hr => first | (go_simp; done) | (go_simp; rfl))
                intro gb567 hg w76 hbox hb; have n0_ := am (Kd.R_below (rk HO_532001) hb); have n1_ := am (Kd.R_below (rk HO550) hb); have n2_ := am (Kd.R_below (rk HO554) hb); have n3_ := am (Kd.R_below (rk HO560) hb); have n4_ := bb BK518 hb; have n5_ := bb BK531 hb; have n6_ := bb BK534 hb; have n7_ := am (below_step pw hb); have n8_ := am (hbox); have n9_ := am (sz (w := w) hg pw); have n10_ := am (sz (w := w) hg pw); have n11_ := am (nl BK518 hg); have n12_ := am ((nl BK518 hg).symm); have n13_ := am (nl BK531 hg); have n14_ := am ((nl BK531 hg).symm); have n15_ := am (nl BK534 hg); have n16_ := am ((nl BK534 hg).symm); clear HO_532001 HO550 HO554 HO560 BK518 BK531 BK534 HB; revert n0_ n1_ n2_ n3_ n4_ n5_ n6_ n7_ n8_ n9_ n10_ n11_ n12_ n13_ n14_ n15_ n16_; intro HO_532001 HO550 HO554 HO560 BK518 BK531 BK534 HB BK567 GW567 GE567 NB518_567 NB567_518 NB531_567 NB567_531 NB534_567 NB567_534; clear hb hbox hg; obtain ⟨Ao77, co77, eo77⟩ := Kd.R_slice HO560.out; (first | subst eo77 | (injection eo77 with f1_ f2_ f3_; have f4_ := f1_.symm; have f5_ := f3_.symm; clear f1_ f2_ f3_; subst f4_; subst f5_)); refine hK.out _ _ ⟨bc BK518 0, bc BK518 1, bc BK534 0, bc BK534 1⟩ (fun hHeld => ?_); clear hK K; refine norm_ (a' := ?_) ?_ ?_; rotate_left
                ·show Act.put _ (some 21) _ = _
                 simp only [sp]; rfl
                refine one_ (i := 12) (N := some 183) #[true, true, true, true, true, true, true, true, true, true, true, true, true, false, false, false, false, true, false, false, false] rfl rfl (one_of HT_.out kk) (by decide) (fun K hK => ?_); refine goes_ Tryd.func56 kk rfl #[.agg #[.int .i64 t557, .slice Ao77 t558.length co77], .int .i64 (wrap64 (-a1)), .int .i64 a2, .int .i64 (wrap64 (-a3)), .int .i64 a4, .int .i64 (wrap64 ((wrap64 (-((rd_T95 t526 (ji52)).f1))) - 1))] (by rfl) rfl rfl (by (try simp only [List.map_toArray, List.map_cons, List.map_nil]); first | done | (simp only [hji52]; rfl) | rfl | (simp only [List.length_drop, List.length_take]; rfl)) ?_
                with_reducible refine (octagon_Guard.calls t557 _ _ t558 (wrap64 (-a1)) a2 (wrap64 (-a3)) a4 (wrap64 ((wrap64 (-((rd_T95 t526 (ji52)).f1))) - 1)) t561 t562 t565 none _ ?side1 ?side2 A60.out (am (ErrAt.below hE2.out pw)).out (am (ErrAt.below hE3.out pw)).out (am (ErrAt.below hE7.out pw)).out).mono ?_
                (case side1 => repeat (first | exact (Kd.R_reads' HO560.out).2.2 | (with_reducible refine Kd.C_alloc ?_ _) | (with_reducible refine Kd.C_drewN ?_ _) | (with_reducible refine Kd.C_drew ?_)))
                (case side2 => exact (Kd.R_reads' HO560.out).2.1)
                rintro e w78 ⟨v563, rfl, ho0, hb⟩; refine ⟨_, rfl, ?_⟩; have n0_ := am (Kd.R_elder' (rk HO_532001) (Kd.R_base ho0) hb); have n1_ := am (Kd.R_elder' (rk HO550) (Kd.R_base ho0) hb); have n2_ := am (Kd.R_elder' (rk HO554) (Kd.R_base ho0) hb); have n3_ := am (Kd.R_elder' (rk HO560) (Kd.R_base ho0) hb); have n4_ := am (Kd.R_lower (Kd.R_newB (Kd.R_new' (Kd.R_new' (Kd.R_new' (Kd.R_new' ho0 (Kd.R_lt (rk HO_532001))) (Kd.R_lt (rk HO550))) (Kd.R_lt (rk HO554))) (Kd.R_lt (rk HO560))) (g := gb534) (o := .cells #[.bool true, .int .i64 ((rd_T95 t526 (ji52)).f1)] 95 (0, 0)) pk) (below_size pw)); have n5_ := bb BK518 hb; have n6_ := bb BK531 hb; have n7_ := bb BK534 hb; have n8_ := bb BK567 hb; have n9_ := am (below_step pw hb); clear HO_532001 HO550 HO554 HO560 BK518 BK531 BK534 BK567 HB; revert n0_ n1_ n2_ n3_ n4_ n5_ n6_ n7_ n8_ n9_; intro HO_532001 HO550 HO554 HO560 HO564 BK518 BK531 BK534 BK567 HB; (try clear hb); (try clear hb2); (try clear hk); (try clear hi); (try clear ho0); (try simp only [errW_none, errW_some]); refine hK.out _ _ ⟨bc BK518 0, bc BK518 1, bc BK534 0, bc BK534 1⟩ (fun hHeld => ?_); clear hK K; refine norm_ (a' := ?_) ?_ ?_; rotate_left
                ·show Act.put _ (some 183) _ = _
                 simp only [sp]; rfl
                refine pure_ (i := 13) (N := some 170) (v := ?_) (a' := ?_) #[true, true, true, true, true, true, true, true, true, true, true, true, true, true, false, false, false, true, false, false, false] rfl rfl (any_of HT_.out kk) (fun _ _ _ h => h) (Or.inl ⟨by rfl, ?_⟩) ?_ ?_; rotate_left; ·intro w'; go_simp; with_reducible rfl
                rotate_left; ·simp only [sp]; rfl
                refine pure_ (i := 14) (N := some 184) (v := ?_) (a' := ?_) #[true, true, true, true, true, true, true, true, true, true, true, true, true, true, true, false, false, true, false, false, false] rfl rfl (any_of HT_.out kk) (fun _ _ _ h => h) (Or.inl ⟨by rfl, ?_⟩) ?_ ?_; rotate_left; ·intro w'; go_simp; with_reducible rfl
                rotate_left; ·simp only [sp]; rfl
                refine pure_ (i := 15) (N := some 185) (v := ?_) (a' := ?_) #[true, true, true, true, true, true, true, true, true, true, true, true, true, true, true, true, false, true, false, false, false] rfl rfl (any_of HT_.out kk) (fun _ _ _ h => h) (Or.inl ⟨by rfl, ?_⟩) ?_ ?_; rotate_left; ·intro w'; go_simp; with_reducible rfl
                rotate_left; ·simp only [sp]; rfl
                refine pure_ (i := 16) (N := some 186) (v := ?_) (a' := ?_) (bm 18 21) rfl rfl (any_of HT_.out kk) (fun _ _ _ h => h) (Or.inl ⟨by rfl, ?_⟩) ?_ ?_; rotate_left; ·intro w'; go_simp; with_reducible rfl
                rotate_left; ·simp only [sp]; rfl
                exact norm_ (by simp only [putAll, Act.put, List.setIfInBounds_toArray, List.set_cons_zero, List.set_cons_succ, errW_none, errW_some]) (hCont (.slice Ao77 t558.length co77, v563, gb567) _ ⟨hHeld, (by (with_reducible repeat (first | apply Kd.R_alloc | apply Kd.R_drewN | apply Kd.R_drew)); exact Kd.R_mono HO550.out (fun _ hk => ⟨hk.1.1.2, ⟨hk.1.2, ⟨hk.2, ⟨hk.1.1.1.1.2, hk.1.1.1.2⟩⟩⟩⟩)), (by (with_reducible repeat (first | apply Kd.R_alloc | apply Kd.R_drewN | apply Kd.R_drew)); exact Kd.R_mono HO554.out (fun _ hk => ⟨hk.1.1.1.2, ⟨hk.1.2, ⟨hk.2, ⟨hk.1.1.1.1.2, hk.1.1.2⟩⟩⟩⟩)), (by (with_reducible repeat (first | apply Kd.R_alloc | apply Kd.R_drewN | apply Kd.R_drew)); exact Kd.R_mono HO560.out (fun _ hk => ⟨hk.1.1.1.2, ⟨hk.1.1.2, ⟨hk.2, ⟨hk.1.1.1.1.2, hk.1.2⟩⟩⟩⟩)), (by (with_reducible repeat (first | apply Kd.R_alloc | apply Kd.R_drewN | apply Kd.R_drew)); exact Kd.R_mono HO564.out (fun _ hk => ⟨hk.1.1.1.2, ⟨hk.1.1.2, ⟨hk.1.2, ⟨hk.1.1.1.1.2, hk.2⟩⟩⟩⟩)), (by (with_reducible repeat (first | apply Kd.R_alloc | apply Kd.R_drewN | apply Kd.R_drew)); exact Kd.R_mono HO_532001.out (fun _ hk => ⟨hk.1.1.1.2, ⟨hk.1.1.2, ⟨hk.1.2, ⟨hk.2, hk.1.1.1.1⟩⟩⟩⟩)), pk, pk, pk, pk, GW567.out, GE567.out, NB518_567.out, NB567_518.out, NB531_567.out, NB567_531.out, NB534_567.out, NB567_534.out, pw⟩)
               skip
               refine box_step ?hg (N := 21) ?hd (cs := #[.int .i64 0, .slice none 0 0]) (t := 82) ?hr ?_; (case hd => rfl); (case hg => rfl); (case hr => first | (go_simp; done) | (go_simp; rfl))
               intro gb567 hg w75 hbox hb; have n0_ := am (Kd.R_below (rk HO_532001) hb); have n1_ := am (Kd.R_below (rk HO550) hb); have n2_ := am (Kd.R_below (rk HO554) hb); have n3_ := bb BK518 hb; have n4_ := bb BK531 hb; have n5_ := bb BK534 hb; have n6_ := am (below_step pw hb); have n7_ := am (hbox); have n8_ := am (sz (w := w) hg pw); have n9_ := am (sz (w := w) hg pw); have n10_ := am (nl BK518 hg); have n11_ := am ((nl BK518 hg).symm); have n12_ := am (nl BK531 hg); have n13_ := am ((nl BK531 hg).symm); have n14_ := am (nl BK534 hg); have n15_ := am ((nl BK534 hg).symm); clear HO_532001 HO550 HO554 BK518 BK531 BK534 HB; revert n0_ n1_ n2_ n3_ n4_ n5_ n6_ n7_ n8_ n9_ n10_ n11_ n12_ n13_ n14_ n15_; intro HO_532001 HO550 HO554 BK518 BK531 BK534 HB BK567 GW567 GE567 NB518_567 NB567_518 NB531_567 NB567_531 NB534_567 NB567_534; clear hb hbox hg; refine hK.out _ _ ⟨bc BK518 0, bc BK518 1, bc BK534 0, bc BK534 1⟩ (fun hHeld => ?_); clear hK K; refine norm_ (a' := ?_) ?_ ?_; rotate_left
               ·show Act.put _ (some 21) _ = _
                simp only [sp]; rfl
               refine one_ (i := 1) (N := some 172) #[true, true, true, true, true, true, true, true, true, true, true, true, false, false, false, false, false, true, false, false, false] rfl rfl (one_of HT_.out kk) (by decide) (fun K hK => ?_); refine goes_ Tryd.func49 kk rfl #[.agg #[.int .i64 a0_0, .slice A0_1 l0_1.length c0_1]] (by rfl) rfl rfl (by (try simp only [List.map_toArray, List.map_cons, List.map_nil]); first | done | rfl | (simp only [List.length_drop, List.length_take]; rfl)) ?_
               with_reducible refine (L2_octOf.calls kj49 a0_0 _ _ l0_1 t557 t558 _ ?side1 ?side2 A59.out).mono ?_
               (case side1 => repeat (first | exact (Kd.C_below HR0_1.out HB.out) | (with_reducible refine Kd.C_alloc ?_ _) | (with_reducible refine Kd.C_drewN ?_ _) | (with_reducible refine Kd.C_drew ?_)))
               (case side2 => exact HC0_1.out); rintro e w76 ⟨v559, rfl, ho0, hb⟩; refine ⟨_, rfl, ?_⟩; have n0_ := am (Kd.R_elder' (rk HO_532001) (Kd.R_base ho0) hb); have n1_ := am (Kd.R_elder' (rk HO550) (Kd.R_base ho0) hb); have n2_ := am (Kd.R_elder' (rk HO554) (Kd.R_base ho0) hb); have n3_ := am (Kd.R_lower (Kd.R_newB (Kd.R_new' (Kd.R_new' (Kd.R_new' ho0 (Kd.R_lt (rk HO_532001))) (Kd.R_lt (rk HO550))) (Kd.R_lt (rk HO554))) (g := gb534) (o := .cells #[.bool true, .int .i64 ((rd_T95 t526 (ji52)).f1)] 95 (0, 0)) pk) (below_size pw)); have n4_ := bb BK518 hb; have n5_ := bb BK531 hb; have n6_ := bb BK534 hb; have n7_ := bb BK567 hb; have n8_ := am (below_step pw hb); clear HO_532001 HO550 HO554 BK518 BK531 BK534 BK567 HB; revert n0_ n1_ n2_ n3_ n4_ n5_ n6_ n7_ n8_; intro HO_532001 HO550 HO554 HO560 BK518 BK531 BK534 BK567 HB; (try clear hb); (try clear hb2); (try clear hk); (try clear hi); (try clear ho0); obtain ⟨Ao77, co77, eo77⟩ := Kd.R_slice HO560.out; (first | subst eo77 | (injection eo77 with f1_ f2_ f3_; have f4_ := f1_.symm; have f5_ := f3_.symm; clear f1_ f2_ f3_; subst f4_; subst f5_)); refine hK.out _ _ ⟨bc BK518 0, bc BK518 1, bc BK534 0, bc BK534 1⟩ (fun hHeld => ?_); clear hK K; refine norm_ (a' := ?_) ?_ ?_; rotate_left
               ·show Act.put _ (some 172) _ = _
                simp only [sp]; rfl
               refine one_ (i := 12) (N := some 183) #[true, true, true, true, true, true, true, true, true, true, true, true, true, false, false, false, false, true, false, false, false] rfl rfl (one_of HT_.out kk) (by decide) (fun K hK => ?_); refine goes_ Tryd.func56 kk rfl #[.agg #[.int .i64 t557, .slice Ao77 t558.length co77], .int .i64 (wrap64 (-a1)), .int .i64 a2, .int .i64 (wrap64 (-a3)), .int .i64 a4, .int .i64 (wrap64 ((wrap64 (-((rd_T95 t526 (ji52)).f1))) - 1))] (by rfl) rfl rfl (by (try simp only [List.map_toArray, List.map_cons, List.map_nil]); first | done | (simp only [hji52]; rfl) | rfl | (simp only [List.length_drop, List.length_take]; rfl)) ?_
               with_reducible refine (octagon_Guard.calls t557 _ _ t558 (wrap64 (-a1)) a2 (wrap64 (-a3)) a4 (wrap64 ((wrap64 (-((rd_T95 t526 (ji52)).f1))) - 1)) t561 t562 t565 none _ ?side1 ?side2 A60.out (am (ErrAt.below hE2.out pw)).out (am (ErrAt.below hE3.out pw)).out (am (ErrAt.below hE7.out pw)).out).mono ?_
               (case side1 => repeat (first | exact (Kd.R_reads' HO560.out).2.2 | (with_reducible refine Kd.C_alloc ?_ _) | (with_reducible refine Kd.C_drewN ?_ _) | (with_reducible refine Kd.C_drew ?_)))
               (case side2 => exact (Kd.R_reads' HO560.out).2.1)
               rintro e w78 ⟨v563, rfl, ho0, hb⟩; refine ⟨_, rfl, ?_⟩; have n0_ := am (Kd.R_elder' (rk HO_532001) (Kd.R_base ho0) hb); have n1_ := am (Kd.R_elder' (rk HO550) (Kd.R_base ho0) hb); have n2_ := am (Kd.R_elder' (rk HO554) (Kd.R_base ho0) hb); have n3_ := am (Kd.R_elder' (rk HO560) (Kd.R_base ho0) hb); have n4_ := am (Kd.R_lower (Kd.R_newB (Kd.R_new' (Kd.R_new' (Kd.R_new' (Kd.R_new' ho0 (Kd.R_lt (rk HO_532001))) (Kd.R_lt (rk HO550))) (Kd.R_lt (rk HO554))) (Kd.R_lt (rk HO560))) (g := gb534) (o := .cells #[.bool true, .int .i64 ((rd_T95 t526 (ji52)).f1)] 95 (0, 0)) pk) (below_size pw)); have n5_ := bb BK518 hb; have n6_ := bb BK531 hb; have n7_ := bb BK534 hb; have n8_ := bb BK567 hb; have n9_ := am (below_step pw hb); clear HO_532001 HO550 HO554 HO560 BK518 BK531 BK534 BK567 HB; revert n0_ n1_ n2_ n3_ n4_ n5_ n6_ n7_ n8_ n9_; intro HO_532001 HO550 HO554 HO560 HO564 BK518 BK531 BK534 BK567 HB; (try clear hb); (try clear hb2); (try clear hk); (try clear hi); (try clear ho0); (try simp only [errW_none, errW_some]); refine hK.out _ _ ⟨bc BK518 0, bc BK518 1, bc BK534 0, bc BK534 1⟩ (fun hHeld => ?_); clear hK K; refine norm_ (a' := ?_) ?_ ?_; rotate_left
               ·show Act.put _ (some 183) _ = _
                simp only [sp]; rfl
               refine pure_ (i := 13) (N := some 170) (v := ?_) (a' := ?_) #[true, true, true, true, true, true, true, true, true, true, true, true, true, true, false, false, false, true, false, false, false] rfl rfl (any_of HT_.out kk) (fun _ _ _ h => h) (Or.inl ⟨by rfl, ?_⟩) ?_ ?_; rotate_left; ·intro w'; go_simp; with_reducible rfl
               rotate_left; ·simp only [sp]; rfl
               refine pure_ (i := 14) (N := some 184) (v := ?_) (a' := ?_) #[true, true, true, true, true, true, true, true, true, true, true, true, true, true, true, false, false, true, false, false, false] rfl rfl (any_of HT_.out kk) (fun _ _ _ h => h) (Or.inl ⟨by rfl, ?_⟩) ?_ ?_; rotate_left; ·intro w'; go_simp; with_reducible rfl
               rotate_left; ·simp only [sp]; rfl
               refine pure_ (i := 15) (N := some 185) (v := ?_) (a' := ?_) #[true, true, true, true, true, true, true, true, true, true, true, true, true, true, true, true, false, true, false, false, false] rfl rfl (any_of HT_.out kk) (fun _ _ _ h => h) (Or.inl ⟨by rfl, ?_⟩) ?_ ?_; rotate_left; ·intro w'; go_simp; with_reducible rfl
               rotate_left; ·simp only [sp]; rfl
               refine pure_ (i := 16) (N := some 186) (v := ?_) (a' := ?_) (bm 18 21) rfl rfl (any_of HT_.out kk) (fun _ _ _ h => h) (Or.inl ⟨by rfl, ?_⟩) ?_ ?_; rotate_left; ·intro w'; go_simp; with_reducible rfl
               rotate_left; ·simp only [sp]; rfl
               exact norm_ (by simp only [putAll, Act.put, List.setIfInBounds_toArray, List.set_cons_zero, List.set_cons_succ, errW_none, errW_some]) (hCont (.slice Ao77 t558.length co77, v563, gb567) _ ⟨hHeld, (by (with_reducible repeat (first | apply Kd.R_alloc | apply Kd.R_drewN | apply Kd.R_drew)); exact Kd.R_mono HO550.out (fun _ hk => ⟨hk.1.1.2, ⟨hk.1.2, ⟨hk.2, ⟨hk.1.1.1.1.2, hk.1.1.1.2⟩⟩⟩⟩)), (by (with_reducible repeat (first | apply Kd.R_alloc | apply Kd.R_drewN | apply Kd.R_drew)); exact Kd.R_mono HO554.out (fun _ hk => ⟨hk.1.1.1.2, ⟨hk.1.2, ⟨hk.2, ⟨hk.1.1.1.1.2, hk.1.1.2⟩⟩⟩⟩)), (by (with_reducible repeat (first | apply Kd.R_alloc | apply Kd.R_drewN | apply Kd.R_drew)); exact Kd.R_mono HO560.out (fun _ hk => ⟨hk.1.1.1.2, ⟨hk.1.1.2, ⟨hk.2, ⟨hk.1.1.1.1.2, hk.1.2⟩⟩⟩⟩)), (by (with_reducible repeat (first | apply Kd.R_alloc | apply Kd.R_drewN | apply Kd.R_drew)); exact Kd.R_mono HO564.out (fun _ hk => ⟨hk.1.1.1.2, ⟨hk.1.1.2, ⟨hk.1.2, ⟨hk.1.1.1.1.2, hk.2⟩⟩⟩⟩)), (by (with_reducible repeat (first | apply Kd.R_alloc | apply Kd.R_drewN | apply Kd.R_drew)); exact Kd.R_mono HO_532001.out (fun _ hk => ⟨hk.1.1.1.2, ⟨hk.1.1.2, ⟨hk.1.2, ⟨hk.2, hk.1.1.1.1⟩⟩⟩⟩)), pk, pk, pk, pk, GW567.out, GE567.out, NB518_567.out, NB567_518.out, NB531_567.out, NB567_531.out, NB534_567.out, NB567_534.out, pw⟩)
              rintro ⟨v559, v563, gb567⟩ w79 ⟨hS_, h0_, h1_, h2_, h3_, h4_, h5_, h6_, h7_, h8_, h9_, h10_, h11_, h12_, h13_, h14_, h15_, h16_, h17_⟩; have n0_ : Aside0 (Kd.R k95 95 w79 w.heap.size (fun k_ => nb v553 k_ ∧ nb v559 k_ ∧ nb v563 k_ ∧ nb (.slice (some ad533) t526.length co26) k_ ∧ k_ ≠ gb534) (.slice Ao72 t548.length co72) t548) := ⟨h0_⟩; have n1_ : Aside0 (Kd.R k95 95 w79 w.heap.size (fun k_ => some k_ ≠ (.slice Ao72 t548.length co72 : Value).ownBlock ∧ nb v559 k_ ∧ nb v563 k_ ∧ nb (.slice (some ad533) t526.length co26) k_ ∧ k_ ≠ gb534) v553 t552) := ⟨h1_⟩; have n2_ : Aside0 (Kd.R k95 95 w79 w.heap.size (fun k_ => some k_ ≠ (.slice Ao72 t548.length co72 : Value).ownBlock ∧ nb v553 k_ ∧ nb v563 k_ ∧ nb (.slice (some ad533) t526.length co26) k_ ∧ k_ ≠ gb534) v559 t558) := ⟨h2_⟩; have n3_ : Aside0 (Kd.R k95 95 w79 w.heap.size (fun k_ => some k_ ≠ (.slice Ao72 t548.length co72 : Value).ownBlock ∧ nb v553 k_ ∧ nb v559 k_ ∧ nb (.slice (some ad533) t526.length co26) k_ ∧ k_ ≠ gb534) v563 t562) := ⟨h3_⟩; have n4_ : Aside0 (Kd.R k95 95 w79 w.heap.size (fun k_ => some k_ ≠ (.slice Ao72 t548.length co72 : Value).ownBlock ∧ nb v553 k_ ∧ nb v559 k_ ∧ nb v563 k_ ∧ k_ ≠ gb534) (.slice (some ad533) t526.length co26) t526) := ⟨h4_⟩; have n5_ : Aside0 (w79.heap[gb518]? = some (.cells #[.int .i64 a0_0, .slice A0_1 l0_1.length c0_1] 78 (0, 0))) := ⟨h5_⟩; have n6_ : Aside0 (w79.heap[gb531]? = some (.cells #[.int .i64 t525, .slice (some ad533) t526.length co26] 82 (0, 0))) := ⟨h6_⟩; have n7_ : Aside0 (w79.heap[gb534]? = some (.cells #[.bool true, .int .i64 ((rd_T95 t526 (ji52)).f1)] 95 (0, 0))) := ⟨h7_⟩; have n8_ : Aside0 (w79.heap[gb567]? = some (.cells #[.int .i64 0, .slice none 0 0] 82 (0, 0))) := ⟨h8_⟩; have n9_ : Aside0 (w.heap.size ≤ gb567) := ⟨h9_⟩; have n10_ : Aside0 (w.heap.size ≤ gb567) := ⟨h10_⟩; have n11_ : Aside0 (gb518 ≠ gb567) := ⟨h11_⟩; have n12_ : Aside0 (gb567 ≠ gb518) := ⟨h12_⟩; have n13_ : Aside0 (gb531 ≠ gb567) := ⟨h13_⟩; have n14_ : Aside0 (gb567 ≠ gb531) := ⟨h14_⟩; have n15_ : Aside0 (gb534 ≠ gb567) := ⟨h15_⟩; have n16_ : Aside0 (gb567 ≠ gb534) := ⟨h16_⟩; have n17_ : Aside0 (Below w.heap.size w w79) := ⟨h17_⟩; clear HO_532001; clear HO550; clear HO554; clear BK518; clear BK531; clear BK534; clear HB; clear h0_ h1_ h2_ h3_ h4_ h5_ h6_ h7_ h8_ h9_ h10_ h11_ h12_ h13_ h14_ h15_ h16_ h17_; revert n0_ n1_ n2_ n3_ n4_ n5_ n6_ n7_ n8_ n9_ n10_ n11_ n12_ n13_ n14_ n15_ n16_ n17_; intro HO550 HO554 HO560 HO564 HO_532001 BK518 BK531 BK534 BK567 GW567 GE567 NB518_567 NB567_518 NB531_567 NB567_531 NB534_567 NB567_534 HB; have hHeld : w79.cell? ⟨gb518, 0, none⟩ = some (.int .i64 a0_0) ∧ w79.cell? ⟨gb518, 1, none⟩ = some (.slice A0_1 l0_1.length c0_1) ∧ w79.cell? ⟨gb534, 0, none⟩ = some (.bool true) ∧ w79.cell? ⟨gb534, 1, none⟩ = some (.int .i64 ((rd_T95 t526 (ji52)).f1)) := hS_; obtain ⟨Ao81, co81, eo81⟩ := Kd.R_slice HO564.out; (first | subst eo81 | (injection eo81 with f1_ f2_ f3_; have f4_ := f1_.symm; have f5_ := f3_.symm; clear f1_ f2_ f3_; subst f4_; subst f5_)); refine norm_ (a' := ?_) ?_ ?_; rotate_left
              ·simp only [putAll, Act.put, List.setIfInBounds_toArray, List.set_cons_zero, List.set_cons_succ]
               rfl
              refine one_ (i := 18) (N := none) (bm 19 21) rfl rfl (one_of HT_.out kk) (by decide) (fun K hK => ?_); have hs80 : w79.cell? ⟨gb567, 0, none⟩ = some (.int .i64 0) := bc BK567 0; have hfs80 := blk_frozen BK567.out 0; have hns80_0 := NB518_567.out; have hns80_1 := NB531_567.out; have hns80_2 := NB534_567.out; have hms80_0 := NB567_518.out; have hms80_1 := NB567_531.out; have hms80_2 := NB567_534.out; have hs82 : w79.cell? ⟨gb567, 1, none⟩ = some (.slice none 0 0) := bc BK567 1; have hfs82 := blk_frozen BK567.out 1; have hns82_0 := NB518_567.out; have hns82_1 := NB531_567.out; have hns82_2 := NB534_567.out; have hms82_0 := NB567_518.out; have hms82_1 := NB567_531.out; have hms82_2 := NB567_534.out; refine skip_ (w1 := ?_) (by rfl) rfl ?_ ?_; rotate_left
              ·go_simp
               rfl
              refine hK.out _ _ ⟨((cell_far (p := ⟨gb567, _, none⟩) NB518_567.out _).trans (((cell_far (p := ⟨gb567, _, none⟩) NB518_567.out _).trans (hHeld.1)))), ((cell_far (p := ⟨gb567, _, none⟩) NB518_567.out _).trans (((cell_far (p := ⟨gb567, _, none⟩) NB518_567.out _).trans (hHeld.2.1)))), ((cell_far (p := ⟨gb567, _, none⟩) NB534_567.out _).trans (((cell_far (p := ⟨gb567, _, none⟩) NB534_567.out _).trans (hHeld.2.2.1)))), ((cell_far (p := ⟨gb567, _, none⟩) NB534_567.out _).trans (((cell_far (p := ⟨gb567, _, none⟩) NB534_567.out _).trans (hHeld.2.2.2))))⟩ (fun hHeld => ?_); clear hK K; refine pure_ (i := 19) (N := some 22) (v := ?_) (a' := ?_) (bm 20 21) rfl rfl (any_of HT_.out kk) (fun _ _ _ h => h) (Or.inl ⟨by rfl, ?_⟩) ?_ ?_; rotate_left; ·intro w'; go_simp; with_reducible rfl
              rotate_left; ·simp only [sp]; rfl
              refine pure_ (i := 20) (N := some 23) (v := ?_) (a' := ?_) (bm 21 21) rfl rfl (any_of HT_.out kk) (fun _ _ _ h => h) (Or.inl ⟨by rfl, ?_⟩) ?_ ?_; rotate_left; ·intro w'; go_simp; with_reducible rfl
              rotate_left; ·simp only [sp]; rfl
              refine done_ (done_of HT_.out kk) ?_; (try simp only [errW_none, errW_some])
              try go_wp2
              go_ret; exact ⟨by first | rfl | (simp [errW_none, errW_some] <;> rfl) | (simp only [← hji52]; first | rfl | (simp [errW_none, errW_some] <;> rfl)) | (simp [*, errW_none, errW_some] <;> rfl), pw⟩
            have H1 : (none) = some r := by rw [if_neg (show ¬ (some q569).isNone = true by simp)] at H; exact H
            clear H; have H := H1; clear H1
            try simp only [errW_none, errW_some]
            exact absurd H (by simp)
           replace c61 := Bool.eq_false_iff.mpr c61; subst c61
           have H1 : (none) = some r := by rw [if_neg (show ¬ (false = true) by decide)] at H; exact H
           clear H; have H := H1; clear H1; exact absurd H (by simp)
          have H1 : (none) = some r := by rw [if_neg (show ¬ (some q568).isNone = true by simp)] at H; exact H
          clear H; have H := H1; clear H1
          try simp only [errW_none, errW_some]
          exact absurd H (by simp)
         replace c56 := Bool.eq_false_iff.mpr c56; subst c56
         have H1 : ((L2_octOf.f kj49 a0_0 l0_1).bind fun bt535 => ((octagon_Guard.f bt535.1 bt535.2 (wrap64 (-a1)) a2 (wrap64 (-a3)) a4 (-33554432)).bind fun bt539 => (if bt539.2.2.2.isNone = true then (if bt539.2.2.1 = true then (some (bt539.1 == a0_0)) else (none)) else (none)))) = some r := by rw [if_neg (show ¬ (false = true) by decide)] at H; exact H
         clear H; have H := H1; clear H1; replace H := Option.bind_eq_some_iff.mp H; obtain ⟨⟨t535, t536⟩, A830, H⟩ := H; replace H : ((octagon_Guard.f t535 t536 (wrap64 (-a1)) a2 (wrap64 (-a3)) a4 (-33554432)).bind fun bt539 => (if bt539.2.2.2.isNone = true then (if bt539.2.2.1 = true then (some (bt539.1 == a0_0)) else (none)) else (none))) = some r := H; have A83 := am A830; clear A830; replace H := Option.bind_eq_some_iff.mp H; obtain ⟨⟨t539, t540, t543, t544⟩, A840, H⟩ := H; replace H : (if t544.isNone = true then (if t543 = true then (some (t539 == a0_0)) else (none)) else (none)) = some r := H; have A84 := am A840; clear A840; rcases t544 with _ | q546
         ·have H1 : (if t543 = true then (some (t539 == a0_0)) else (none)) = some r := by rw [if_pos (show (none : Option Int).isNone = true by rfl)] at H; exact H
          clear H; have H := H1; clear H1
          try simp only [errW_none, errW_some]
          by_cases c85 : t543 = true
          ·subst c85
           have H1 : (some (t539 == a0_0)) = some r := by rw [if_pos rfl] at H; exact H
           clear H; have H := H1; clear H1
           as_aux_lemma =>
            obtain rfl := Option.some.inj H; have hnb86 := NB531_518.out; have hnc86 := NB518_531.out; have hcz87_0 : wc.cell? ⟨gb531, 0, none⟩ = some (.int .i64 t525) := bc BK531 0; have hcz87_1 : wc.cell? ⟨gb531, 1, none⟩ = some (.slice Ao26 t526.length co26) := bc BK531 1; have hfz87_0 := blk_frozen BK531.out 0; have hfz87_1 := blk_frozen BK531.out 1; have hcz88_0 : wc.cell? ⟨gb518, 0, none⟩ = some (.int .i64 a0_0) := bc BK518 0; have hcz88_1 : wc.cell? ⟨gb518, 1, none⟩ = some (.slice A0_1 l0_1.length c0_1) := bc BK518 1; have hfz88_0 := blk_frozen BK518.out 0; have hfz88_1 := blk_frozen BK518.out 1; have p533 : 0 ≤ ((ji52) : Int) := od; have q533 : (ji52) < (t526.length : Int) := od; obtain ⟨ad533, e533, hx533_0, hx533_1⟩ := at_T95 (Kd.R_reads' HO_532001.out).2.2 (ji52) p533 q533; (try rw [← Nbq55.out] at hx533_0); cases e533; replace p533 := eq_true p533; replace q533 := eq_true q533
            go_wp2_with (first | ((with_reducible refine gate_dst (N := 17) rfl ?_); (try (refine gate_guard (by rfl) ?_; dsimp only)); refine box_event ?hg (N := 17) ?hd (cs := #[.bool false, .int .i64 0]) (t := 95) ?hr ?_; (case hd => rfl); (case hg => rfl); (case hr => first | (go_simp; done) | (go_simp; rfl)); intro gb534 hg w89 hbox hb; have n0_ := am (Kd.R_below (Kd.R_elderB (rk HO_532001) gb534 (Nat.le_of_eq hg.symm)) hb); have n1_ := bb BK518 hb; have n2_ := bb BK531 hb; have n3_ := am (below_step pw hb); have n4_ := am (hbox); have n5_ := am (sz (w := w) hg pw); have n6_ := am (sz (w := w) hg pw); have n7_ := am (nl BK518 hg); have n8_ := am ((nl BK518 hg).symm); have n9_ := am (nl BK531 hg); have n10_ := am ((nl BK531 hg).symm); clear HO_532001 BK518 BK531 HB; revert n0_ n1_ n2_ n3_ n4_ n5_ n6_ n7_ n8_ n9_ n10_; intro HO_532001 BK518 BK531 HB BK534 GW534 GE534 NB518_534 NB534_518 NB531_534 NB534_531; clear hb hbox hg; have hnb90 := NB534_518.out; have hnc90 := NB518_534.out; have hnb91 := NB534_531.out; have hnc91 := NB531_534.out; have hcz92_0 : w89.cell? ⟨gb534, 0, none⟩ = some (.bool false) := bc BK534 0; have hcz92_1 : w89.cell? ⟨gb534, 1, none⟩ = some (.int .i64 0) := bc BK534 1; have hfz92_0 := blk_frozen BK534.out 0; have hfz92_1 := blk_frozen BK534.out 1; have hcz93_0 : w89.cell? ⟨gb518, 0, none⟩ = some (.int .i64 a0_0) := bc BK518 0; have hcz93_1 : w89.cell? ⟨gb518, 1, none⟩ = some (.slice A0_1 l0_1.length c0_1) := bc BK518 1; have hfz93_0 := blk_frozen BK518.out 0; have hfz93_1 := blk_frozen BK518.out 1) | ((with_reducible refine gate_callee (f := 49) rfl ?_); refine goesL_ (some 131) rfl rfl Tryd.func49 kk rfl #[.agg #[.int .i64 a0_0, .slice A0_1 l0_1.length c0_1]] rfl (by (try simp only [List.map_toArray, List.map_cons, List.map_nil]); first | done | rfl | (simp only [List.length_drop, List.length_take]; rfl)) ?_; (with_reducible refine (L2_octOf.calls kj49 a0_0 _ _ l0_1 t535 t536 _ ?side1 ?side2 A83.out).mono ?_); (case side1 => exact Kd.C_below HR0_1.out pw); (case side2 => exact HC0_1.out); rintro e w94 ⟨v537, rfl, ho0, hb⟩; refine ⟨_, rfl, ?_⟩; have n0_ := am (Kd.R_elder' (by (with_reducible repeat (first | apply Kd.R_alloc | apply Kd.R_drewN | apply Kd.R_drew)); exact (Kd.R_mono (Kd.R_far (p := ⟨gb534, 1, none⟩) (Kd.R_far (p := ⟨gb534, 0, none⟩) (Kd.R_mono HO_532001.out (fun k_ hk => (⟨hk, hk.2⟩ : _ ∧ k_ ≠ gb534))) (fun _ hk => hk.2) (.bool false)) (fun _ hk => hk.2) (.int .i64 ((rd_T95 t526 (ji52)).f1))) (fun _ h_ => h_.1))) (Kd.R_base ho0) hb); have n1_ := am (Kd.R_lower (Kd.R_newB (Kd.R_new' ho0 (Kd.R_lt (by (with_reducible repeat (first | apply Kd.R_alloc | apply Kd.R_drewN | apply Kd.R_drew)); exact (Kd.R_mono (Kd.R_far (p := ⟨gb534, 1, none⟩) (Kd.R_far (p := ⟨gb534, 0, none⟩) (Kd.R_mono HO_532001.out (fun k_ hk => (⟨hk, hk.2⟩ : _ ∧ k_ ≠ gb534))) (fun _ hk => hk.2) (.bool false)) (fun _ hk => hk.2) (.int .i64 ((rd_T95 t526 (ji52)).f1))) (fun _ h_ => h_.1))))) (g := gb534) (o := .cells #[.bool false, .int .i64 ((rd_T95 t526 (ji52)).f1)] 95 (0, 0)) (by (with_reducible repeat (first | refine blk_drewN ?_ _ | refine blk_drew ?_ | refine blk_alloc ?_ _)); refine blk_put (cs := #[.bool false, .int .i64 0]) ?_ 1 _ rfl; (with_reducible repeat (first | refine blk_drewN ?_ _ | refine blk_drew ?_ | refine blk_alloc ?_ _)); refine blk_put (cs := #[.bool false, .int .i64 0]) ?_ 0 _ rfl; (with_reducible repeat (first | refine blk_drewN ?_ _ | refine blk_drew ?_ | refine blk_alloc ?_ _)); exact BK534.out)) (below_size pw)); have n2_ := am (blk_below (g := gb518) (o := .cells #[.int .i64 a0_0, .slice A0_1 l0_1.length c0_1] 78 (0, 0)) pff hb); have n3_ := am (blk_below (g := gb531) (o := .cells #[.int .i64 t525, .slice (some ad533) t526.length co26] 82 (0, 0)) pff hb); have n4_ := am (blk_below (g := gb534) (o := .cells #[.bool false, .int .i64 ((rd_T95 t526 (ji52)).f1)] 95 (0, 0)) (by (with_reducible repeat (first | refine blk_drewN ?_ _ | refine blk_drew ?_ | refine blk_alloc ?_ _)); refine blk_put (cs := #[.bool false, .int .i64 0]) ?_ 1 _ rfl; (with_reducible repeat (first | refine blk_drewN ?_ _ | refine blk_drew ?_ | refine blk_alloc ?_ _)); refine blk_put (cs := #[.bool false, .int .i64 0]) ?_ 0 _ rfl; (with_reducible repeat (first | refine blk_drewN ?_ _ | refine blk_drew ?_ | refine blk_alloc ?_ _)); exact BK534.out) hb); have n5_ := am (below_step pw hb); clear HO_532001 BK518 BK531 BK534 HB; revert n0_ n1_ n2_ n3_ n4_ n5_; intro HO_532001 HO538 BK518 BK531 BK534 HB; (try clear hb); (try clear hb2); (try clear hk); (try clear hi); (try clear ho0); obtain ⟨Ao95, co95, eo95⟩ := Kd.R_slice HO538.out; subst eo95) | ((with_reducible refine gate_callee (f := 56) rfl ?_); refine goesL_ (some 138) rfl rfl Tryd.func56 kk rfl #[.agg #[.int .i64 t535, .slice Ao95 t536.length co95], .int .i64 (wrap64 (-a1)), .int .i64 a2, .int .i64 (wrap64 (-a3)), .int .i64 a4, .int .i64 (-33554432)] rfl (by (try simp only [List.map_toArray, List.map_cons, List.map_nil]); first | done | rfl | (simp only [List.length_drop, List.length_take]; rfl)) ?_; (with_reducible refine (octagon_Guard.calls t535 _ _ t536 (wrap64 (-a1)) a2 (wrap64 (-a3)) a4 (-33554432) t539 t540 true none _ ?side1 ?side2 A84.out (am (ErrAt.below hE2.out pw)).out (am (ErrAt.below hE3.out pw)).out (am (ErrAt.below hE7.out pw)).out).mono ?_); (case side1 => repeat (first | exact (Kd.R_reads' HO538.out).2.2 | (with_reducible refine Kd.C_alloc ?_ _) | (with_reducible refine Kd.C_drewN ?_ _) | (with_reducible refine Kd.C_drew ?_))); (case side2 => exact (Kd.R_reads' HO538.out).2.1); rintro e w96 ⟨v541, rfl, ho0, hb⟩; refine ⟨_, rfl, ?_⟩; have n0_ := am (Kd.R_elder' (rk HO_532001) (Kd.R_base ho0) hb); have n1_ := am (Kd.R_elder' (rk HO538) (Kd.R_base ho0) hb); have n2_ := am (Kd.R_lower (Kd.R_newB (Kd.R_new' (Kd.R_new' ho0 (Kd.R_lt (rk HO_532001))) (Kd.R_lt (rk HO538))) (g := gb534) (o := .cells #[.bool false, .int .i64 ((rd_T95 t526 (ji52)).f1)] 95 (0, 0)) pk) (below_size pw)); have n3_ := bb BK518 hb; have n4_ := bb BK531 hb; have n5_ := bb BK534 hb; have n6_ := am (below_step pw hb); clear HO_532001 HO538 BK518 BK531 BK534 HB; revert n0_ n1_ n2_ n3_ n4_ n5_ n6_; intro HO_532001 HO538 HO542 BK518 BK531 BK534 HB; (try clear hb); (try clear hb2); (try clear hk); (try clear hi); (try clear ho0); (try simp only [errW_none, errW_some])) | ((with_reducible refine gate_dst (N := 18) rfl ?_); (try (refine gate_guard (by rfl) ?_; dsimp only)); refine box_event ?hg (N := 18) ?hd (cs := #[.int .i64 0, .slice none 0 0]) (t := 82) ?hr ?_; (case hd => rfl); (case hg => rfl); (case hr => first | (go_simp; done) | (go_simp; rfl)); intro gb545 hg w97 hbox hb; have n0_ := am (Kd.R_below (rk HO_532001) hb); have n1_ := am (Kd.R_below (rk HO538) hb); have n2_ := am (Kd.R_below (rk HO542) hb); have n3_ := bb BK518 hb; have n4_ := bb BK531 hb; have n5_ := bb BK534 hb; have n6_ := am (below_step pw hb); have n7_ := am (hbox); have n8_ := am (sz (w := w) hg pw); have n9_ := am (sz (w := w) hg pw); have n10_ := am (nl BK518 hg); have n11_ := am ((nl BK518 hg).symm); have n12_ := am (nl BK531 hg); have n13_ := am ((nl BK531 hg).symm); have n14_ := am (nl BK534 hg); have n15_ := am ((nl BK534 hg).symm); clear HO_532001 HO538 HO542 BK518 BK531 BK534 HB; revert n0_ n1_ n2_ n3_ n4_ n5_ n6_ n7_ n8_ n9_ n10_ n11_ n12_ n13_ n14_ n15_; intro HO_532001 HO538 HO542 BK518 BK531 BK534 HB BK545 GW545 GE545 NB518_545 NB545_518 NB531_545 NB545_531 NB534_545 NB545_534; clear hb hbox hg; have hnb98 := NB545_518.out; have hnc98 := NB518_545.out; have hnb99 := NB545_531.out; have hnc99 := NB531_545.out; have hnb100 := NB545_534.out; have hnc100 := NB534_545.out; have hcz101_0 : w97.cell? ⟨gb545, 0, none⟩ = some (.int .i64 0) := bc BK545 0; have hcz101_1 : w97.cell? ⟨gb545, 1, none⟩ = some (.slice none 0 0) := bc BK545 1; have hfz101_0 := blk_frozen BK545.out 0; have hfz101_1 := blk_frozen BK545.out 1; obtain ⟨Ao102, co102, eo102⟩ := Kd.R_slice HO542.out; subst eo102; have hcz103_0 : w97.cell? ⟨gb518, 0, none⟩ = some (.int .i64 a0_0) := bc BK518 0; have hcz103_1 : w97.cell? ⟨gb518, 1, none⟩ = some (.slice A0_1 l0_1.length c0_1) := bc BK518 1; have hfz103_0 := blk_frozen BK518.out 0; have hfz103_1 := blk_frozen BK518.out 1))
            go_ret; exact ⟨by first | rfl | (simp [errW_none, errW_some] <;> rfl) | (simp only [← hji52]; first | rfl | (simp [errW_none, errW_some] <;> rfl)) | (simp [*, errW_none, errW_some] <;> rfl), pw⟩
          replace c85 := Bool.eq_false_iff.mpr c85; subst c85
          have H1 : (none) = some r := by rw [if_neg (show ¬ (false = true) by decide)] at H; exact H
          clear H; have H := H1; clear H1; exact absurd H (by simp)
         have H1 : (none) = some r := by rw [if_neg (show ¬ (some q546).isNone = true by simp)] at H; exact H
         clear H; have H := H1; clear H1
         try simp only [errW_none, errW_some]
         exact absurd H (by simp)
        rw [if_neg c54] at H; exact absurd H (by simp)
       rw [if_neg c53] at H; exact absurd H (by simp)

end Go.Proofs.YtjpboodkmhikpaaDoor.Z
