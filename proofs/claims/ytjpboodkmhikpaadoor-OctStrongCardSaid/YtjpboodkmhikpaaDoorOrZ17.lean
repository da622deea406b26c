import Derived.Test.YtjpboodkmhikpaaDoorOrSp
import Derived.Test.YtjpboodkmhikpaaDoorOrEb
import Derived.Test.YtjpboodkmhikpaaDoorOrFldO
import Derived.Test.YtjpboodkmhikpaaDoorOrQj
import Derived.Test.YtjpboodkmhikpaaDoorOrQm
import Derived.Test.YtjpboodkmhikpaaDoorOrZ0
import Derived.Test.YtjpboodkmhikpaaDoorOrZ4
import Derived.Test.YtjpboodkmhikpaaDoorOrZ13
import Derived.Test.YtjpboodkmhikpaaDoorOrZ14
-- Written by wip/xprint.py (the session's program over the kit's print).
namespace Go.Proofs.YtjpboodkmhikpaaDoor.Z
open Go.RowKit Go.Proofs.YtjpboodkmhikpaaDoorW.PrintWords Go.Proofs.YtjpboodkmhikpaaDoorW.PrintLast Go.Proofs.YtjpboodkmhikpaaDoorW.PrintMore Go.Proofs.Rcg Go.Proofs.Rco
attribute [local go_sem] Go.Proofs.Rcg.fld_oct1 Go.Proofs.Rcg.fld_roct1 max2_int min2_int max_two min_two max_three min_three max_four min_four   -- for this text's walks alone
set_option linter.unusedVariables false
set_option linter.unusedSimpArgs false

/-! ### L2_OctStrong: function 13 -/
mutual
def L2_OctStrong.j0 : Nat → Bool → Bool → Int → List (S112) → Option (Bool)
 | 0, _, _, _, _ => none
 | k + 1, x3, x37, x571000, x571001 => if x37 = true then (some x3) else ((L2_octOf.f k x571000 x571001).bind fun bt573 => ((octagon_Close.f bt573.1 bt573.2).bind fun bt577 => (if bt577.2.2.2.isNone = true then (if bt577.2.2.1 = true then (L2_OctStrong.j1 k bt577.2.2.1 none ((bt577.2.1.length : Int) != (wrap64 ((wrap64 (4 * x571000)) * x571000))) x571000 x571001 bt577.1 bt577.2.1) else (L2_OctStrong.j1 k bt577.2.2.1 none true x571000 x571001 bt577.1 bt577.2.1)) else (L2_OctStrong.j1 k bt577.2.2.1 (some (bt577.2.2.2.getD 0)) true x571000 x571001 bt577.1 bt577.2.1))))
def L2_OctStrong.j1 : Nat → Bool → Option Int → Bool → Int → List (S112) → Int → List (S95) → Option (Bool)
 | 0, _, _, _, _, _, _, _ => none
 | k + 1, x5, x6, x63, x571000, x571001, x584000, x584001 => if x63 = true then (if x6.isNone = true then (some (!x5)) else (some true)) else (L2_OctStrong.l0 k (wrap64 (2 * x571000)) 0 x571000 x571001 x584000 x584001)
def L2_OctStrong.l0 : Nat → Int → Int → Int → List (S112) → Int → List (S95) → Option (Bool)
 | 0, _, _, _, _, _, _ => none
 | k + 1, x7, x8, x571000, x571001, x584000, x584001 => if x8 < x7 then (if 0 ≤ (wrap64 ((wrap64 ((wrap64 ((wrap64 (x8 * x7)) + (wrap64 ((wrap64 (Int.tdiv x8 2)) * 2)))) + 1)) - (Int.tmod x8 2))) then (if (wrap64 ((wrap64 ((wrap64 ((wrap64 (x8 * x7)) + (wrap64 ((wrap64 (Int.tdiv x8 2)) * 2)))) + 1)) - (Int.tmod x8 2))) < (x584001.length : Int) then (if (rd_T95 x584001 (wrap64 ((wrap64 ((wrap64 ((wrap64 (x8 * x7)) + (wrap64 ((wrap64 (Int.tdiv x8 2)) * 2)))) + 1)) - (Int.tmod x8 2)))).f0 = true then (L2_OctStrong.j3 k x7 x8 ((Int.tmod ((rd_T95 x584001 (wrap64 ((wrap64 ((wrap64 ((wrap64 (x8 * x7)) + (wrap64 ((wrap64 (Int.tdiv x8 2)) * 2)))) + 1)) - (Int.tmod x8 2)))).f1) 2) != 0) x571000 x571001 x584000 x584001 ((rd_T95 x584001 (wrap64 ((wrap64 ((wrap64 ((wrap64 (x8 * x7)) + (wrap64 ((wrap64 (Int.tdiv x8 2)) * 2)))) + 1)) - (Int.tmod x8 2)))).f0) ((rd_T95 x584001 (wrap64 ((wrap64 ((wrap64 ((wrap64 (x8 * x7)) + (wrap64 ((wrap64 (Int.tdiv x8 2)) * 2)))) + 1)) - (Int.tmod x8 2)))).f1)) else (L2_OctStrong.j3 k x7 x8 false x571000 x571001 x584000 x584001 ((rd_T95 x584001 (wrap64 ((wrap64 ((wrap64 ((wrap64 (x8 * x7)) + (wrap64 ((wrap64 (Int.tdiv x8 2)) * 2)))) + 1)) - (Int.tmod x8 2)))).f0) ((rd_T95 x584001 (wrap64 ((wrap64 ((wrap64 ((wrap64 (x8 * x7)) + (wrap64 ((wrap64 (Int.tdiv x8 2)) * 2)))) + 1)) - (Int.tmod x8 2)))).f1))) else (none)) else (none)) else ((octagon_Close.f x584000 x584001).bind fun bt596 => ((L2_octOf.f k x571000 x571001).bind fun bt603 => ((L2_octOf.f k x571000 x571001).bind fun bt607 => ((octagon_Join.f bt603.1 bt603.2 bt607.1 bt607.2).bind fun bt611 => ((L2_octOf.f k x571000 x571001).bind fun bt617 => ((L2_octOf.f k x571000 x571001).bind fun bt621 => ((octagon_Meet.f bt617.1 bt617.2 bt621.1 bt621.2).bind fun bt625 => ((L2_octBack.f k x584000 x584001).bind fun bt632 => (if bt596.2.2.2.isNone = true then (if bt596.2.2.1 = true then (if bt611.2.2.isNone = true then (if bt625.2.2.2.isNone = true then (L2_OctStrong.j7 k (!bt625.2.2.1) bt596.1 bt596.2.1 bt611.1 bt611.2.1 bt625.1 bt625.2.1 bt632.1 bt632.2) else (L2_OctStrong.j7 k true bt596.1 bt596.2.1 bt611.1 bt611.2.1 bt625.1 bt625.2.1 bt632.1 bt632.2)) else (L2_OctStrong.j7 k true bt596.1 bt596.2.1 bt611.1 bt611.2.1 bt625.1 bt625.2.1 bt632.1 bt632.2)) else (L2_OctStrong.j7 k true bt596.1 bt596.2.1 bt611.1 bt611.2.1 bt625.1 bt625.2.1 bt632.1 bt632.2)) else (L2_OctStrong.j7 k true bt596.1 bt596.2.1 bt611.1 bt611.2.1 bt625.1 bt625.2.1 bt632.1 bt632.2))))))))))
def L2_OctStrong.j3 : Nat → Int → Int → Bool → Int → List (S112) → Int → List (S95) → Bool → Int → Option (Bool)
 | 0, _, _, _, _, _, _, _, _, _ => none
 | k + 1, x7, x8, x100, x571000, x571001, x584000, x584001, x588000, x588001 => if x100 = true then (none) else (L2_OctStrong.l1 k x7 x8 0 x571000 x571001 x584000 x584001 x588000 x588001)
def L2_OctStrong.l1 : Nat → Int → Int → Int → Int → List (S112) → Int → List (S95) → Bool → Int → Option (Bool)
 | 0, _, _, _, _, _, _, _, _, _ => none
 | k + 1, x7, x8, x10, x571000, x571001, x584000, x584001, x588000, x588001 => if x10 < x7 then (if 0 ≤ (wrap64 ((wrap64 (x8 * x7)) + x10)) then (if (wrap64 ((wrap64 (x8 * x7)) + x10)) < (x584001.length : Int) then (if 0 ≤ (wrap64 ((wrap64 ((wrap64 ((wrap64 ((wrap64 ((wrap64 (Int.tdiv x10 2)) * 2)) + 1)) - (Int.tmod x10 2))) * x7)) + x10)) then (if (wrap64 ((wrap64 ((wrap64 ((wrap64 ((wrap64 ((wrap64 (Int.tdiv x10 2)) * 2)) + 1)) - (Int.tmod x10 2))) * x7)) + x10)) < (x584001.length : Int) then (if x588000 = true then (if (rd_T95 x584001 (wrap64 ((wrap64 ((wrap64 ((wrap64 ((wrap64 ((wrap64 (Int.tdiv x10 2)) * 2)) + 1)) - (Int.tmod x10 2))) * x7)) + x10))).f0 = true then (if x8 = x10 then (L2_OctStrong.j5 k x7 x8 x10 false x571000 x571001 x584000 x584001 x588000 x588001 ((rd_T95 x584001 (wrap64 ((wrap64 (x8 * x7)) + x10))).f0) ((rd_T95 x584001 (wrap64 ((wrap64 (x8 * x7)) + x10))).f1)) else (if ((rd_T95 x584001 (wrap64 ((wrap64 (x8 * x7)) + x10))).f0 = true) then (L2_OctStrong.j5 k x7 x8 x10 (decide ((wrap64 (2 * ((rd_T95 x584001 (wrap64 ((wrap64 (x8 * x7)) + x10))).f1))) > (wrap64 (x588001 + ((rd_T95 x584001 (wrap64 ((wrap64 ((wrap64 ((wrap64 ((wrap64 ((wrap64 (Int.tdiv x10 2)) * 2)) + 1)) - (Int.tmod x10 2))) * x7)) + x10))).f1))))) x571000 x571001 x584000 x584001 x588000 x588001 ((rd_T95 x584001 (wrap64 ((wrap64 (x8 * x7)) + x10))).f0) ((rd_T95 x584001 (wrap64 ((wrap64 (x8 * x7)) + x10))).f1)) else (L2_OctStrong.j5 k x7 x8 x10 true x571000 x571001 x584000 x584001 x588000 x588001 ((rd_T95 x584001 (wrap64 ((wrap64 (x8 * x7)) + x10))).f0) ((rd_T95 x584001 (wrap64 ((wrap64 (x8 * x7)) + x10))).f1)))) else (L2_OctStrong.j5 k x7 x8 x10 false x571000 x571001 x584000 x584001 x588000 x588001 ((rd_T95 x584001 (wrap64 ((wrap64 (x8 * x7)) + x10))).f0) ((rd_T95 x584001 (wrap64 ((wrap64 (x8 * x7)) + x10))).f1))) else (L2_OctStrong.j5 k x7 x8 x10 false x571000 x571001 x584000 x584001 x588000 x588001 ((rd_T95 x584001 (wrap64 ((wrap64 (x8 * x7)) + x10))).f0) ((rd_T95 x584001 (wrap64 ((wrap64 (x8 * x7)) + x10))).f1))) else (none)) else (none)) else (none)) else (none)) else (L2_OctStrong.l0 k x7 (wrap64 (x8 + 1)) x571000 x571001 x584000 x584001)
def L2_OctStrong.j5 : Nat → Int → Int → Int → Bool → Int → List (S112) → Int → List (S95) → Bool → Int → Bool → Int → Option (Bool)
 | 0, _, _, _, _, _, _, _, _, _, _, _, _ => none
 | k + 1, x7, x8, x10, x156, x571000, x571001, x584000, x584001, x588000, x588001, x590000, x590001 => if x156 = true then (none) else (L2_OctStrong.l2 k x7 x8 x10 0 x571000 x571001 x584000 x584001 x588000 x588001 x590000 x590001)
def L2_OctStrong.l2 : Nat → Int → Int → Int → Int → Int → List (S112) → Int → List (S95) → Bool → Int → Bool → Int → Option (Bool)
 | 0, _, _, _, _, _, _, _, _, _, _, _, _ => none
 | k + 1, x7, x8, x10, x13, x571000, x571001, x584000, x584001, x588000, x588001, x590000, x590001 => if x13 < x7 then (if 0 ≤ (wrap64 ((wrap64 (x8 * x7)) + x13)) then (if (wrap64 ((wrap64 (x8 * x7)) + x13)) < (x584001.length : Int) then (if 0 ≤ (wrap64 ((wrap64 (x13 * x7)) + x10)) then (if (wrap64 ((wrap64 (x13 * x7)) + x10)) < (x584001.length : Int) then (if (rd_T95 x584001 (wrap64 ((wrap64 (x8 * x7)) + x13))).f0 = true then (if (rd_T95 x584001 (wrap64 ((wrap64 (x13 * x7)) + x10))).f0 = true then (if x590000 = true then (if x590001 > (wrap64 (((rd_T95 x584001 (wrap64 ((wrap64 (x8 * x7)) + x13))).f1) + ((rd_T95 x584001 (wrap64 ((wrap64 (x13 * x7)) + x10))).f1))) then (none) else (L2_OctStrong.l2 k x7 x8 x10 (wrap64 (x13 + 1)) x571000 x571001 x584000 x584001 x588000 x588001 x590000 x590001)) else (none)) else (L2_OctStrong.l2 k x7 x8 x10 (wrap64 (x13 + 1)) x571000 x571001 x584000 x584001 x588000 x588001 x590000 x590001)) else (L2_OctStrong.l2 k x7 x8 x10 (wrap64 (x13 + 1)) x571000 x571001 x584000 x584001 x588000 x588001 x590000 x590001)) else (none)) else (none)) else (none)) else (none)) else (L2_OctStrong.l1 k x7 x8 (wrap64 (x10 + 1)) x571000 x571001 x584000 x584001 x588000 x588001)
def L2_OctStrong.j7 : Nat → Bool → Int → List (S95) → Int → List (S95) → Int → List (S95) → Int → List (S112) → Option (Bool)
 | 0, _, _, _, _, _, _, _, _, _ => none
 | k + 1, x243, x603000, x603001, x617000, x617001, x632000, x632001, x637000, x637001 => if x243 = true then (none) else ((L2_isOct.f k x603000 x603001 x637000 x637001).bind fun t640 => (if t640 = true then ((L2_isOct.f k x617000 x617001 x637000 x637001).bind fun t641 => (if t641 = true then ((L2_isOct.f k x632000 x632001 x637000 x637001).bind fun t642 => (some t642)) else (none))) else (none)))
end
def L2_OctStrong.f (k : Nat) (a0_0 : Int) (l0_1 : List (S112)) : Option (Bool) := (L2_odd.f k).bind fun t571 => (if t571 = true then (if (l0_1.length : Int) > 100 then (L2_OctStrong.j0 k t571 true a0_0 l0_1) else ((L2_near.f k l0_1).bind fun t572 => (L2_OctStrong.j0 k t571 (!t572) a0_0 l0_1))) else (L2_OctStrong.j0 k t571 true a0_0 l0_1))
theorem L2_OctStrong.mono_l : ∀ k, (∀ y0 y1 y2 y3, LeO (L2_OctStrong.j0 k y0 y1 y2 y3) (L2_OctStrong.j0 (k + 1) y0 y1 y2 y3)) ∧ (∀ y0 y1 y2 y3 y4 y5 y6, LeO (L2_OctStrong.j1 k y0 y1 y2 y3 y4 y5 y6) (L2_OctStrong.j1 (k + 1) y0 y1 y2 y3 y4 y5 y6)) ∧ (∀ y0 y1 y2 y3 y4 y5, LeO (L2_OctStrong.l0 k y0 y1 y2 y3 y4 y5) (L2_OctStrong.l0 (k + 1) y0 y1 y2 y3 y4 y5)) ∧ (∀ y0 y1 y2 y3 y4 y5 y6 y7 y8, LeO (L2_OctStrong.j3 k y0 y1 y2 y3 y4 y5 y6 y7 y8) (L2_OctStrong.j3 (k + 1) y0 y1 y2 y3 y4 y5 y6 y7 y8)) ∧ (∀ y0 y1 y2 y3 y4 y5 y6 y7 y8, LeO (L2_OctStrong.l1 k y0 y1 y2 y3 y4 y5 y6 y7 y8) (L2_OctStrong.l1 (k + 1) y0 y1 y2 y3 y4 y5 y6 y7 y8)) ∧ (∀ y0 y1 y2 y3 y4 y5 y6 y7 y8 y9 y10 y11, LeO (L2_OctStrong.j5 k y0 y1 y2 y3 y4 y5 y6 y7 y8 y9 y10 y11) (L2_OctStrong.j5 (k + 1) y0 y1 y2 y3 y4 y5 y6 y7 y8 y9 y10 y11)) ∧ (∀ y0 y1 y2 y3 y4 y5 y6 y7 y8 y9 y10 y11, LeO (L2_OctStrong.l2 k y0 y1 y2 y3 y4 y5 y6 y7 y8 y9 y10 y11) (L2_OctStrong.l2 (k + 1) y0 y1 y2 y3 y4 y5 y6 y7 y8 y9 y10 y11)) ∧ (∀ y0 y1 y2 y3 y4 y5 y6 y7 y8, LeO (L2_OctStrong.j7 k y0 y1 y2 y3 y4 y5 y6 y7 y8) (L2_OctStrong.j7 (k + 1) y0 y1 y2 y3 y4 y5 y6 y7 y8))
 | 0 => ⟨fun _ _ _ _ r h => by simp [L2_OctStrong.j0] at h, fun _ _ _ _ _ _ _ r h => by simp [L2_OctStrong.j1] at h, fun _ _ _ _ _ _ r h => by simp [L2_OctStrong.l0] at h, fun _ _ _ _ _ _ _ _ _ r h => by simp [L2_OctStrong.j3] at h, fun _ _ _ _ _ _ _ _ _ r h => by simp [L2_OctStrong.l1] at h, fun _ _ _ _ _ _ _ _ _ _ _ _ r h => by simp [L2_OctStrong.j5] at h, fun _ _ _ _ _ _ _ _ _ _ _ _ r h => by simp [L2_OctStrong.l2] at h, fun _ _ _ _ _ _ _ _ _ r h => by simp [L2_OctStrong.j7] at h⟩
 | k + 1 => by
  obtain ⟨ih0, ih1, ih2, ih3, ih4, ih5, ih6, ih7⟩ := L2_OctStrong.mono_l k
  refine ⟨?_, ?_, ?_, ?_, ?_, ?_, ?_, ?_⟩
  ·intro y0 y1 y2 y3
   unfold L2_OctStrong.j0
   repeat' first
   | (with_reducible exact ih0 _ _ _ _)
   | (with_reducible exact ih1 _ _ _ _ _ _ _)
   | (with_reducible exact ih2 _ _ _ _ _ _)
   | (with_reducible exact ih3 _ _ _ _ _ _ _ _ _)
   | (with_reducible exact ih4 _ _ _ _ _ _ _ _ _)
   | (with_reducible exact ih5 _ _ _ _ _ _ _ _ _ _ _ _)
   | (with_reducible exact ih6 _ _ _ _ _ _ _ _ _ _ _ _)
   | (with_reducible exact ih7 _ _ _ _ _ _ _ _ _)
   | (with_reducible exact L2_isOct.mono _ _ _ _ _)
   | (with_reducible exact L2_near.mono _ _)
   | (with_reducible exact L2_octBack.mono _ _ _)
   | (with_reducible exact L2_octOf.mono _ _ _)
   | (with_reducible exact L2_odd.mono _)
   | (with_reducible exact LeO.refl _)
   | (with_reducible exact LeO.none _)
   | (with_reducible refine LeO.ite ?_ ?_)
   | (with_reducible refine LeO.bind ?_ (fun _ => ?_))
   | exact ih0 _ _ _ _
   | exact ih1 _ _ _ _ _ _ _
   | exact ih2 _ _ _ _ _ _
   | exact ih3 _ _ _ _ _ _ _ _ _
   | exact ih4 _ _ _ _ _ _ _ _ _
   | exact ih5 _ _ _ _ _ _ _ _ _ _ _ _
   | exact ih6 _ _ _ _ _ _ _ _ _ _ _ _
   | exact ih7 _ _ _ _ _ _ _ _ _
   | exact L2_isOct.mono _ _ _ _ _
   | exact L2_near.mono _ _
   | exact L2_octBack.mono _ _ _
   | exact L2_octOf.mono _ _ _
   | exact L2_odd.mono _
   | exact LeO.none _
   | refine LeO.ite ?_ ?_
   | refine LeO.bind ?_ (fun _ => ?_)
  ·intro y0 y1 y2 y3 y4 y5 y6
   unfold L2_OctStrong.j1
   repeat' first
   | (with_reducible exact ih0 _ _ _ _)
   | (with_reducible exact ih1 _ _ _ _ _ _ _)
   | (with_reducible exact ih2 _ _ _ _ _ _)
   | (with_reducible exact ih3 _ _ _ _ _ _ _ _ _)
   | (with_reducible exact ih4 _ _ _ _ _ _ _ _ _)
   | (with_reducible exact ih5 _ _ _ _ _ _ _ _ _ _ _ _)
   | (with_reducible exact ih6 _ _ _ _ _ _ _ _ _ _ _ _)
   | (with_reducible exact ih7 _ _ _ _ _ _ _ _ _)
   | (with_reducible exact L2_isOct.mono _ _ _ _ _)
   | (with_reducible exact L2_near.mono _ _)
   | (with_reducible exact L2_octBack.mono _ _ _)
   | (with_reducible exact L2_octOf.mono _ _ _)
   | (with_reducible exact L2_odd.mono _)
   | (with_reducible exact LeO.refl _)
   | (with_reducible exact LeO.none _)
   | (with_reducible refine LeO.ite ?_ ?_)
   | (with_reducible refine LeO.bind ?_ (fun _ => ?_))
   | exact ih0 _ _ _ _
   | exact ih1 _ _ _ _ _ _ _
   | exact ih2 _ _ _ _ _ _
   | exact ih3 _ _ _ _ _ _ _ _ _
   | exact ih4 _ _ _ _ _ _ _ _ _
   | exact ih5 _ _ _ _ _ _ _ _ _ _ _ _
   | exact ih6 _ _ _ _ _ _ _ _ _ _ _ _
   | exact ih7 _ _ _ _ _ _ _ _ _
   | exact L2_isOct.mono _ _ _ _ _
   | exact L2_near.mono _ _
   | exact L2_octBack.mono _ _ _
   | exact L2_octOf.mono _ _ _
   | exact L2_odd.mono _
   | exact LeO.none _
   | refine LeO.ite ?_ ?_
   | refine LeO.bind ?_ (fun _ => ?_)
  ·intro y0 y1 y2 y3 y4 y5
   unfold L2_OctStrong.l0
   repeat' first
   | (with_reducible exact ih0 _ _ _ _)
   | (with_reducible exact ih1 _ _ _ _ _ _ _)
   | (with_reducible exact ih2 _ _ _ _ _ _)
   | (with_reducible exact ih3 _ _ _ _ _ _ _ _ _)
   | (with_reducible exact ih4 _ _ _ _ _ _ _ _ _)
   | (with_reducible exact ih5 _ _ _ _ _ _ _ _ _ _ _ _)
   | (with_reducible exact ih6 _ _ _ _ _ _ _ _ _ _ _ _)
   | (with_reducible exact ih7 _ _ _ _ _ _ _ _ _)
   | (with_reducible exact L2_isOct.mono _ _ _ _ _)
   | (with_reducible exact L2_near.mono _ _)
   | (with_reducible exact L2_octBack.mono _ _ _)
   | (with_reducible exact L2_octOf.mono _ _ _)
   | (with_reducible exact L2_odd.mono _)
   | (with_reducible exact LeO.refl _)
   | (with_reducible exact LeO.none _)
   | (with_reducible refine LeO.ite ?_ ?_)
   | (with_reducible refine LeO.bind ?_ (fun _ => ?_))
   | exact ih0 _ _ _ _
   | exact ih1 _ _ _ _ _ _ _
   | exact ih2 _ _ _ _ _ _
   | exact ih3 _ _ _ _ _ _ _ _ _
   | exact ih4 _ _ _ _ _ _ _ _ _
   | exact ih5 _ _ _ _ _ _ _ _ _ _ _ _
   | exact ih6 _ _ _ _ _ _ _ _ _ _ _ _
   | exact ih7 _ _ _ _ _ _ _ _ _
   | exact L2_isOct.mono _ _ _ _ _
   | exact L2_near.mono _ _
   | exact L2_octBack.mono _ _ _
   | exact L2_octOf.mono _ _ _
   | exact L2_odd.mono _
   | exact LeO.none _
   | refine LeO.ite ?_ ?_
   | refine LeO.bind ?_ (fun _ => ?_)
  ·intro y0 y1 y2 y3 y4 y5 y6 y7 y8
   unfold L2_OctStrong.j3
   repeat' first
   | (with_reducible exact ih0 _ _ _ _)
   | (with_reducible exact ih1 _ _ _ _ _ _ _)
   | (with_reducible exact ih2 _ _ _ _ _ _)
   | (with_reducible exact ih3 _ _ _ _ _ _ _ _ _)
   | (with_reducible exact ih4 _ _ _ _ _ _ _ _ _)
   | (with_reducible exact ih5 _ _ _ _ _ _ _ _ _ _ _ _)
   | (with_reducible exact ih6 _ _ _ _ _ _ _ _ _ _ _ _)
   | (with_reducible exact ih7 _ _ _ _ _ _ _ _ _)
   | (with_reducible exact L2_isOct.mono _ _ _ _ _)
   | (with_reducible exact L2_near.mono _ _)
   | (with_reducible exact L2_octBack.mono _ _ _)
   | (with_reducible exact L2_octOf.mono _ _ _)
   | (with_reducible exact L2_odd.mono _)
   | (with_reducible exact LeO.refl _)
   | (with_reducible exact LeO.none _)
   | (with_reducible refine LeO.ite ?_ ?_)
   | (with_reducible refine LeO.bind ?_ (fun _ => ?_))
   | exact ih0 _ _ _ _
   | exact ih1 _ _ _ _ _ _ _
   | exact ih2 _ _ _ _ _ _
   | exact ih3 _ _ _ _ _ _ _ _ _
   | exact ih4 _ _ _ _ _ _ _ _ _
   | exact ih5 _ _ _ _ _ _ _ _ _ _ _ _
   | exact ih6 _ _ _ _ _ _ _ _ _ _ _ _
   | exact ih7 _ _ _ _ _ _ _ _ _
   | exact L2_isOct.mono _ _ _ _ _
   | exact L2_near.mono _ _
   | exact L2_octBack.mono _ _ _
   | exact L2_octOf.mono _ _ _
   | exact L2_odd.mono _
   | exact LeO.none _
   | refine LeO.ite ?_ ?_
   | refine LeO.bind ?_ (fun _ => ?_)
  ·intro y0 y1 y2 y3 y4 y5 y6 y7 y8
   unfold L2_OctStrong.l1
   repeat' first
   | (with_reducible exact ih0 _ _ _ _)
   | (with_reducible exact ih1 _ _ _ _ _ _ _)
   | (with_reducible exact ih2 _ _ _ _ _ _)
   | (with_reducible exact ih3 _ _ _ _ _ _ _ _ _)
   | (with_reducible exact ih4 _ _ _ _ _ _ _ _ _)
   | (with_reducible exact ih5 _ _ _ _ _ _ _ _ _ _ _ _)
   | (with_reducible exact ih6 _ _ _ _ _ _ _ _ _ _ _ _)
   | (with_reducible exact ih7 _ _ _ _ _ _ _ _ _)
   | (with_reducible exact L2_isOct.mono _ _ _ _ _)
   | (with_reducible exact L2_near.mono _ _)
   | (with_reducible exact L2_octBack.mono _ _ _)
   | (with_reducible exact L2_octOf.mono _ _ _)
   | (with_reducible exact L2_odd.mono _)
   | (with_reducible exact LeO.refl _)
   | (with_reducible exact LeO.none _)
   | (with_reducible refine LeO.ite ?_ ?_)
   | (with_reducible refine LeO.bind ?_ (fun _ => ?_))
   | exact ih0 _ _ _ _
   | exact ih1 _ _ _ _ _ _ _
   | exact ih2 _ _ _ _ _ _
   | exact ih3 _ _ _ _ _ _ _ _ _
   | exact ih4 _ _ _ _ _ _ _ _ _
   | exact ih5 _ _ _ _ _ _ _ _ _ _ _ _
   | exact ih6 _ _ _ _ _ _ _ _ _ _ _ _
   | exact ih7 _ _ _ _ _ _ _ _ _
   | exact L2_isOct.mono _ _ _ _ _
   | exact L2_near.mono _ _
   | exact L2_octBack.mono _ _ _
   | exact L2_octOf.mono _ _ _
   | exact L2_odd.mono _
   | exact LeO.none _
   | refine LeO.ite ?_ ?_
   | refine LeO.bind ?_ (fun _ => ?_)
  ·intro y0 y1 y2 y3 y4 y5 y6 y7 y8 y9 y10 y11
   unfold L2_OctStrong.j5
   repeat' first
   | (with_reducible exact ih0 _ _ _ _)
   | (with_reducible exact ih1 _ _ _ _ _ _ _)
   | (with_reducible exact ih2 _ _ _ _ _ _)
   | (with_reducible exact ih3 _ _ _ _ _ _ _ _ _)
   | (with_reducible exact ih4 _ _ _ _ _ _ _ _ _)
   | (with_reducible exact ih5 _ _ _ _ _ _ _ _ _ _ _ _)
   | (with_reducible exact ih6 _ _ _ _ _ _ _ _ _ _ _ _)
   | (with_reducible exact ih7 _ _ _ _ _ _ _ _ _)
   | (with_reducible exact L2_isOct.mono _ _ _ _ _)
   | (with_reducible exact L2_near.mono _ _)
   | (with_reducible exact L2_octBack.mono _ _ _)
   | (with_reducible exact L2_octOf.mono _ _ _)
   | (with_reducible exact L2_odd.mono _)
   | (with_reducible exact LeO.refl _)
   | (with_reducible exact LeO.none _)
   | (with_reducible refine LeO.ite ?_ ?_)
   | (with_reducible refine LeO.bind ?_ (fun _ => ?_))
   | exact ih0 _ _ _ _
   | exact ih1 _ _ _ _ _ _ _
   | exact ih2 _ _ _ _ _ _
   | exact ih3 _ _ _ _ _ _ _ _ _
   | exact ih4 _ _ _ _ _ _ _ _ _
   | exact ih5 _ _ _ _ _ _ _ _ _ _ _ _
   | exact ih6 _ _ _ _ _ _ _ _ _ _ _ _
   | exact ih7 _ _ _ _ _ _ _ _ _
   | exact L2_isOct.mono _ _ _ _ _
   | exact L2_near.mono _ _
   | exact L2_octBack.mono _ _ _
   | exact L2_octOf.mono _ _ _
   | exact L2_odd.mono _
   | exact LeO.none _
   | refine LeO.ite ?_ ?_
   | refine LeO.bind ?_ (fun _ => ?_)
  ·intro y0 y1 y2 y3 y4 y5 y6 y7 y8 y9 y10 y11
   unfold L2_OctStrong.l2
   repeat' first
   | (with_reducible exact ih0 _ _ _ _)
   | (with_reducible exact ih1 _ _ _ _ _ _ _)
   | (with_reducible exact ih2 _ _ _ _ _ _)
   | (with_reducible exact ih3 _ _ _ _ _ _ _ _ _)
   | (with_reducible exact ih4 _ _ _ _ _ _ _ _ _)
   | (with_reducible exact ih5 _ _ _ _ _ _ _ _ _ _ _ _)
   | (with_reducible exact ih6 _ _ _ _ _ _ _ _ _ _ _ _)
   | (with_reducible exact ih7 _ _ _ _ _ _ _ _ _)
   | (with_reducible exact L2_isOct.mono _ _ _ _ _)
   | (with_reducible exact L2_near.mono _ _)
   | (with_reducible exact L2_octBack.mono _ _ _)
   | (with_reducible exact L2_octOf.mono _ _ _)
   | (with_reducible exact L2_odd.mono _)
   | (with_reducible exact LeO.refl _)
   | (with_reducible exact LeO.none _)
   | (with_reducible refine LeO.ite ?_ ?_)
   | (with_reducible refine LeO.bind ?_ (fun _ => ?_))
   | exact ih0 _ _ _ _
   | exact ih1 _ _ _ _ _ _ _
   | exact ih2 _ _ _ _ _ _
   | exact ih3 _ _ _ _ _ _ _ _ _
   | exact ih4 _ _ _ _ _ _ _ _ _
   | exact ih5 _ _ _ _ _ _ _ _ _ _ _ _
   | exact ih6 _ _ _ _ _ _ _ _ _ _ _ _
   | exact ih7 _ _ _ _ _ _ _ _ _
   | exact L2_isOct.mono _ _ _ _ _
   | exact L2_near.mono _ _
   | exact L2_octBack.mono _ _ _
   | exact L2_octOf.mono _ _ _
   | exact L2_odd.mono _
   | exact LeO.none _
   | refine LeO.ite ?_ ?_
   | refine LeO.bind ?_ (fun _ => ?_)
  intro y0 y1 y2 y3 y4 y5 y6 y7 y8
  unfold L2_OctStrong.j7
  repeat' first
  | (with_reducible exact ih0 _ _ _ _)
  | (with_reducible exact ih1 _ _ _ _ _ _ _)
  | (with_reducible exact ih2 _ _ _ _ _ _)
  | (with_reducible exact ih3 _ _ _ _ _ _ _ _ _)
  | (with_reducible exact ih4 _ _ _ _ _ _ _ _ _)
  | (with_reducible exact ih5 _ _ _ _ _ _ _ _ _ _ _ _)
  | (with_reducible exact ih6 _ _ _ _ _ _ _ _ _ _ _ _)
  | (with_reducible exact ih7 _ _ _ _ _ _ _ _ _)
  | (with_reducible exact L2_isOct.mono _ _ _ _ _)
  | (with_reducible exact L2_near.mono _ _)
  | (with_reducible exact L2_octBack.mono _ _ _)
  | (with_reducible exact L2_octOf.mono _ _ _)
  | (with_reducible exact L2_odd.mono _)
  | (with_reducible exact LeO.refl _)
  | (with_reducible exact LeO.none _)
  | (with_reducible refine LeO.ite ?_ ?_)
  | (with_reducible refine LeO.bind ?_ (fun _ => ?_))
  | exact ih0 _ _ _ _
  | exact ih1 _ _ _ _ _ _ _
  | exact ih2 _ _ _ _ _ _
  | exact ih3 _ _ _ _ _ _ _ _ _
  | exact ih4 _ _ _ _ _ _ _ _ _
  | exact ih5 _ _ _ _ _ _ _ _ _ _ _ _
  | exact ih6 _ _ _ _ _ _ _ _ _ _ _ _
  | exact ih7 _ _ _ _ _ _ _ _ _
  | exact L2_isOct.mono _ _ _ _ _
  | exact L2_near.mono _ _
  | exact L2_octBack.mono _ _ _
  | exact L2_octOf.mono _ _ _
  | exact L2_odd.mono _
  | exact LeO.none _
  | refine LeO.ite ?_ ?_
  | refine LeO.bind ?_ (fun _ => ?_)
theorem L2_OctStrong.mono : ∀ a0 a1 k, LeO (L2_OctStrong.f k a0 a1) (L2_OctStrong.f (k + 1) a0 a1) := by
 intro a0 a1 k
 obtain ⟨ih0, ih1, ih2, ih3, ih4, ih5, ih6, ih7⟩ := L2_OctStrong.mono_l k
 unfold L2_OctStrong.f
 repeat' first
   | (with_reducible exact ih0 _ _ _ _)
   | (with_reducible exact ih1 _ _ _ _ _ _ _)
   | (with_reducible exact ih2 _ _ _ _ _ _)
   | (with_reducible exact ih3 _ _ _ _ _ _ _ _ _)
   | (with_reducible exact ih4 _ _ _ _ _ _ _ _ _)
   | (with_reducible exact ih5 _ _ _ _ _ _ _ _ _ _ _ _)
   | (with_reducible exact ih6 _ _ _ _ _ _ _ _ _ _ _ _)
   | (with_reducible exact ih7 _ _ _ _ _ _ _ _ _)
   | (with_reducible exact L2_isOct.mono _ _ _ _ _)
   | (with_reducible exact L2_near.mono _ _)
   | (with_reducible exact L2_octBack.mono _ _ _)
   | (with_reducible exact L2_octOf.mono _ _ _)
   | (with_reducible exact L2_odd.mono _)
   | (with_reducible exact LeO.refl _)
   | (with_reducible exact LeO.none _)
   | (with_reducible refine LeO.ite ?_ ?_)
   | (with_reducible refine LeO.bind ?_ (fun _ => ?_))
   | exact ih0 _ _ _ _
   | exact ih1 _ _ _ _ _ _ _
   | exact ih2 _ _ _ _ _ _
   | exact ih3 _ _ _ _ _ _ _ _ _
   | exact ih4 _ _ _ _ _ _ _ _ _
   | exact ih5 _ _ _ _ _ _ _ _ _ _ _ _
   | exact ih6 _ _ _ _ _ _ _ _ _ _ _ _
   | exact ih7 _ _ _ _ _ _ _ _ _
   | exact L2_isOct.mono _ _ _ _ _
   | exact L2_near.mono _ _
   | exact L2_octBack.mono _ _ _
   | exact L2_octOf.mono _ _ _
   | exact L2_odd.mono _
   | exact LeO.none _
   | refine LeO.ite ?_ ?_
   | refine LeO.bind ?_ (fun _ => ?_)
def L2_OctStrong.T29 : Bool × List (List Nat × List Nat) := (true, [([], []), ([0], [0]), ([], []), ([2, 1], [2]), ([1, 3, 3], [1, 3]), ([4], [4]), ([5], [5]), ([5], [5]), ([], []), ([8, 6, 4, 0, 1, 2, 3, 4, 5, 6, 8], [6, 8]), ([7, 9, 0, 1, 2, 3, 4, 5, 6, 7, 8, 9], [7])])
def L2_OctStrong.B29 : List Nat := [0, 1, 0, 7, 15, 31, 63, 63, 0, 383, 1023]
theorem L2_OctStrong.tab29 : rtab .any (opsOf Tryd.f13 29) = L2_OctStrong.T29 := by kernel_rfl
theorem L2_OctStrong.bits29 : waitsOk L2_OctStrong.T29.2 L2_OctStrong.B29 = true := by kernel_rfl
def L2_OctStrong.T30 : Bool × List (List Nat × List Nat) := (true, [([], []), ([0], [0]), ([], []), ([2, 1], [2]), ([1, 3, 3], [1, 3]), ([4], [4]), ([5], [5]), ([5], [5]), ([5], [5]), ([], []), ([9, 6, 4, 0, 1, 2, 3, 4, 5, 6, 9], [6, 9]), ([7, 10, 0, 1, 2, 3, 4, 5, 6, 7, 9, 10], [7]), ([8, 11, 0, 1, 2, 3, 4, 5, 6, 7, 8, 9, 10, 11], [8])])
def L2_OctStrong.B30 : List Nat := [0, 1, 0, 7, 15, 31, 63, 63, 63, 0, 639, 1791, 4095]
theorem L2_OctStrong.tab30 : rtab .any (opsOf Tryd.f13 30) = L2_OctStrong.T30 := by kernel_rfl
theorem L2_OctStrong.bits30 : waitsOk L2_OctStrong.T30.2 L2_OctStrong.B30 = true := by kernel_rfl

end Go.Proofs.YtjpboodkmhikpaaDoor.Z
