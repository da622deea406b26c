-- Written by wip/xprint.py (the session's program over the kit's print).
import Derived.Test.YtimgfgambeffeaaDoorEb
import Derived.Test.YtimgfgambeffeaaDoorC0
import Derived.Test.YtimgfgambeffeaaDoorC1
import Derived.Test.YtimgfgambeffeaaDoorC6
import Derived.Test.YtimgfgambeffeaaDoorC9
import Derived.Test.YtimgfgambeffeaaDoorC16
import Derived.Test.YtimgfgambeffeaaDoorC19
namespace Go.Proofs.YtimgfgambeffeaaDoor.C
open Go.RowKit Go.Proofs.YtimgfgambeffeaaDoorW.PrintWords Go.Proofs.YtimgfgambeffeaaDoorW.PrintLast Go.Proofs.YtimgfgambeffeaaDoorW.PrintMore Go.Proofs.Rcg
attribute [local go_sem] max2_int min2_int max_two min_two max_three min_three max_four min_four   -- for this text's walks alone
set_option linter.unusedVariables false
set_option linter.unusedSimpArgs false

attribute [local go_sem high] eqA23
/-! ### L2_CongrTight: function 11 -/
mutual
def L2_CongrTight.j0 : Nat → Int → Int → Int → Bool → Bool → Int → Int → Option (Bool)
 | 0, _, _, _, _, _, _, _ => none
 | k + 1, x6, x442000, x442001, x443000, x443001, x443002, x443003 => (L2_own.f x442000 x442001).bind fun bt446 => ((congr_Tight.f k bt446.1 bt446.2 x443000 x443001 x443002 x443003).bind fun bt448 => (if x6 > 0 then ((L2_isSpan.f bt448.1 bt448.2.1 bt448.2.2.1 bt448.2.2.2.1 bt448.2.2.2.2.2 bt448.1 bt448.2.1 bt448.2.2.1 bt448.2.2.2.1 x6).bind fun t455 => (if t455 = true then (some (!bt448.2.2.2.2.1)) else (none))) else ((R2_Far.f x443002 1073741824).bind fun t456 => (if t456 = true then (L2_CongrTight.j1 k bt448.2.2.2.2.1 bt448.2.2.2.2.2 true x442000 x442001 x443000 x443001 x443002 x443003 bt448.1 bt448.2.1 bt448.2.2.1 bt448.2.2.2.1) else ((R2_Far.f x443003 1073741824).bind fun t457 => (if t457 = true then (L2_CongrTight.j1 k bt448.2.2.2.2.1 bt448.2.2.2.2.2 true x442000 x442001 x443000 x443001 x443002 x443003 bt448.1 bt448.2.1 bt448.2.2.1 bt448.2.2.2.1) else (if x442001 > 5000 then (L2_CongrTight.j1 k bt448.2.2.2.2.1 bt448.2.2.2.2.2 true x442000 x442001 x443000 x443001 x443002 x443003 bt448.1 bt448.2.1 bt448.2.2.1 bt448.2.2.2.1) else ((R2_Far.f x442000 1073741824).bind fun t458 => (L2_CongrTight.j1 k bt448.2.2.2.2.1 bt448.2.2.2.2.2 t458 x442000 x442001 x443000 x443001 x443002 x443003 bt448.1 bt448.2.1 bt448.2.2.1 bt448.2.2.2.1)))))))))
def L2_CongrTight.j1 : Nat → Bool → Option Int → Bool → Int → Int → Bool → Bool → Int → Int → Bool → Bool → Int → Int → Option (Bool)
 | 0, _, _, _, _, _, _, _, _, _, _, _, _, _ => none
 | k + 1, x8, x9, x57, x442000, x442001, x443000, x443001, x443002, x443003, x455000, x455001, x455002, x455003 => if x57 = true then (if x9.isNone = true then (some true) else (none)) else (if x442001 = 0 then ((R2_InOf.f x443000 x443001 x443002 x443003 x442000).bind fun t460 => (if t460 = true then (if x8 = true then ((L2_isSpan.f x455000 x455001 x455002 x455003 x9 false false x442000 x442000 0).bind fun t461 => (some t461)) else (none)) else (if x9.isNone = true then (if x8 = true then (none) else (some (!x455000 && (!x455001 && (x455002 == 0 && (x455003 == 0)))))) else (none)))) else (if x443000 = true then (L2_CongrTight.j3 k x8 x9 x442000 x442001 x443000 x443001 x443002 x443003 x455000 x455001 x455002 x455003 x443000 x443001 x443002 x443003) else (L2_CongrTight.l0 k x8 x9 x442000 x442001 x443000 x443001 x443002 x443003 x455000 x455001 x455002 x455003 x443000 x443001 x443002 x443003)))
def L2_CongrTight.j3 : Nat → Bool → Option Int → Int → Int → Bool → Bool → Int → Int → Bool → Bool → Int → Int → Bool → Bool → Int → Int → Option (Bool)
 | 0, _, _, _, _, _, _, _, _, _, _, _, _, _, _, _, _ => none
 | k + 1, x8, x9, x442000, x442001, x443000, x443001, x443002, x443003, x455000, x455001, x455002, x455003, x464000, x464001, x464002, x464003 => if x443001 = true then (if x464000 = true then (if x8 = true then ((L2_isSpan.f x455000 x455001 x455002 x455003 x9 x464000 x464001 x464002 x464003 0).bind fun t465 => (some t465)) else (none)) else (if x464001 = true then (if x8 = true then ((L2_isSpan.f x455000 x455001 x455002 x455003 x9 x464000 x464001 x464002 x464003 0).bind fun t466 => (some t466)) else (none)) else (if x464002 > x464003 then (if x9.isNone = true then (if x8 = true then (none) else (some (!x455000 && (!x455001 && (x455002 == 0 && (x455003 == 0)))))) else (none)) else (if x8 = true then ((L2_isSpan.f x455000 x455001 x455002 x455003 x9 x464000 x464001 x464002 x464003 0).bind fun t468 => (some t468)) else (none))))) else (L2_CongrTight.l1 k x8 x9 x442000 x442001 x455000 x455001 x455002 x455003 x464000 x464001 x464002 x464003)
def L2_CongrTight.l1 : Nat → Bool → Option Int → Int → Int → Bool → Bool → Int → Int → Bool → Bool → Int → Int → Option (Bool)
 | 0, _, _, _, _, _, _, _, _, _, _, _, _ => none
 | k + 1, x8, x9, x442000, x442001, x455000, x455001, x455002, x455003, x464000, x464001, x464002, x464003 => (R2_LeavesOf.f x442000 x442001 x464003).bind fun t469 => (if t469 = true then (if x464000 = true then (if x8 = true then ((L2_isSpan.f x455000 x455001 x455002 x455003 x9 x464000 x464001 x464002 x464003 0).bind fun t470 => (some t470)) else (none)) else (if x464001 = true then (if x8 = true then ((L2_isSpan.f x455000 x455001 x455002 x455003 x9 x464000 x464001 x464002 x464003 0).bind fun t471 => (some t471)) else (none)) else (if x464002 > x464003 then (if x9.isNone = true then (if x8 = true then (none) else (some (!x455000 && (!x455001 && (x455002 == 0 && (x455003 == 0)))))) else (none)) else (if x8 = true then ((L2_isSpan.f x455000 x455001 x455002 x455003 x9 x464000 x464001 x464002 x464003 0).bind fun t473 => (some t473)) else (none))))) else (L2_CongrTight.l1 k x8 x9 x442000 x442001 x455000 x455001 x455002 x455003 x464000 x464001 x464002 (wrap64 (x464003 - 1))))
def L2_CongrTight.l0 : Nat → Bool → Option Int → Int → Int → Bool → Bool → Int → Int → Bool → Bool → Int → Int → Bool → Bool → Int → Int → Option (Bool)
 | 0, _, _, _, _, _, _, _, _, _, _, _, _, _, _, _, _ => none
 | k + 1, x8, x9, x442000, x442001, x443000, x443001, x443002, x443003, x455000, x455001, x455002, x455003, x464000, x464001, x464002, x464003 => (R2_LeavesOf.f x442000 x442001 x464002).bind fun t464 => (if t464 = true then (L2_CongrTight.j3 k x8 x9 x442000 x442001 x443000 x443001 x443002 x443003 x455000 x455001 x455002 x455003 x464000 x464001 x464002 x464003) else (L2_CongrTight.l0 k x8 x9 x442000 x442001 x443000 x443001 x443002 x443003 x455000 x455001 x455002 x455003 x464000 x464001 (wrap64 (x464002 + 1)) x464003))
end
def L2_CongrTight.f (k : Nat) (a0_0 : Int) (a0_1 : Int) (a1_0 : Bool) (a1_1 : Bool) (a1_2 : Int) (a1_3 : Int) : Option (Bool) := (L2_sixth.f k).bind fun t443 => (if t443 = true then ((R2_CongrError.f k a0_0 a0_1).bind fun t444 => (if t444 = 0 then ((R2_IntervalError.f k a1_0 a1_1 a1_2 a1_3).bind fun t445 => (L2_CongrTight.j0 k t445 a0_0 a0_1 a1_0 a1_1 a1_2 a1_3)) else (L2_CongrTight.j0 k t444 a0_0 a0_1 a1_0 a1_1 a1_2 a1_3))) else (none))
theorem L2_CongrTight.mono_l : ∀ k, (∀ y0 y1 y2 y3 y4 y5 y6, LeO (L2_CongrTight.j0 k y0 y1 y2 y3 y4 y5 y6) (L2_CongrTight.j0 (k + 1) y0 y1 y2 y3 y4 y5 y6)) ∧ (∀ y0 y1 y2 y3 y4 y5 y6 y7 y8 y9 y10 y11 y12, LeO (L2_CongrTight.j1 k y0 y1 y2 y3 y4 y5 y6 y7 y8 y9 y10 y11 y12) (L2_CongrTight.j1 (k + 1) y0 y1 y2 y3 y4 y5 y6 y7 y8 y9 y10 y11 y12)) ∧ (∀ y0 y1 y2 y3 y4 y5 y6 y7 y8 y9 y10 y11 y12 y13 y14 y15, LeO (L2_CongrTight.j3 k y0 y1 y2 y3 y4 y5 y6 y7 y8 y9 y10 y11 y12 y13 y14 y15) (L2_CongrTight.j3 (k + 1) y0 y1 y2 y3 y4 y5 y6 y7 y8 y9 y10 y11 y12 y13 y14 y15)) ∧ (∀ y0 y1 y2 y3 y4 y5 y6 y7 y8 y9 y10 y11, LeO (L2_CongrTight.l1 k y0 y1 y2 y3 y4 y5 y6 y7 y8 y9 y10 y11) (L2_CongrTight.l1 (k + 1) y0 y1 y2 y3 y4 y5 y6 y7 y8 y9 y10 y11)) ∧ (∀ y0 y1 y2 y3 y4 y5 y6 y7 y8 y9 y10 y11 y12 y13 y14 y15, LeO (L2_CongrTight.l0 k y0 y1 y2 y3 y4 y5 y6 y7 y8 y9 y10 y11 y12 y13 y14 y15) (L2_CongrTight.l0 (k + 1) y0 y1 y2 y3 y4 y5 y6 y7 y8 y9 y10 y11 y12 y13 y14 y15))
 | 0 => ⟨fun _ _ _ _ _ _ _ r h => by simp [L2_CongrTight.j0] at h, fun _ _ _ _ _ _ _ _ _ _ _ _ _ r h => by simp [L2_CongrTight.j1] at h, fun _ _ _ _ _ _ _ _ _ _ _ _ _ _ _ _ r h => by simp [L2_CongrTight.j3] at h, fun _ _ _ _ _ _ _ _ _ _ _ _ r h => by simp [L2_CongrTight.l1] at h, fun _ _ _ _ _ _ _ _ _ _ _ _ _ _ _ _ r h => by simp [L2_CongrTight.l0] at h⟩
 | k + 1 => by
  obtain ⟨ih0, ih1, ih2, ih3, ih4⟩ := L2_CongrTight.mono_l k
  refine ⟨?_, ?_, ?_, ?_, ?_⟩
  ·intro y0 y1 y2 y3 y4 y5 y6
   unfold L2_CongrTight.j0
   repeat' first
   | (with_reducible exact ih0 _ _ _ _ _ _ _)
   | (with_reducible exact ih1 _ _ _ _ _ _ _ _ _ _ _ _ _)
   | (with_reducible exact ih2 _ _ _ _ _ _ _ _ _ _ _ _ _ _ _ _)
   | (with_reducible exact ih3 _ _ _ _ _ _ _ _ _ _ _ _)
   | (with_reducible exact ih4 _ _ _ _ _ _ _ _ _ _ _ _ _ _ _ _)
   | (with_reducible exact L2_sixth.mono _)
   | (with_reducible exact R2_CongrError.mono _ _ _)
   | (with_reducible exact R2_IntervalError.mono _ _ _ _ _)
   | (with_reducible exact congr_Tight.mono _ _ _ _ _ _ _)
   | (with_reducible exact LeO.refl _)
   | (with_reducible exact LeO.none _)
   | (with_reducible refine LeO.ite ?_ ?_)
   | (with_reducible refine LeO.bind ?_ (fun _ => ?_))
   | exact ih0 _ _ _ _ _ _ _
   | exact ih1 _ _ _ _ _ _ _ _ _ _ _ _ _
   | exact ih2 _ _ _ _ _ _ _ _ _ _ _ _ _ _ _ _
   | exact ih3 _ _ _ _ _ _ _ _ _ _ _ _
   | exact ih4 _ _ _ _ _ _ _ _ _ _ _ _ _ _ _ _
   | exact L2_sixth.mono _
   | exact R2_CongrError.mono _ _ _
   | exact R2_IntervalError.mono _ _ _ _ _
   | exact congr_Tight.mono _ _ _ _ _ _ _
   | exact LeO.none _
   | refine LeO.ite ?_ ?_
   | refine LeO.bind ?_ (fun _ => ?_)
  ·intro y0 y1 y2 y3 y4 y5 y6 y7 y8 y9 y10 y11 y12
   unfold L2_CongrTight.j1
   repeat' first
   | (with_reducible exact ih0 _ _ _ _ _ _ _)
   | (with_reducible exact ih1 _ _ _ _ _ _ _ _ _ _ _ _ _)
   | (with_reducible exact ih2 _ _ _ _ _ _ _ _ _ _ _ _ _ _ _ _)
   | (with_reducible exact ih3 _ _ _ _ _ _ _ _ _ _ _ _)
   | (with_reducible exact ih4 _ _ _ _ _ _ _ _ _ _ _ _ _ _ _ _)
   | (with_reducible exact L2_sixth.mono _)
   | (with_reducible exact R2_CongrError.mono _ _ _)
   | (with_reducible exact R2_IntervalError.mono _ _ _ _ _)
   | (with_reducible exact congr_Tight.mono _ _ _ _ _ _ _)
   | (with_reducible exact LeO.refl _)
   | (with_reducible exact LeO.none _)
   | (with_reducible refine LeO.ite ?_ ?_)
   | (with_reducible refine LeO.bind ?_ (fun _ => ?_))
   | exact ih0 _ _ _ _ _ _ _
   | exact ih1 _ _ _ _ _ _ _ _ _ _ _ _ _
   | exact ih2 _ _ _ _ _ _ _ _ _ _ _ _ _ _ _ _
   | exact ih3 _ _ _ _ _ _ _ _ _ _ _ _
   | exact ih4 _ _ _ _ _ _ _ _ _ _ _ _ _ _ _ _
   | exact L2_sixth.mono _
   | exact R2_CongrError.mono _ _ _
   | exact R2_IntervalError.mono _ _ _ _ _
   | exact congr_Tight.mono _ _ _ _ _ _ _
   | exact LeO.none _
   | refine LeO.ite ?_ ?_
   | refine LeO.bind ?_ (fun _ => ?_)
  ·intro y0 y1 y2 y3 y4 y5 y6 y7 y8 y9 y10 y11 y12 y13 y14 y15
   unfold L2_CongrTight.j3
   repeat' first
   | (with_reducible exact ih0 _ _ _ _ _ _ _)
   | (with_reducible exact ih1 _ _ _ _ _ _ _ _ _ _ _ _ _)
   | (with_reducible exact ih2 _ _ _ _ _ _ _ _ _ _ _ _ _ _ _ _)
   | (with_reducible exact ih3 _ _ _ _ _ _ _ _ _ _ _ _)
   | (with_reducible exact ih4 _ _ _ _ _ _ _ _ _ _ _ _ _ _ _ _)
   | (with_reducible exact L2_sixth.mono _)
   | (with_reducible exact R2_CongrError.mono _ _ _)
   | (with_reducible exact R2_IntervalError.mono _ _ _ _ _)
   | (with_reducible exact congr_Tight.mono _ _ _ _ _ _ _)
   | (with_reducible exact LeO.refl _)
   | (with_reducible exact LeO.none _)
   | (with_reducible refine LeO.ite ?_ ?_)
   | (with_reducible refine LeO.bind ?_ (fun _ => ?_))
   | exact ih0 _ _ _ _ _ _ _
   | exact ih1 _ _ _ _ _ _ _ _ _ _ _ _ _
   | exact ih2 _ _ _ _ _ _ _ _ _ _ _ _ _ _ _ _
   | exact ih3 _ _ _ _ _ _ _ _ _ _ _ _
   | exact ih4 _ _ _ _ _ _ _ _ _ _ _ _ _ _ _ _
   | exact L2_sixth.mono _
   | exact R2_CongrError.mono _ _ _
   | exact R2_IntervalError.mono _ _ _ _ _
   | exact congr_Tight.mono _ _ _ _ _ _ _
   | exact LeO.none _
   | refine LeO.ite ?_ ?_
   | refine LeO.bind ?_ (fun _ => ?_)
  ·intro y0 y1 y2 y3 y4 y5 y6 y7 y8 y9 y10 y11
   unfold L2_CongrTight.l1
   repeat' first
   | (with_reducible exact ih0 _ _ _ _ _ _ _)
   | (with_reducible exact ih1 _ _ _ _ _ _ _ _ _ _ _ _ _)
   | (with_reducible exact ih2 _ _ _ _ _ _ _ _ _ _ _ _ _ _ _ _)
   | (with_reducible exact ih3 _ _ _ _ _ _ _ _ _ _ _ _)
   | (with_reducible exact ih4 _ _ _ _ _ _ _ _ _ _ _ _ _ _ _ _)
   | (with_reducible exact L2_sixth.mono _)
   | (with_reducible exact R2_CongrError.mono _ _ _)
   | (with_reducible exact R2_IntervalError.mono _ _ _ _ _)
   | (with_reducible exact congr_Tight.mono _ _ _ _ _ _ _)
   | (with_reducible exact LeO.refl _)
   | (with_reducible exact LeO.none _)
   | (with_reducible refine LeO.ite ?_ ?_)
   | (with_reducible refine LeO.bind ?_ (fun _ => ?_))
   | exact ih0 _ _ _ _ _ _ _
   | exact ih1 _ _ _ _ _ _ _ _ _ _ _ _ _
   | exact ih2 _ _ _ _ _ _ _ _ _ _ _ _ _ _ _ _
   | exact ih3 _ _ _ _ _ _ _ _ _ _ _ _
   | exact ih4 _ _ _ _ _ _ _ _ _ _ _ _ _ _ _ _
   | exact L2_sixth.mono _
   | exact R2_CongrError.mono _ _ _
   | exact R2_IntervalError.mono _ _ _ _ _
   | exact congr_Tight.mono _ _ _ _ _ _ _
   | exact LeO.none _
   | refine LeO.ite ?_ ?_
   | refine LeO.bind ?_ (fun _ => ?_)
  intro y0 y1 y2 y3 y4 y5 y6 y7 y8 y9 y10 y11 y12 y13 y14 y15
  unfold L2_CongrTight.l0
  repeat' first
  | (with_reducible exact ih0 _ _ _ _ _ _ _)
  | (with_reducible exact ih1 _ _ _ _ _ _ _ _ _ _ _ _ _)
  | (with_reducible exact ih2 _ _ _ _ _ _ _ _ _ _ _ _ _ _ _ _)
  | (with_reducible exact ih3 _ _ _ _ _ _ _ _ _ _ _ _)
  | (with_reducible exact ih4 _ _ _ _ _ _ _ _ _ _ _ _ _ _ _ _)
  | (with_reducible exact L2_sixth.mono _)
  | (with_reducible exact R2_CongrError.mono _ _ _)
  | (with_reducible exact R2_IntervalError.mono _ _ _ _ _)
  | (with_reducible exact congr_Tight.mono _ _ _ _ _ _ _)
  | (with_reducible exact LeO.refl _)
  | (with_reducible exact LeO.none _)
  | (with_reducible refine LeO.ite ?_ ?_)
  | (with_reducible refine LeO.bind ?_ (fun _ => ?_))
  | exact ih0 _ _ _ _ _ _ _
  | exact ih1 _ _ _ _ _ _ _ _ _ _ _ _ _
  | exact ih2 _ _ _ _ _ _ _ _ _ _ _ _ _ _ _ _
  | exact ih3 _ _ _ _ _ _ _ _ _ _ _ _
  | exact ih4 _ _ _ _ _ _ _ _ _ _ _ _ _ _ _ _
  | exact L2_sixth.mono _
  | exact R2_CongrError.mono _ _ _
  | exact R2_IntervalError.mono _ _ _ _ _
  | exact congr_Tight.mono _ _ _ _ _ _ _
  | exact LeO.none _
  | refine LeO.ite ?_ ?_
  | refine LeO.bind ?_ (fun _ => ?_)
theorem L2_CongrTight.mono : ∀ a0 a1 a2 a3 a4 a5 k, LeO (L2_CongrTight.f k a0 a1 a2 a3 a4 a5) (L2_CongrTight.f (k + 1) a0 a1 a2 a3 a4 a5) := by
 intro a0 a1 a2 a3 a4 a5 k
 obtain ⟨ih0, ih1, ih2, ih3, ih4⟩ := L2_CongrTight.mono_l k
 unfold L2_CongrTight.f
 repeat' first
   | (with_reducible exact ih0 _ _ _ _ _ _ _)
   | (with_reducible exact ih1 _ _ _ _ _ _ _ _ _ _ _ _ _)
   | (with_reducible exact ih2 _ _ _ _ _ _ _ _ _ _ _ _ _ _ _ _)
   | (with_reducible exact ih3 _ _ _ _ _ _ _ _ _ _ _ _)
   | (with_reducible exact ih4 _ _ _ _ _ _ _ _ _ _ _ _ _ _ _ _)
   | (with_reducible exact L2_sixth.mono _)
   | (with_reducible exact R2_CongrError.mono _ _ _)
   | (with_reducible exact R2_IntervalError.mono _ _ _ _ _)
   | (with_reducible exact congr_Tight.mono _ _ _ _ _ _ _)
   | (with_reducible exact LeO.refl _)
   | (with_reducible exact LeO.none _)
   | (with_reducible refine LeO.ite ?_ ?_)
   | (with_reducible refine LeO.bind ?_ (fun _ => ?_))
   | exact ih0 _ _ _ _ _ _ _
   | exact ih1 _ _ _ _ _ _ _ _ _ _ _ _ _
   | exact ih2 _ _ _ _ _ _ _ _ _ _ _ _ _ _ _ _
   | exact ih3 _ _ _ _ _ _ _ _ _ _ _ _
   | exact ih4 _ _ _ _ _ _ _ _ _ _ _ _ _ _ _ _
   | exact L2_sixth.mono _
   | exact R2_CongrError.mono _ _ _
   | exact R2_IntervalError.mono _ _ _ _ _
   | exact congr_Tight.mono _ _ _ _ _ _ _
   | exact LeO.none _
   | refine LeO.ite ?_ ?_
   | refine LeO.bind ?_ (fun _ => ?_)
def L2_CongrTight.T7 : Bool × List (List Nat × List Nat) := (true, [([], []), ([0], [0]), ([], []), ([1, 2, 1], [1, 2]), ([3], [3]), ([4], [4]), ([4], [4]), ([4], [4]), ([], []), ([8, 5, 3, 0, 1, 2, 3, 4, 5, 8], [5, 8]), ([6, 9, 0, 1, 2, 3, 4, 5, 6, 8, 9], [6]), ([7, 10, 0, 1, 2, 3, 4, 5, 6, 7, 8, 9, 10], [7])])
def L2_CongrTight.B7 : List Nat := [0, 1, 0, 7, 15, 31, 31, 31, 0, 319, 895, 2047]
theorem L2_CongrTight.tab7 : rtab .any (opsOf Tryd.f11 7) = L2_CongrTight.T7 := by kernel_rfl
theorem L2_CongrTight.bits7 : waitsOk L2_CongrTight.T7.2 L2_CongrTight.B7 = true := by kernel_rfl
set_option maxHeartbeats 8000000 in
set_option maxRecDepth 100000 in
theorem L2_CongrTight.calls [EA] (k : Nat) (a0_0 : Int) (a0_1 : Int) (a1_0 : Bool) (a1_1 : Bool) (a1_2 : Int) (a1_3 : Int) (r : Bool) (w : World) (h : L2_CongrTight.f k a0_0 a0_1 a1_0 a1_1 a1_2 a1_3 = some r) (h2_ : ErrAt 2 1 w) (h3_ : ErrAt 3 0 w) (h9_ : ErrAll w) :
  Calls Tryd.prog 11 #[.agg #[.int .i64 a0_0, .int .i64 a0_1], .agg #[.bool a1_0, .bool a1_1, .int .i64 a1_2, .int .i64 a1_3]] w fun e w' => e = .returned (.bool r) ∧ Below w.heap.size w w' := by
 have hE2 := am h2_
 clear h2_
 have hE3 := am h3_
 clear h3_
 have hE9 := am h9_
 clear h9_
 have hu32 := Tryd.underlying32
 have hu23 := Tryd.underlying23
 have hu28 := Tryd.underlying28
 have HB := am (Below.refl w.heap.size w)
 have H : ((L2_sixth.f k).bind fun t443 => (if t443 = true then ((R2_CongrError.f k a0_0 a0_1).bind fun t444 => (if t444 = 0 then ((R2_IntervalError.f k a1_0 a1_1 a1_2 a1_3).bind fun t445 => (L2_CongrTight.j0 k t445 a0_0 a0_1 a1_0 a1_1 a1_2 a1_3)) else (L2_CongrTight.j0 k t444 a0_0 a0_1 a1_0 a1_1 a1_2 a1_3))) else (none))) = some r := h
 clear h
 replace H := Option.bind_eq_some_iff.mp H
 obtain ⟨t443, A30, H⟩ := H
 replace H : (if t443 = true then ((R2_CongrError.f k a0_0 a0_1).bind fun t444 => (if t444 = 0 then ((R2_IntervalError.f k a1_0 a1_1 a1_2 a1_3).bind fun t445 => (L2_CongrTight.j0 k t445 a0_0 a0_1 a1_0 a1_1 a1_2 a1_3)) else (L2_CongrTight.j0 k t444 a0_0 a0_1 a1_0 a1_1 a1_2 a1_3))) else (none)) = some r := H
 have A3 := am A30
 clear A30
 by_cases c4 : t443 = true
 ·subst c4
  have H1 : ((R2_CongrError.f k a0_0 a0_1).bind fun t444 => (if t444 = 0 then ((R2_IntervalError.f k a1_0 a1_1 a1_2 a1_3).bind fun t445 => (L2_CongrTight.j0 k t445 a0_0 a0_1 a1_0 a1_1 a1_2 a1_3)) else (L2_CongrTight.j0 k t444 a0_0 a0_1 a1_0 a1_1 a1_2 a1_3))) = some r := by rw [if_pos rfl] at H; exact H
  clear H
  have H := H1
  clear H1
  replace H := Option.bind_eq_some_iff.mp H
  obtain ⟨t444, A50, H⟩ := H
  replace H : (if t444 = 0 then ((R2_IntervalError.f k a1_0 a1_1 a1_2 a1_3).bind fun t445 => (L2_CongrTight.j0 k t445 a0_0 a0_1 a1_0 a1_1 a1_2 a1_3)) else (L2_CongrTight.j0 k t444 a0_0 a0_1 a1_0 a1_1 a1_2 a1_3)) = some r := H
  have A5 := am A50
  clear A50
  have HC6 := am H
  clear H
  go_enter Tryd.func11, Tryd.ntmps11
  go_upto_if 18 with (first | ((with_reducible refine gate_dst (N := 2) rfl ?_); refine box_event ?hg (N := 2) ?hd (cs := #[.int .i64 a0_0, .int .i64 a0_1]) (t := 32) ?hr ?_; (case hd => rfl); (case hg => rfl); (case hr => first | (go_simp; done) | (go_simp; rfl)); intro gb441 hg w7 hbox hb; have n0_ := am (below_step pw hb); have n1_ := am (hbox); have n2_ := am ((by rw [hg]; exact (below_size pw) : w.heap.size ≤ gb441)); have n3_ := am ((by rw [hg]; exact (below_size pw) : w.heap.size ≤ gb441)); clear HB; have HB := n0_; have BK441 := n1_; have GW441 := n2_; have GE441 := n3_; clear n0_ n1_ n2_ n3_; clear hb hbox hg) | ((with_reducible refine gate_dst (N := 3) rfl ?_); refine box_event ?hg (N := 3) ?hd (cs := #[.bool a1_0, .bool a1_1, .int .i64 a1_2, .int .i64 a1_3]) (t := 23) ?hr ?_; (case hd => rfl); (case hg => rfl); (case hr => first | (go_simp; done) | (go_simp; rfl)); intro gb442 hg w8 hbox hb; have n0_ := bb BK441 hb; have n1_ := am (below_step pw hb); have n2_ := am (hbox); have n3_ := am ((by rw [hg]; exact (below_size pw) : w.heap.size ≤ gb442)); have n4_ := am ((by rw [hg]; exact (below_size pw) : w.heap.size ≤ gb442)); have n5_ := am ((by rw [hg]; exact Nat.ne_of_lt (blk_lt pk) : gb441 ≠ gb442)); have n6_ := am ((by rw [hg]; exact Nat.ne_of_gt (blk_lt pk) : gb442 ≠ gb441)); clear BK441; clear HB; have BK441 := n0_; have HB := n1_; have BK442 := n2_; have GW442 := n3_; have GE442 := n4_; have NB441_442 := n5_; have NB442_441 := n6_; clear n0_ n1_ n2_ n3_ n4_ n5_ n6_; clear hb hbox hg) | ((with_reducible refine gate_callee (f := 18) rfl ?_); refine goesL_ (some 12) rfl rfl Tryd.func18 kk rfl #[] rfl (by (try simp only [List.map_toArray, List.map_cons, List.map_nil]); first | done | rfl | (simp only [List.length_drop, List.length_take]; rfl)) ?_; (with_reducible refine (L2_sixth.calls k  true _ A3.out (am (ErrAt.below hE2.out pw)).out (am (ErrAt.below hE3.out pw)).out).mono ?_); rintro e w9 ⟨rfl, hb⟩; refine ⟨_, rfl, ?_⟩; have n0_ := bb BK441 hb; have n1_ := bb BK442 hb; have n2_ := am (below_step pw hb); clear BK441; clear BK442; clear HB; have BK441 := n0_; have BK442 := n1_; have HB := n2_; clear n0_ n1_ n2_; (try clear hb); (try clear hb2); (try clear hk); (try clear hi); have hnb10 := NB441_442.out; have hnc10 := NB442_441.out; have hcz11_0 : w9.cell? ⟨gb441, 0, none⟩ = some (.int .i64 a0_0) := bc BK441 0; have hcz11_1 : w9.cell? ⟨gb441, 1, none⟩ = some (.int .i64 a0_1) := bc BK441 1; have hfz11_0 := blk_frozen BK441.out 0; have hfz11_1 := blk_frozen BK441.out 1) | ((with_reducible refine gate_callee (f := 28) rfl ?_); refine goesL_ (some 16) rfl rfl Tryd.func28 kk rfl #[.agg #[.int .i64 a0_0, .int .i64 a0_1]] rfl (by (try simp only [List.map_toArray, List.map_cons, List.map_nil]); first | done | rfl | (simp only [List.length_drop, List.length_take]; rfl)) ?_; (with_reducible refine (R2_CongrError.calls k a0_0 a0_1 t444 _ A5.out).mono ?_); rintro e w12 ⟨rfl, hb⟩; refine ⟨_, rfl, ?_⟩; have n0_ := bb BK441 hb; have n1_ := bb BK442 hb; have n2_ := am (below_step pw hb); clear BK441; clear BK442; clear HB; have BK441 := n0_; have BK442 := n1_; have HB := n2_; clear n0_ n1_ n2_; (try clear hb); (try clear hb2); (try clear hk); (try clear hi)))
  (try simp only [Act.put, List.setIfInBounds_toArray, List.set_cons_zero, List.set_cons_succ])
  go_cut [6] (fun v6 wc => ∃ (kq : Nat) (x6_5 : Int), v6 = .int .i64 x6_5 ∧ Aside0 (L2_CongrTight.j0 kq x6_5 a0_0 a0_1 a1_0 a1_1 a1_2 a1_3 = some r) ∧ Aside0 (kq ≤ k) ∧ Aside0 (wc.heap[gb441]? = some (.cells #[.int .i64 a0_0, .int .i64 a0_1] 32 (0, 0))) ∧ Aside0 (wc.heap[gb442]? = some (.cells #[.bool a1_0, .bool a1_1, .int .i64 a1_2, .int .i64 a1_3] 23 (0, 0))) ∧ Aside0 (Below w.heap.size w wc))
  case first =>
   have H := HC6.out
   clear HC6
   by_cases c13 : t444 = 0
   ·rw [if_pos c13] at H
    have c13b0 : (t444 == 0) = true := beq_iff_eq.mpr c13
    have c13b1 : (t444 != 0) = false := bne_eq_false_iff_eq.mpr c13
    clear c13
    (first | rw [c13b0] | (simp only [i64_w, i32_w]; rw [c13b0]) | skip)
    replace H := Option.bind_eq_some_iff.mp H
    obtain ⟨t445, A140, H⟩ := H
    replace H : (L2_CongrTight.j0 k t445 a0_0 a0_1 a1_0 a1_1 a1_2 a1_3) = some r := H
    have A14 := am A140
    clear A140
    have H' := am H
    clear H
    have hnb15 := NB442_441.out
    have hnc15 := NB441_442.out
    have hcz16_0 : w12.cell? ⟨gb442, 0, none⟩ = some (.bool a1_0) := bc BK442 0
    have hcz16_1 : w12.cell? ⟨gb442, 1, none⟩ = some (.bool a1_1) := bc BK442 1
    have hcz16_2 : w12.cell? ⟨gb442, 2, none⟩ = some (.int .i64 a1_2) := bc BK442 2
    have hcz16_3 : w12.cell? ⟨gb442, 3, none⟩ = some (.int .i64 a1_3) := bc BK442 3
    have hfz16_0 := blk_frozen BK442.out 0
    have hfz16_1 := blk_frozen BK442.out 1
    have hfz16_2 := blk_frozen BK442.out 2
    have hfz16_3 := blk_frozen BK442.out 3
    go_wp2_with (first | ((with_reducible refine gate_callee (f := 13) rfl ?_); refine goesL_ (some 20) rfl rfl Tryd.func13 kk rfl #[.agg #[.bool a1_0, .bool a1_1, .int .i64 a1_2, .int .i64 a1_3]] rfl (by (try simp only [List.map_toArray, List.map_cons, List.map_nil]); first | done | rfl | (simp only [List.length_drop, List.length_take]; rfl)) ?_; (with_reducible refine (R2_IntervalError.calls k a1_0 a1_1 a1_2 a1_3 t445 _ A14.out).mono ?_); rintro e w17 ⟨rfl, hb⟩; refine ⟨_, rfl, ?_⟩; have n0_ := bb BK441 hb; have n1_ := bb BK442 hb; have n2_ := am (below_step pw hb); clear BK441; clear BK442; clear HB; have BK441 := n0_; have BK442 := n1_; have HB := n2_; clear n0_ n1_ n2_; (try clear hb); (try clear hb2); (try clear hk); (try clear hi)))
    go_meet
    case rel => exact ⟨_, (t445), pr, H', ⟨by first | omega | exact Nat.le_refl _⟩, ⟨by (with_reducible repeat (first | refine blk_drewN ?_ _ | refine blk_drew ?_ | refine blk_alloc ?_ _)); exact BK441.out⟩, ⟨by (with_reducible repeat (first | refine blk_drewN ?_ _ | refine blk_drew ?_ | refine blk_alloc ?_ _)); exact BK442.out⟩, ⟨pw⟩⟩
   rw [if_neg c13] at H
   have c13b0 : (t444 == 0) = false := beq_eq_false_iff_ne.mpr c13
   have c13b1 : (t444 != 0) = true := bne_iff_ne.mpr c13
   (first | rw [c13b0] | (simp only [i64_w, i32_w]; rw [c13b0]) | skip)
   have H' := am H
   clear H
   go_wp2
   go_meet
   case rel => exact ⟨_, (t444), pr, H', ⟨by first | omega | exact Nat.le_refl _⟩, ⟨by (with_reducible repeat (first | refine blk_drewN ?_ _ | refine blk_drew ?_ | refine blk_alloc ?_ _)); exact BK441.out⟩, ⟨by (with_reducible repeat (first | refine blk_drewN ?_ _ | refine blk_drew ?_ | refine blk_alloc ?_ _)); exact BK442.out⟩, ⟨pw⟩⟩
  clear HC6
  try clear c1
  try clear c2
  try clear p2
  try clear c4
  try clear c10
  try clear c11
  try clear c13
  try clear c13b0
  try clear c13b1
  try clear c15
  try clear hcz11_0
  try clear hcz11_1
  try clear hcz16_0
  try clear hcz16_1
  try clear hcz16_2
  try clear hcz16_3
  try clear hfz11_0
  try clear hfz11_1
  try clear hfz16_0
  try clear hfz16_1
  try clear hfz16_2
  try clear hfz16_3
  obtain ⟨kq, x6_5, rfl, HA, HJ5, BK441, BK442, HB⟩ := hcut
  cases kq with
  | zero => exact absurd HA.out (by simp [L2_CongrTight.j0])
  | succ kj5 =>
   have H := HA.out
   clear HA
   simp only [L2_CongrTight.j0] at H
   replace H := Option.bind_eq_some_iff.mp H
   obtain ⟨⟨t446, t447⟩, A180, H⟩ := H
   replace H : ((congr_Tight.f kj5 t446 t447 a1_0 a1_1 a1_2 a1_3).bind fun bt448 => (if x6_5 > 0 then ((L2_isSpan.f bt448.1 bt448.2.1 bt448.2.2.1 bt448.2.2.2.1 bt448.2.2.2.2.2 bt448.1 bt448.2.1 bt448.2.2.1 bt448.2.2.2.1 x6_5).bind fun t455 => (if t455 = true then (some (!bt448.2.2.2.2.1)) else (none))) else ((R2_Far.f a1_2 1073741824).bind fun t456 => (if t456 = true then (L2_CongrTight.j1 kj5 bt448.2.2.2.2.1 bt448.2.2.2.2.2 true a0_0 a0_1 a1_0 a1_1 a1_2 a1_3 bt448.1 bt448.2.1 bt448.2.2.1 bt448.2.2.2.1) else ((R2_Far.f a1_3 1073741824).bind fun t457 => (if t457 = true then (L2_CongrTight.j1 kj5 bt448.2.2.2.2.1 bt448.2.2.2.2.2 true a0_0 a0_1 a1_0 a1_1 a1_2 a1_3 bt448.1 bt448.2.1 bt448.2.2.1 bt448.2.2.2.1) else (if a0_1 > 5000 then (L2_CongrTight.j1 kj5 bt448.2.2.2.2.1 bt448.2.2.2.2.2 true a0_0 a0_1 a1_0 a1_1 a1_2 a1_3 bt448.1 bt448.2.1 bt448.2.2.1 bt448.2.2.2.1) else ((R2_Far.f a0_0 1073741824).bind fun t458 => (L2_CongrTight.j1 kj5 bt448.2.2.2.2.1 bt448.2.2.2.2.2 t458 a0_0 a0_1 a1_0 a1_1 a1_2 a1_3 bt448.1 bt448.2.1 bt448.2.2.1 bt448.2.2.2.1))))))))) = some r := H
   have A18 := am A180
   clear A180
   replace H := Option.bind_eq_some_iff.mp H
   obtain ⟨⟨t448, t449, t450, t451, t452, t453⟩, A190, H⟩ := H
   replace H : (if x6_5 > 0 then ((L2_isSpan.f t448 t449 t450 t451 t453 t448 t449 t450 t451 x6_5).bind fun t455 => (if t455 = true then (some (!t452)) else (none))) else ((R2_Far.f a1_2 1073741824).bind fun t456 => (if t456 = true then (L2_CongrTight.j1 kj5 t452 t453 true a0_0 a0_1 a1_0 a1_1 a1_2 a1_3 t448 t449 t450 t451) else ((R2_Far.f a1_3 1073741824).bind fun t457 => (if t457 = true then (L2_CongrTight.j1 kj5 t452 t453 true a0_0 a0_1 a1_0 a1_1 a1_2 a1_3 t448 t449 t450 t451) else (if a0_1 > 5000 then (L2_CongrTight.j1 kj5 t452 t453 true a0_0 a0_1 a1_0 a1_1 a1_2 a1_3 t448 t449 t450 t451) else ((R2_Far.f a0_0 1073741824).bind fun t458 => (L2_CongrTight.j1 kj5 t452 t453 t458 a0_0 a0_1 a1_0 a1_1 a1_2 a1_3 t448 t449 t450 t451)))))))) = some r := H
   have A19 := am A190
   clear A190
   by_cases c20 : x6_5 > 0
   ·rw [if_pos c20] at H
    have c20b0 : decide (0 < x6_5) = true := decide_eq_true c20
    clear c20
    replace H := Option.bind_eq_some_iff.mp H
    obtain ⟨t455, A210, H⟩ := H
    replace H : (if t455 = true then (some (!t452)) else (none)) = some r := H
    have A21 := am A210
    clear A210
    by_cases c22 : t455 = true
    ·subst c22
     have H1 : (some (!t452)) = some r := by rw [if_pos rfl] at H; exact H
     clear H
     have H := H1
     clear H1
     obtain rfl := Option.some.inj H
     try go_wp2
     have n0_ := am (blk_drew BK441.out)
     have n1_ := am (blk_drew BK442.out)
     have n2_ := am (below_drew1 HB.out)
     clear BK441 BK442 HB
     revert n0_ n1_ n2_
     intro BK441 BK442 HB
     refine start_ (n := 12) (S := fun w' => True) (ds := []) #[false, false, false, false, false, false, false, false, false, false, false, false] kk rfl rfl trivial (fun hHeld => ?_); refine with_tabW L2_CongrTight.tab7 L2_CongrTight.bits7 (fun HT_ HW_ => ?_)
     generalize wc.drew = w23 at BK441 BK442 HB hHeld ⊢
     refine inv_at [0, 1, 2, 3, 4, 5, 6, 7, 8, 9, 10, 11] (fun a0_ b a w' => ∃ (gb454 : Nat) (m8_ : Value), a = putSel a0_ b [(0, 22, .agg #[.int .i64 a0_0, .int .i64 a0_1]), (1, 23, .agg #[.int .i64 t446, .int .i64 t447]), (2, 24, .agg #[.bool a1_0, .bool a1_1, .int .i64 a1_2, .int .i64 a1_3]), (3, 25, .tuple #[.agg #[.bool t448, .bool t449, .int .i64 t450, .int .i64 t451], .bool t452, errW t453]), (4, 21, .tuple #[.agg #[.bool t448, .bool t449, .int .i64 t450, .int .i64 t451], .bool t452, errW t453]), (5, 26, .agg #[.bool t448, .bool t449, .int .i64 t450, .int .i64 t451]), (6, 27, .bool t452), (7, 28, errW t453), (8, 7, m8_), (10, 8, .bool t452), (11, 9, errW t453)] ∧ (w'.heap[gb441]? = some (.cells #[.int .i64 a0_0, .int .i64 a0_1] 32 (0, 0))) ∧ (w'.heap[gb442]? = some (.cells #[.bool a1_0, .bool a1_1, .int .i64 a1_2, .int .i64 a1_3] 23 (0, 0))) ∧ (Below w.heap.size w w') ∧ (b 8 = true → b 9 = false → w'.heap[gb454]? = some (.cells #[.bool false, .bool false, .int .i64 0, .int .i64 0] 23 (0, 0))) ∧ (b 8 = true → w.heap.size ≤ gb454) ∧ (b 8 = true → w.heap.size ≤ gb454) ∧ (b 8 = true → gb441 ≠ gb454) ∧ (b 8 = true → gb454 ≠ gb441) ∧ (b 8 = true → gb442 ≠ gb454) ∧ (b 8 = true → gb454 ≠ gb442) ∧ (b 9 = true → w'.heap[gb454]? = some (.cells #[.bool t448, .bool t449, .int .i64 t450, .int .i64 t451] 23 (0, 0))) ∧ (b 8 = true → (m8_ : Value) = .pointer (some ⟨gb454, 0, none⟩))) HT_.out HW_.out kk kk ?_ ?_ ?_
     ·exact ⟨0, .bool false, by simp only [putSel, Bool.false_eq_true, if_false], BK441.out, BK442.out, HB.out, fun h_ => absurd h_ (by decide), fun h_ => absurd h_ (by decide), fun h_ => absurd h_ (by decide), fun h_ => absurd h_ (by decide), fun h_ => absurd h_ (by decide), fun h_ => absurd h_ (by decide), fun h_ => absurd h_ (by decide), fun h_ => absurd h_ (by decide), fun h_ => absurd h_ (by decide)⟩
     ·skip
      clear BK441 BK442 HB
      refine steps_cons ?_ ?_
      ·rintro b a w' ⟨gb454, m8_, ha, qB441, qB442, qHB, qB454, qW454, qE454, q441_454, q454_441, q442_454, q454_442, qB454_e9, Q_X8_⟩ hb_ hon hoff
       refine ⟨_, rfl, fun K hK => ?_⟩
       have e2 : a.tmps[2]? = some (.pointer (some ⟨gb441, 0, none⟩)) := by rw [ha]; exact (putSel_off rfl).trans rfl
       replace ha := am ha
       have BK441 := am qB441
       have BK442 := am qB442
       have HB := am qHB
       have hc0_ : w'.cell? ⟨gb441, 0, none⟩ = some (.int .i64 a0_0) := bc BK441 0
       have hc1_ : w'.cell? ⟨gb441, 1, none⟩ = some (.int .i64 a0_1) := bc BK441 1
       refine value_ (w1 := w') (v := .agg #[.int .i64 a0_0, .int .i64 a0_1]) (by rfl) rfl ?_ ?_
       ·go_simp
        (try simp only [i64_w])
        try rfl
       refine hK.out _ _ ⟨gb454, m8_, (by rw [ha.out]; exact putSel_upk 0 hb_ rfl rfl rfl), qB441, qB442, qHB, qB454, qW454, qE454, q441_454, q454_441, q442_454, q454_442, fun h0_ => absurd ((hoff 9 kk).symm.trans h0_) (by decide), Q_X8_⟩
      refine steps_cons ?_ ?_
      ·rintro b a w' ⟨gb454, m8_, ha, qB441, qB442, qHB, qB454, qW454, qE454, q441_454, q454_441, q442_454, q454_442, qB454_e9, Q_X8_⟩ hb_ hon hoff
       refine ⟨_, rfl, fun K hK => ?_⟩
       have e22 : a.tmps[22]? = some (.agg #[.int .i64 a0_0, .int .i64 a0_1]) := by rw [ha]; exact putSel_on (e := (0, 22, .agg #[.int .i64 a0_0, .int .i64 a0_1])) 0 rfl rfl (hon 0 kk) rfl
       replace ha := am ha
       have BK441 := am qB441
       have BK442 := am qB442
       have HB := am qHB
       refine goes_ Tryd.func21 kk rfl #[.agg #[.int .i64 a0_0, .int .i64 a0_1]] (by rfl) rfl rfl (by first | (simp only [List.map_toArray, List.map_cons, List.map_nil, Act.eval, Array.getD_eq_getD_getElem?, Option.getD_some, e22]; done) | (simp only [List.map_toArray, List.map_cons, List.map_nil, Act.eval, Array.getD_eq_getD_getElem?, Option.getD_some, e22]; rfl)) ?_
       with_reducible refine (L2_own.calls a0_0 a0_1 t446 t447 _ A18.out).mono ?_
       rintro e w24 ⟨rfl, hb⟩
       refine ⟨_, rfl, ?_⟩
       have n0_ := bb BK441 hb
       have n1_ := bb BK442 hb
       have n2_ := am (below_step pw hb)
       have z_BK454 := fun (h0_ : b 8 = true) (h1_ : b 9 = false) => (show w24.heap[gb454]? = some (.cells #[.bool false, .bool false, .int .i64 0, .int .i64 0] 23 (0, 0)) from by first | exact (blk_below (g := gb454) (o := .cells #[.bool false, .bool false, .int .i64 0, .int .i64 0] 23 (0, 0)) (by (with_reducible repeat (first | refine blk_drewN ?_ _ | refine blk_drew ?_ | refine blk_alloc ?_ _)); exact (qB454 h0_ h1_)) hb))
       clear BK441 BK442 HB
       revert n0_ n1_ n2_
       intro BK441 BK442 HB
       (try clear hb)
       (try clear hb2)
       (try clear hk)
       (try clear hi)
       refine hK.out _ _ ⟨gb454, m8_, (by rw [ha.out]; exact putSel_upk 1 hb_ rfl rfl rfl), pk, pk, pw, z_BK454, qW454, qE454, q441_454, q454_441, q442_454, q454_442, fun h0_ => absurd ((hoff 9 kk).symm.trans h0_) (by decide), Q_X8_⟩
      refine steps_cons ?_ ?_
      ·rintro b a w' ⟨gb454, m8_, ha, qB441, qB442, qHB, qB454, qW454, qE454, q441_454, q454_441, q442_454, q454_442, qB454_e9, Q_X8_⟩ hb_ hon hoff
       refine ⟨_, rfl, fun K hK => ?_⟩
       have e3 : a.tmps[3]? = some (.pointer (some ⟨gb442, 0, none⟩)) := by rw [ha]; exact (putSel_off rfl).trans rfl
       replace ha := am ha
       have BK441 := am qB441
       have BK442 := am qB442
       have HB := am qHB
       have hc0_ : w'.cell? ⟨gb442, 0, none⟩ = some (.bool a1_0) := bc BK442 0
       have hc1_ : w'.cell? ⟨gb442, 1, none⟩ = some (.bool a1_1) := bc BK442 1
       have hc2_ : w'.cell? ⟨gb442, 2, none⟩ = some (.int .i64 a1_2) := bc BK442 2
       have hc3_ : w'.cell? ⟨gb442, 3, none⟩ = some (.int .i64 a1_3) := bc BK442 3
       refine value_ (w1 := w') (v := .agg #[.bool a1_0, .bool a1_1, .int .i64 a1_2, .int .i64 a1_3]) (by rfl) rfl ?_ ?_
       ·go_simp
        (try simp only [i64_w])
        try rfl
       refine hK.out _ _ ⟨gb454, m8_, (by rw [ha.out]; exact putSel_upk 2 hb_ rfl rfl rfl), qB441, qB442, qHB, qB454, qW454, qE454, q441_454, q454_441, q442_454, q454_442, fun h0_ => absurd ((hoff 9 kk).symm.trans h0_) (by decide), Q_X8_⟩
      refine steps_cons ?_ ?_
      ·rintro b a w' ⟨gb454, m8_, ha, qB441, qB442, qHB, qB454, qW454, qE454, q441_454, q454_441, q442_454, q454_442, qB454_e9, Q_X8_⟩ hb_ hon hoff
       refine ⟨_, rfl, fun K hK => ?_⟩
       have e23 : a.tmps[23]? = some (.agg #[.int .i64 t446, .int .i64 t447]) := by rw [ha]; exact putSel_on (e := (1, 23, .agg #[.int .i64 t446, .int .i64 t447])) 1 rfl rfl (hon 1 kk) rfl
       have e24 : a.tmps[24]? = some (.agg #[.bool a1_0, .bool a1_1, .int .i64 a1_2, .int .i64 a1_3]) := by rw [ha]; exact putSel_on (e := (2, 24, .agg #[.bool a1_0, .bool a1_1, .int .i64 a1_2, .int .i64 a1_3])) 2 rfl rfl (hon 2 kk) rfl
       replace ha := am ha
       have BK441 := am qB441
       have BK442 := am qB442
       have HB := am qHB
       refine goes_ Tryd.func52 kk rfl #[.agg #[.int .i64 t446, .int .i64 t447], .agg #[.bool a1_0, .bool a1_1, .int .i64 a1_2, .int .i64 a1_3]] (by rfl) rfl rfl (by first | (simp only [List.map_toArray, List.map_cons, List.map_nil, Act.eval, Array.getD_eq_getD_getElem?, Option.getD_some, e23, e24]; done) | (simp only [List.map_toArray, List.map_cons, List.map_nil, Act.eval, Array.getD_eq_getD_getElem?, Option.getD_some, e23, e24]; rfl)) ?_
       with_reducible refine (congr_Tight.calls kj5 t446 t447 a1_0 a1_1 a1_2 a1_3 t448 t449 t450 t451 t452 t453 _ A19.out (am (ErrAt.below hE2.out pw)).out (am (ErrAt.below hE3.out pw)).out).mono ?_
       rintro e w26 ⟨rfl, hb⟩
       refine ⟨_, rfl, ?_⟩
       have n0_ := bb BK441 hb
       have n1_ := bb BK442 hb
       have n2_ := am (below_step pw hb)
       have z_BK454 := fun (h0_ : b 8 = true) (h1_ : b 9 = false) => (show w26.heap[gb454]? = some (.cells #[.bool false, .bool false, .int .i64 0, .int .i64 0] 23 (0, 0)) from by first | exact (blk_below (g := gb454) (o := .cells #[.bool false, .bool false, .int .i64 0, .int .i64 0] 23 (0, 0)) (by (with_reducible repeat (first | refine blk_drewN ?_ _ | refine blk_drew ?_ | refine blk_alloc ?_ _)); exact (qB454 h0_ h1_)) hb))
       clear BK441 BK442 HB
       revert n0_ n1_ n2_
       intro BK441 BK442 HB
       (try clear hb)
       (try clear hb2)
       (try clear hk)
       (try clear hi)
       (try simp only [errW_none, errW_some])
       refine hK.out _ _ ⟨gb454, m8_, (by rw [ha.out]; exact putSel_upk 3 hb_ rfl rfl rfl), pk, pk, pw, z_BK454, qW454, qE454, q441_454, q454_441, q442_454, q454_442, fun h0_ => absurd ((hoff 9 kk).symm.trans h0_) (by decide), Q_X8_⟩
      refine steps_cons ?_ ?_
      ·rintro b a w' ⟨gb454, m8_, ha, qB441, qB442, qHB, qB454, qW454, qE454, q441_454, q454_441, q442_454, q454_442, qB454_e9, Q_X8_⟩ hb_ hon hoff
       refine ⟨_, rfl, fun K hK => ?_⟩
       have e25 : a.tmps[25]? = some (.tuple #[.agg #[.bool t448, .bool t449, .int .i64 t450, .int .i64 t451], .bool t452, errW t453]) := by rw [ha]; exact putSel_on (e := (3, 25, .tuple #[.agg #[.bool t448, .bool t449, .int .i64 t450, .int .i64 t451], .bool t452, errW t453])) 3 rfl rfl (hon 3 kk) rfl
       replace ha := am ha
       have BK441 := am qB441
       have BK442 := am qB442
       have HB := am qHB
       refine value_ (w1 := w') (v := .tuple #[.agg #[.bool t448, .bool t449, .int .i64 t450, .int .i64 t451], .bool t452, errW t453]) (by rfl) rfl ?_ ?_
       ·go_simp
        (try simp only [i64_w])
        try rfl
       refine hK.out _ _ ⟨gb454, m8_, (by rw [ha.out]; exact putSel_upk 4 hb_ rfl rfl rfl), qB441, qB442, qHB, qB454, qW454, qE454, q441_454, q454_441, q442_454, q454_442, fun h0_ => absurd ((hoff 9 kk).symm.trans h0_) (by decide), Q_X8_⟩
      refine steps_cons ?_ ?_
      ·rintro b a w' ⟨gb454, m8_, ha, qB441, qB442, qHB, qB454, qW454, qE454, q441_454, q454_441, q442_454, q454_442, qB454_e9, Q_X8_⟩ hb_ hon hoff
       refine ⟨_, rfl, fun K hK => ?_⟩
       have e21 : a.tmps[21]? = some (.tuple #[.agg #[.bool t448, .bool t449, .int .i64 t450, .int .i64 t451], .bool t452, errW t453]) := by rw [ha]; exact putSel_on (e := (4, 21, .tuple #[.agg #[.bool t448, .bool t449, .int .i64 t450, .int .i64 t451], .bool t452, errW t453])) 4 rfl rfl (hon 4 kk) rfl
       replace ha := am ha
       have BK441 := am qB441
       have BK442 := am qB442
       have HB := am qHB
       refine value_ (w1 := w') (v := .agg #[.bool t448, .bool t449, .int .i64 t450, .int .i64 t451]) (by rfl) rfl ?_ ?_
       ·go_simp
        (try simp only [i64_w])
        try rfl
       refine hK.out _ _ ⟨gb454, m8_, (by rw [ha.out]; exact putSel_upk 5 hb_ rfl rfl rfl), qB441, qB442, qHB, qB454, qW454, qE454, q441_454, q454_441, q442_454, q454_442, fun h0_ => absurd ((hoff 9 kk).symm.trans h0_) (by decide), Q_X8_⟩
      refine steps_cons ?_ ?_
      ·rintro b a w' ⟨gb454, m8_, ha, qB441, qB442, qHB, qB454, qW454, qE454, q441_454, q454_441, q442_454, q454_442, qB454_e9, Q_X8_⟩ hb_ hon hoff
       refine ⟨_, rfl, fun K hK => ?_⟩
       have e21 : a.tmps[21]? = some (.tuple #[.agg #[.bool t448, .bool t449, .int .i64 t450, .int .i64 t451], .bool t452, errW t453]) := by rw [ha]; exact putSel_on (e := (4, 21, .tuple #[.agg #[.bool t448, .bool t449, .int .i64 t450, .int .i64 t451], .bool t452, errW t453])) 4 rfl rfl (hon 4 kk) rfl
       replace ha := am ha
       have BK441 := am qB441
       have BK442 := am qB442
       have HB := am qHB
       refine value_ (w1 := w') (v := .bool t452) (by rfl) rfl ?_ ?_
       ·go_simp
        (try simp only [i64_w])
        try rfl
       refine hK.out _ _ ⟨gb454, m8_, (by rw [ha.out]; exact putSel_upk 6 hb_ rfl rfl rfl), qB441, qB442, qHB, qB454, qW454, qE454, q441_454, q454_441, q442_454, q454_442, qB454_e9, Q_X8_⟩
      refine steps_cons ?_ ?_
      ·rintro b a w' ⟨gb454, m8_, ha, qB441, qB442, qHB, qB454, qW454, qE454, q441_454, q454_441, q442_454, q454_442, qB454_e9, Q_X8_⟩ hb_ hon hoff
       refine ⟨_, rfl, fun K hK => ?_⟩
       have e21 : a.tmps[21]? = some (.tuple #[.agg #[.bool t448, .bool t449, .int .i64 t450, .int .i64 t451], .bool t452, errW t453]) := by rw [ha]; exact putSel_on (e := (4, 21, .tuple #[.agg #[.bool t448, .bool t449, .int .i64 t450, .int .i64 t451], .bool t452, errW t453])) 4 rfl rfl (hon 4 kk) rfl
       replace ha := am ha
       have BK441 := am qB441
       have BK442 := am qB442
       have HB := am qHB
       refine value_ (w1 := w') (v := errW t453) (by rfl) rfl ?_ ?_
       ·go_simp
        (try simp only [i64_w])
        try rfl
       refine hK.out _ _ ⟨gb454, m8_, (by rw [ha.out]; exact putSel_upk 7 hb_ rfl rfl rfl), qB441, qB442, qHB, qB454, qW454, qE454, q441_454, q454_441, q442_454, q454_442, qB454_e9, Q_X8_⟩
      refine steps_cons ?_ ?_
      ·rintro b a w' ⟨gb454, m8_, ha, qB441, qB442, qHB, qB454, qW454, qE454, q441_454, q454_441, q442_454, q454_442, qB454_e9, Q_X8_⟩ hb_ hon hoff
       refine ⟨_, rfl, fun K hK => ?_⟩
       replace ha := am ha
       have BK441 := am qB441
       have BK442 := am qB442
       have HB := am qHB
       refine box_step ?hg (N := 7) ?hd (cs := #[.bool false, .bool false, .int .i64 0, .int .i64 0]) (t := 23) ?hr ?_; (case hd => rfl); (case hg => rfl); (case hr => first | (go_simp; done) | (go_simp; rfl))
       intro gb454 hg w24 hbox hb
       have n0_ := bb BK441 hb
       have n1_ := bb BK442 hb
       have n2_ := am (below_step pw hb)
       have n3_ := am (hbox)
       have n4_ := am ((by rw [hg]; exact (below_size pw) : w.heap.size ≤ gb454))
       have n5_ := am ((by rw [hg]; exact (below_size pw) : w.heap.size ≤ gb454))
       have n6_ := am ((by rw [hg]; exact Nat.ne_of_lt (blk_lt pk) : gb441 ≠ gb454))
       have n7_ := am ((by rw [hg]; exact Nat.ne_of_gt (blk_lt pk) : gb454 ≠ gb441))
       have n8_ := am ((by rw [hg]; exact Nat.ne_of_lt (blk_lt pk) : gb442 ≠ gb454))
       have n9_ := am ((by rw [hg]; exact Nat.ne_of_gt (blk_lt pk) : gb454 ≠ gb442))
       clear BK441 BK442 HB
       revert n0_ n1_ n2_ n3_ n4_ n5_ n6_ n7_ n8_ n9_
       intro BK441 BK442 HB BK454 GW454 GE454 NB441_454 NB454_441 NB442_454 NB454_442
       clear hb hbox hg
       refine hK.out _ _ ⟨gb454, (.pointer (some ⟨gb454, 0, none⟩)), (by rw [ha.out]; exact putSel_upk 8 hb_ rfl rfl rfl), pk, pk, pw, fun _ _ => pk, fun _ => GW454.out, fun _ => GE454.out, fun _ => NB441_454.out, fun _ => NB454_441.out, fun _ => NB442_454.out, fun _ => NB454_442.out, fun h0_ => absurd ((hoff 9 kk).symm.trans h0_) (by decide), fun _ => rfl⟩
      refine steps_cons ?_ ?_
      ·rintro b a w' ⟨gb454, m8_, ha, qB441, qB442, qHB, qB454, qW454, qE454, q441_454, q454_441, q442_454, q454_442, qB454_e9, Q_X8_⟩ hb_ hon hoff
       refine ⟨_, rfl, fun K hK => ?_⟩
       have e7 : a.tmps[7]? = some (m8_) := by rw [ha]; exact putSel_on (e := (8, 7, m8_)) 8 rfl rfl (hon 8 kk) rfl
       rw [Q_X8_ (hon 8 kk)] at e7
       have e26 : a.tmps[26]? = some (.agg #[.bool t448, .bool t449, .int .i64 t450, .int .i64 t451]) := by rw [ha]; exact putSel_on (e := (5, 26, .agg #[.bool t448, .bool t449, .int .i64 t450, .int .i64 t451])) 5 rfl rfl (hon 5 kk) rfl
       replace ha := am ha
       have BK441 := am qB441
       have BK442 := am qB442
       have HB := am qHB
       have BK454 := am (qB454 (hon 8 kk) hb_)
       have GW454 := am (qW454 (hon 8 kk))
       have GE454 := am (qE454 (hon 8 kk))
       have NB441_454 := am (q441_454 (hon 8 kk))
       have NB454_441 := am (q454_441 (hon 8 kk))
       have NB442_454 := am (q442_454 (hon 8 kk))
       have NB454_442 := am (q454_442 (hon 8 kk))
       have hs28 : w'.cell? ⟨gb454, 0, none⟩ = some (.bool false) := bc BK454 0
       have hfs28 := blk_frozen BK454.out 0
       have hns28_0 := NB441_454.out
       have hns28_1 := NB442_454.out
       have hms28_0 := NB454_441.out
       have hms28_1 := NB454_442.out
       have hs29 : w'.cell? ⟨gb454, 1, none⟩ = some (.bool false) := bc BK454 1
       have hfs29 := blk_frozen BK454.out 1
       have hns29_0 := NB441_454.out
       have hns29_1 := NB442_454.out
       have hms29_0 := NB454_441.out
       have hms29_1 := NB454_442.out
       have hs30 : w'.cell? ⟨gb454, 2, none⟩ = some (.int .i64 0) := bc BK454 2
       have hfs30 := blk_frozen BK454.out 2
       have hns30_0 := NB441_454.out
       have hns30_1 := NB442_454.out
       have hms30_0 := NB454_441.out
       have hms30_1 := NB454_442.out
       have hs31 : w'.cell? ⟨gb454, 3, none⟩ = some (.int .i64 0) := bc BK454 3
       have hfs31 := blk_frozen BK454.out 3
       have hns31_0 := NB441_454.out
       have hns31_1 := NB442_454.out
       have hms31_0 := NB454_441.out
       have hms31_1 := NB454_442.out
       refine skip_ (w1 := ?_) (by rfl) rfl ?_ ?_
       rotate_left
       ·go_simp
        rfl
       refine hK.out _ _ ⟨gb454, m8_, (by rw [ha.out]; exact putSel_none (v := undef) rfl), (by (with_reducible repeat (first | refine blk_drewN ?_ _ | refine blk_drew ?_ | refine blk_alloc ?_ _)); refine blk_far ?_ NB441_454.out _; (with_reducible repeat (first | refine blk_drewN ?_ _ | refine blk_drew ?_ | refine blk_alloc ?_ _)); refine blk_far ?_ NB441_454.out _; (with_reducible repeat (first | refine blk_drewN ?_ _ | refine blk_drew ?_ | refine blk_alloc ?_ _)); refine blk_far ?_ NB441_454.out _; (with_reducible repeat (first | refine blk_drewN ?_ _ | refine blk_drew ?_ | refine blk_alloc ?_ _)); refine blk_far ?_ NB441_454.out _; (with_reducible repeat (first | refine blk_drewN ?_ _ | refine blk_drew ?_ | refine blk_alloc ?_ _)); exact BK441.out), (by (with_reducible repeat (first | refine blk_drewN ?_ _ | refine blk_drew ?_ | refine blk_alloc ?_ _)); refine blk_far ?_ NB442_454.out _; (with_reducible repeat (first | refine blk_drewN ?_ _ | refine blk_drew ?_ | refine blk_alloc ?_ _)); refine blk_far ?_ NB442_454.out _; (with_reducible repeat (first | refine blk_drewN ?_ _ | refine blk_drew ?_ | refine blk_alloc ?_ _)); refine blk_far ?_ NB442_454.out _; (with_reducible repeat (first | refine blk_drewN ?_ _ | refine blk_drew ?_ | refine blk_alloc ?_ _)); refine blk_far ?_ NB442_454.out _; (with_reducible repeat (first | refine blk_drewN ?_ _ | refine blk_drew ?_ | refine blk_alloc ?_ _)); exact BK442.out), pw, fun _ h1_ => absurd ((up_self b 9).symm.trans h1_) (by decide), fun _ => GW454.out, fun _ => GE454.out, fun _ => NB441_454.out, fun _ => NB454_441.out, fun _ => NB442_454.out, fun _ => NB454_442.out, fun _ => (by (with_reducible repeat (first | refine blk_drewN ?_ _ | refine blk_drew ?_ | refine blk_alloc ?_ _)); refine blk_put (cs := #[.bool t448, .bool t449, .int .i64 t450, .int .i64 0]) ?_ 3 _ rfl; (with_reducible repeat (first | refine blk_drewN ?_ _ | refine blk_drew ?_ | refine blk_alloc ?_ _)); refine blk_put (cs := #[.bool t448, .bool t449, .int .i64 0, .int .i64 0]) ?_ 2 _ rfl; (with_reducible repeat (first | refine blk_drewN ?_ _ | refine blk_drew ?_ | refine blk_alloc ?_ _)); refine blk_put (cs := #[.bool t448, .bool false, .int .i64 0, .int .i64 0]) ?_ 1 _ rfl; (with_reducible repeat (first | refine blk_drewN ?_ _ | refine blk_drew ?_ | refine blk_alloc ?_ _)); refine blk_put (cs := #[.bool false, .bool false, .int .i64 0, .int .i64 0]) ?_ 0 _ rfl; (with_reducible repeat (first | refine blk_drewN ?_ _ | refine blk_drew ?_ | refine blk_alloc ?_ _)); exact BK454.out), Q_X8_⟩
      refine steps_cons ?_ ?_
      ·rintro b a w' ⟨gb454, m8_, ha, qB441, qB442, qHB, qB454, qW454, qE454, q441_454, q454_441, q442_454, q454_442, qB454_e9, Q_X8_⟩ hb_ hon hoff
       refine ⟨_, rfl, fun K hK => ?_⟩
       have e27 : a.tmps[27]? = some (.bool t452) := by rw [ha]; exact putSel_on (e := (6, 27, .bool t452)) 6 rfl rfl (hon 6 kk) rfl
       replace ha := am ha
       have BK441 := am qB441
       have BK442 := am qB442
       have HB := am qHB
       have GW454 := am (qW454 (hon 8 kk))
       have GE454 := am (qE454 (hon 8 kk))
       have NB441_454 := am (q441_454 (hon 8 kk))
       have NB454_441 := am (q454_441 (hon 8 kk))
       have NB442_454 := am (q442_454 (hon 8 kk))
       have NB454_442 := am (q454_442 (hon 8 kk))
       have BK454 := am (qB454_e9 (hon 9 kk))
       refine value_ (w1 := w') (v := .bool t452) (by rfl) rfl ?_ ?_
       ·go_simp
        (try simp only [i64_w])
        try rfl
       refine hK.out _ _ ⟨gb454, m8_, (by rw [ha.out]; exact putSel_upk 9 hb_ rfl rfl rfl), qB441, qB442, qHB, fun _ h1_ => absurd ((hon 9 kk).symm.trans h1_) (by decide), qW454, qE454, q441_454, q454_441, q442_454, q454_442, qB454_e9, Q_X8_⟩
      refine steps_cons ?_ ?_
      ·rintro b a w' ⟨gb454, m8_, ha, qB441, qB442, qHB, qB454, qW454, qE454, q441_454, q454_441, q442_454, q454_442, qB454_e9, Q_X8_⟩ hb_ hon hoff
       refine ⟨_, rfl, fun K hK => ?_⟩
       have e28 : a.tmps[28]? = some (errW t453) := by rw [ha]; exact putSel_on (e := (7, 28, errW t453)) 7 rfl rfl (hon 7 kk) rfl
       replace ha := am ha
       have BK441 := am qB441
       have BK442 := am qB442
       have HB := am qHB
       have GW454 := am (qW454 (hon 8 kk))
       have GE454 := am (qE454 (hon 8 kk))
       have NB441_454 := am (q441_454 (hon 8 kk))
       have NB454_441 := am (q454_441 (hon 8 kk))
       have NB442_454 := am (q442_454 (hon 8 kk))
       have NB454_442 := am (q454_442 (hon 8 kk))
       have BK454 := am (qB454_e9 (hon 9 kk))
       refine value_ (w1 := w') (v := errW t453) (by rfl) rfl ?_ ?_
       ·go_simp
        (try simp only [i64_w])
        try rfl
       refine hK.out _ _ ⟨gb454, m8_, (by rw [ha.out]; exact putSel_upk 10 hb_ rfl rfl rfl), qB441, qB442, qHB, fun _ h1_ => absurd ((hon 9 kk).symm.trans h1_) (by decide), qW454, qE454, q441_454, q454_441, q442_454, q454_442, qB454_e9, Q_X8_⟩
      exact steps_nil
     rintro b a w31 hall ⟨gb454, m8_, ha, qB441, qB442, qHB, qB454, qW454, qE454, q441_454, q454_441, q442_454, q454_442, qB454_e9, Q_X8_⟩
     clear BK441 BK442 HB
     have hb0_ := hall 0 kk
     have hb1_ := hall 1 kk
     have hb2_ := hall 2 kk
     have hb3_ := hall 3 kk
     have hb4_ := hall 4 kk
     have hb5_ := hall 5 kk
     have hb6_ := hall 6 kk
     have hb7_ := hall 7 kk
     have hb8_ := hall 8 kk
     have hb9_ := hall 9 kk
     have hb10_ := hall 10 kk
     have hb11_ := hall 11 kk
     subst ha
     obtain rfl := Q_X8_ hb8_
     simp only [putSel, hb0_, hb1_, hb2_, hb3_, hb4_, hb5_, hb6_, hb7_, hb8_, hb9_, hb10_, hb11_, if_true, Act.put, List.setIfInBounds_toArray, List.set_cons_zero, List.set_cons_succ]
     have BK441 := am qB441
     clear qB441
     have BK442 := am qB442
     clear qB442
     have HB := am qHB
     clear qHB
     clear qB454
     have GW454 := am (qW454 hb8_)
     clear qW454
     have GE454 := am (qE454 hb8_)
     clear qE454
     have NB441_454 := am (q441_454 hb8_)
     clear q441_454
     have NB454_441 := am (q454_441 hb8_)
     clear q454_441
     have NB442_454 := am (q442_454 hb8_)
     clear q442_454
     have NB454_442 := am (q454_442 hb8_)
     clear q454_442
     have BK454 := am (qB454_e9 hb9_)
     clear qB454_e9
     clear hall hb0_ hb1_ hb2_ hb3_ hb4_ hb5_ hb6_ hb7_ hb8_ hb9_ hb10_ hb11_
     have hnb32 := NB454_441.out
     have hnc32 := NB441_454.out
     have hnb33 := NB454_442.out
     have hnc33 := NB442_454.out
     have hcz34_0 : w31.cell? ⟨gb454, 0, none⟩ = some (.bool t448) := bc BK454 0
     have hcz34_1 : w31.cell? ⟨gb454, 1, none⟩ = some (.bool t449) := bc BK454 1
     have hcz34_2 : w31.cell? ⟨gb454, 2, none⟩ = some (.int .i64 t450) := bc BK454 2
     have hcz34_3 : w31.cell? ⟨gb454, 3, none⟩ = some (.int .i64 t451) := bc BK454 3
     have hfz34_0 := blk_frozen BK454.out 0
     have hfz34_1 := blk_frozen BK454.out 1
     have hfz34_2 := blk_frozen BK454.out 2
     have hfz34_3 := blk_frozen BK454.out 3
     have CA21 := fun (W : World) (hE9_ : ErrAll W) => L2_isSpan.calls t448 t449 t450 t451 t453 t448 t449 t450 t451 x6_5 true W A21.out hE9_
     try simp only [errW_none, errW_some] at CA21
     try go_wp2_with (first | (go_at_call 36; (with_reducible refine (CA21 _ (ErrAll.below hE9.out pw)).mono ?_); rintro e w35 ⟨rfl, hb⟩; have n0_ := bb BK441 hb; have n1_ := bb BK442 hb; have n2_ := bb BK454 hb; have n3_ := am (below_step pw hb); clear BK441; clear BK442; clear BK454; clear HB; have BK441 := n0_; have BK442 := n1_; have BK454 := n2_; have HB := n3_; clear n0_ n1_ n2_ n3_; (try clear hb); (try clear hb2); (try clear hk); (try clear hi)))
     go_ret
     exact ⟨pe, pw⟩
    replace c22 := Bool.eq_false_iff.mpr c22
    subst c22
    have H1 : (none) = some r := by rw [if_neg (show ¬ (false = true) by decide)] at H; exact H
    clear H
    have H := H1
    clear H1
    exact absurd H (by simp)
   rw [if_neg c20] at H
   have c20b0 : decide (0 < x6_5) = false := decide_eq_false c20
   clear c20
   have HC36 := am H
   clear H
   try go_wp2
   have n0_ := am (blk_drew BK441.out)
   have n1_ := am (blk_drew BK442.out)
   have n2_ := am (below_drew1 HB.out)
   clear BK441 BK442 HB
   revert n0_ n1_ n2_
   intro BK441 BK442 HB
   refine start_ (n := 12) (S := fun w' => True) (ds := []) #[false, false, false, false, false, false, false, false, false, false, false, false] kk rfl rfl trivial (fun hHeld => ?_); refine with_tabW L2_CongrTight.tab7 L2_CongrTight.bits7 (fun HT_ HW_ => ?_)
   generalize wc.drew = w37 at BK441 BK442 HB hHeld ⊢
   refine inv_at [0, 1, 2, 3, 4, 5, 6, 7, 8, 9, 10, 11] (fun a0_ b a w' => ∃ (gb454 : Nat) (m8_ : Value), a = putSel a0_ b [(0, 22, .agg #[.int .i64 a0_0, .int .i64 a0_1]), (1, 23, .agg #[.int .i64 t446, .int .i64 t447]), (2, 24, .agg #[.bool a1_0, .bool a1_1, .int .i64 a1_2, .int .i64 a1_3]), (3, 25, .tuple #[.agg #[.bool t448, .bool t449, .int .i64 t450, .int .i64 t451], .bool t452, errW t453]), (4, 21, .tuple #[.agg #[.bool t448, .bool t449, .int .i64 t450, .int .i64 t451], .bool t452, errW t453]), (5, 26, .agg #[.bool t448, .bool t449, .int .i64 t450, .int .i64 t451]), (6, 27, .bool t452), (7, 28, errW t453), (8, 7, m8_), (10, 8, .bool t452), (11, 9, errW t453)] ∧ (w'.heap[gb441]? = some (.cells #[.int .i64 a0_0, .int .i64 a0_1] 32 (0, 0))) ∧ (w'.heap[gb442]? = some (.cells #[.bool a1_0, .bool a1_1, .int .i64 a1_2, .int .i64 a1_3] 23 (0, 0))) ∧ (Below w.heap.size w w') ∧ (b 8 = true → b 9 = false → w'.heap[gb454]? = some (.cells #[.bool false, .bool false, .int .i64 0, .int .i64 0] 23 (0, 0))) ∧ (b 8 = true → w.heap.size ≤ gb454) ∧ (b 8 = true → w.heap.size ≤ gb454) ∧ (b 8 = true → gb441 ≠ gb454) ∧ (b 8 = true → gb454 ≠ gb441) ∧ (b 8 = true → gb442 ≠ gb454) ∧ (b 8 = true → gb454 ≠ gb442) ∧ (b 9 = true → w'.heap[gb454]? = some (.cells #[.bool t448, .bool t449, .int .i64 t450, .int .i64 t451] 23 (0, 0))) ∧ (b 8 = true → (m8_ : Value) = .pointer (some ⟨gb454, 0, none⟩))) HT_.out HW_.out kk kk ?_ ?_ ?_
   ·exact ⟨0, .bool false, by simp only [putSel, Bool.false_eq_true, if_false], BK441.out, BK442.out, HB.out, fun h_ => absurd h_ (by decide), fun h_ => absurd h_ (by decide), fun h_ => absurd h_ (by decide), fun h_ => absurd h_ (by decide), fun h_ => absurd h_ (by decide), fun h_ => absurd h_ (by decide), fun h_ => absurd h_ (by decide), fun h_ => absurd h_ (by decide), fun h_ => absurd h_ (by decide)⟩
   ·skip
    clear BK441 BK442 HB
    refine steps_cons ?_ ?_
    ·rintro b a w' ⟨gb454, m8_, ha, qB441, qB442, qHB, qB454, qW454, qE454, q441_454, q454_441, q442_454, q454_442, qB454_e9, Q_X8_⟩ hb_ hon hoff
     refine ⟨_, rfl, fun K hK => ?_⟩
     have e2 : a.tmps[2]? = some (.pointer (some ⟨gb441, 0, none⟩)) := by rw [ha]; exact (putSel_off rfl).trans rfl
     replace ha := am ha
     have BK441 := am qB441
     have BK442 := am qB442
     have HB := am qHB
     have hc0_ : w'.cell? ⟨gb441, 0, none⟩ = some (.int .i64 a0_0) := bc BK441 0
     have hc1_ : w'.cell? ⟨gb441, 1, none⟩ = some (.int .i64 a0_1) := bc BK441 1
     refine value_ (w1 := w') (v := .agg #[.int .i64 a0_0, .int .i64 a0_1]) (by rfl) rfl ?_ ?_
     ·go_simp
      (try simp only [i64_w])
      try rfl
     refine hK.out _ _ ⟨gb454, m8_, (by rw [ha.out]; exact putSel_upk 0 hb_ rfl rfl rfl), qB441, qB442, qHB, qB454, qW454, qE454, q441_454, q454_441, q442_454, q454_442, fun h0_ => absurd ((hoff 9 kk).symm.trans h0_) (by decide), Q_X8_⟩
    refine steps_cons ?_ ?_
    ·rintro b a w' ⟨gb454, m8_, ha, qB441, qB442, qHB, qB454, qW454, qE454, q441_454, q454_441, q442_454, q454_442, qB454_e9, Q_X8_⟩ hb_ hon hoff
     refine ⟨_, rfl, fun K hK => ?_⟩
     have e22 : a.tmps[22]? = some (.agg #[.int .i64 a0_0, .int .i64 a0_1]) := by rw [ha]; exact putSel_on (e := (0, 22, .agg #[.int .i64 a0_0, .int .i64 a0_1])) 0 rfl rfl (hon 0 kk) rfl
     replace ha := am ha
     have BK441 := am qB441
     have BK442 := am qB442
     have HB := am qHB
     refine goes_ Tryd.func21 kk rfl #[.agg #[.int .i64 a0_0, .int .i64 a0_1]] (by rfl) rfl rfl (by first | (simp only [List.map_toArray, List.map_cons, List.map_nil, Act.eval, Array.getD_eq_getD_getElem?, Option.getD_some, e22]; done) | (simp only [List.map_toArray, List.map_cons, List.map_nil, Act.eval, Array.getD_eq_getD_getElem?, Option.getD_some, e22]; rfl)) ?_
     with_reducible refine (L2_own.calls a0_0 a0_1 t446 t447 _ A18.out).mono ?_
     rintro e w38 ⟨rfl, hb⟩
     refine ⟨_, rfl, ?_⟩
     have n0_ := bb BK441 hb
     have n1_ := bb BK442 hb
     have n2_ := am (below_step pw hb)
     have z_BK454 := fun (h0_ : b 8 = true) (h1_ : b 9 = false) => (show w38.heap[gb454]? = some (.cells #[.bool false, .bool false, .int .i64 0, .int .i64 0] 23 (0, 0)) from by first | exact (blk_below (g := gb454) (o := .cells #[.bool false, .bool false, .int .i64 0, .int .i64 0] 23 (0, 0)) (by (with_reducible repeat (first | refine blk_drewN ?_ _ | refine blk_drew ?_ | refine blk_alloc ?_ _)); exact (qB454 h0_ h1_)) hb))
     clear BK441 BK442 HB
     revert n0_ n1_ n2_
     intro BK441 BK442 HB
     (try clear hb)
     (try clear hb2)
     (try clear hk)
     (try clear hi)
     refine hK.out _ _ ⟨gb454, m8_, (by rw [ha.out]; exact putSel_upk 1 hb_ rfl rfl rfl), pk, pk, pw, z_BK454, qW454, qE454, q441_454, q454_441, q442_454, q454_442, fun h0_ => absurd ((hoff 9 kk).symm.trans h0_) (by decide), Q_X8_⟩
    refine steps_cons ?_ ?_
    ·rintro b a w' ⟨gb454, m8_, ha, qB441, qB442, qHB, qB454, qW454, qE454, q441_454, q454_441, q442_454, q454_442, qB454_e9, Q_X8_⟩ hb_ hon hoff
     refine ⟨_, rfl, fun K hK => ?_⟩
     have e3 : a.tmps[3]? = some (.pointer (some ⟨gb442, 0, none⟩)) := by rw [ha]; exact (putSel_off rfl).trans rfl
     replace ha := am ha
     have BK441 := am qB441
     have BK442 := am qB442
     have HB := am qHB
     have hc0_ : w'.cell? ⟨gb442, 0, none⟩ = some (.bool a1_0) := bc BK442 0
     have hc1_ : w'.cell? ⟨gb442, 1, none⟩ = some (.bool a1_1) := bc BK442 1
     have hc2_ : w'.cell? ⟨gb442, 2, none⟩ = some (.int .i64 a1_2) := bc BK442 2
     have hc3_ : w'.cell? ⟨gb442, 3, none⟩ = some (.int .i64 a1_3) := bc BK442 3
     refine value_ (w1 := w') (v := .agg #[.bool a1_0, .bool a1_1, .int .i64 a1_2, .int .i64 a1_3]) (by rfl) rfl ?_ ?_
     ·go_simp
      (try simp only [i64_w])
      try rfl
     refine hK.out _ _ ⟨gb454, m8_, (by rw [ha.out]; exact putSel_upk 2 hb_ rfl rfl rfl), qB441, qB442, qHB, qB454, qW454, qE454, q441_454, q454_441, q442_454, q454_442, fun h0_ => absurd ((hoff 9 kk).symm.trans h0_) (by decide), Q_X8_⟩
    refine steps_cons ?_ ?_
    ·rintro b a w' ⟨gb454, m8_, ha, qB441, qB442, qHB, qB454, qW454, qE454, q441_454, q454_441, q442_454, q454_442, qB454_e9, Q_X8_⟩ hb_ hon hoff
     refine ⟨_, rfl, fun K hK => ?_⟩
     have e23 : a.tmps[23]? = some (.agg #[.int .i64 t446, .int .i64 t447]) := by rw [ha]; exact putSel_on (e := (1, 23, .agg #[.int .i64 t446, .int .i64 t447])) 1 rfl rfl (hon 1 kk) rfl
     have e24 : a.tmps[24]? = some (.agg #[.bool a1_0, .bool a1_1, .int .i64 a1_2, .int .i64 a1_3]) := by rw [ha]; exact putSel_on (e := (2, 24, .agg #[.bool a1_0, .bool a1_1, .int .i64 a1_2, .int .i64 a1_3])) 2 rfl rfl (hon 2 kk) rfl
     replace ha := am ha
     have BK441 := am qB441
     have BK442 := am qB442
     have HB := am qHB
     refine goes_ Tryd.func52 kk rfl #[.agg #[.int .i64 t446, .int .i64 t447], .agg #[.bool a1_0, .bool a1_1, .int .i64 a1_2, .int .i64 a1_3]] (by rfl) rfl rfl (by first | (simp only [List.map_toArray, List.map_cons, List.map_nil, Act.eval, Array.getD_eq_getD_getElem?, Option.getD_some, e23, e24]; done) | (simp only [List.map_toArray, List.map_cons, List.map_nil, Act.eval, Array.getD_eq_getD_getElem?, Option.getD_some, e23, e24]; rfl)) ?_
     with_reducible refine (congr_Tight.calls kj5 t446 t447 a1_0 a1_1 a1_2 a1_3 t448 t449 t450 t451 t452 t453 _ A19.out (am (ErrAt.below hE2.out pw)).out (am (ErrAt.below hE3.out pw)).out).mono ?_
     rintro e w40 ⟨rfl, hb⟩
     refine ⟨_, rfl, ?_⟩
     have n0_ := bb BK441 hb
     have n1_ := bb BK442 hb
     have n2_ := am (below_step pw hb)
     have z_BK454 := fun (h0_ : b 8 = true) (h1_ : b 9 = false) => (show w40.heap[gb454]? = some (.cells #[.bool false, .bool false, .int .i64 0, .int .i64 0] 23 (0, 0)) from by first | exact (blk_below (g := gb454) (o := .cells #[.bool false, .bool false, .int .i64 0, .int .i64 0] 23 (0, 0)) (by (with_reducible repeat (first | refine blk_drewN ?_ _ | refine blk_drew ?_ | refine blk_alloc ?_ _)); exact (qB454 h0_ h1_)) hb))
     clear BK441 BK442 HB
     revert n0_ n1_ n2_
     intro BK441 BK442 HB
     (try clear hb)
     (try clear hb2)
     (try clear hk)
     (try clear hi)
     (try simp only [errW_none, errW_some])
     refine hK.out _ _ ⟨gb454, m8_, (by rw [ha.out]; exact putSel_upk 3 hb_ rfl rfl rfl), pk, pk, pw, z_BK454, qW454, qE454, q441_454, q454_441, q442_454, q454_442, fun h0_ => absurd ((hoff 9 kk).symm.trans h0_) (by decide), Q_X8_⟩
    refine steps_cons ?_ ?_
    ·rintro b a w' ⟨gb454, m8_, ha, qB441, qB442, qHB, qB454, qW454, qE454, q441_454, q454_441, q442_454, q454_442, qB454_e9, Q_X8_⟩ hb_ hon hoff
     refine ⟨_, rfl, fun K hK => ?_⟩
     have e25 : a.tmps[25]? = some (.tuple #[.agg #[.bool t448, .bool t449, .int .i64 t450, .int .i64 t451], .bool t452, errW t453]) := by rw [ha]; exact putSel_on (e := (3, 25, .tuple #[.agg #[.bool t448, .bool t449, .int .i64 t450, .int .i64 t451], .bool t452, errW t453])) 3 rfl rfl (hon 3 kk) rfl
     replace ha := am ha
     have BK441 := am qB441
     have BK442 := am qB442
     have HB := am qHB
     refine value_ (w1 := w') (v := .tuple #[.agg #[.bool t448, .bool t449, .int .i64 t450, .int .i64 t451], .bool t452, errW t453]) (by rfl) rfl ?_ ?_
     ·go_simp
      (try simp only [i64_w])
      try rfl
     refine hK.out _ _ ⟨gb454, m8_, (by rw [ha.out]; exact putSel_upk 4 hb_ rfl rfl rfl), qB441, qB442, qHB, qB454, qW454, qE454, q441_454, q454_441, q442_454, q454_442, fun h0_ => absurd ((hoff 9 kk).symm.trans h0_) (by decide), Q_X8_⟩
    refine steps_cons ?_ ?_
    ·rintro b a w' ⟨gb454, m8_, ha, qB441, qB442, qHB, qB454, qW454, qE454, q441_454, q454_441, q442_454, q454_442, qB454_e9, Q_X8_⟩ hb_ hon hoff
     refine ⟨_, rfl, fun K hK => ?_⟩
     have e21 : a.tmps[21]? = some (.tuple #[.agg #[.bool t448, .bool t449, .int .i64 t450, .int .i64 t451], .bool t452, errW t453]) := by rw [ha]; exact putSel_on (e := (4, 21, .tuple #[.agg #[.bool t448, .bool t449, .int .i64 t450, .int .i64 t451], .bool t452, errW t453])) 4 rfl rfl (hon 4 kk) rfl
     replace ha := am ha
     have BK441 := am qB441
     have BK442 := am qB442
     have HB := am qHB
     refine value_ (w1 := w') (v := .agg #[.bool t448, .bool t449, .int .i64 t450, .int .i64 t451]) (by rfl) rfl ?_ ?_
     ·go_simp
      (try simp only [i64_w])
      try rfl
     refine hK.out _ _ ⟨gb454, m8_, (by rw [ha.out]; exact putSel_upk 5 hb_ rfl rfl rfl), qB441, qB442, qHB, qB454, qW454, qE454, q441_454, q454_441, q442_454, q454_442, fun h0_ => absurd ((hoff 9 kk).symm.trans h0_) (by decide), Q_X8_⟩
    refine steps_cons ?_ ?_
    ·rintro b a w' ⟨gb454, m8_, ha, qB441, qB442, qHB, qB454, qW454, qE454, q441_454, q454_441, q442_454, q454_442, qB454_e9, Q_X8_⟩ hb_ hon hoff
     refine ⟨_, rfl, fun K hK => ?_⟩
     have e21 : a.tmps[21]? = some (.tuple #[.agg #[.bool t448, .bool t449, .int .i64 t450, .int .i64 t451], .bool t452, errW t453]) := by rw [ha]; exact putSel_on (e := (4, 21, .tuple #[.agg #[.bool t448, .bool t449, .int .i64 t450, .int .i64 t451], .bool t452, errW t453])) 4 rfl rfl (hon 4 kk) rfl
     replace ha := am ha
     have BK441 := am qB441
     have BK442 := am qB442
     have HB := am qHB
     refine value_ (w1 := w') (v := .bool t452) (by rfl) rfl ?_ ?_
     ·go_simp
      (try simp only [i64_w])
      try rfl
     refine hK.out _ _ ⟨gb454, m8_, (by rw [ha.out]; exact putSel_upk 6 hb_ rfl rfl rfl), qB441, qB442, qHB, qB454, qW454, qE454, q441_454, q454_441, q442_454, q454_442, qB454_e9, Q_X8_⟩
    refine steps_cons ?_ ?_
    ·rintro b a w' ⟨gb454, m8_, ha, qB441, qB442, qHB, qB454, qW454, qE454, q441_454, q454_441, q442_454, q454_442, qB454_e9, Q_X8_⟩ hb_ hon hoff
     refine ⟨_, rfl, fun K hK => ?_⟩
     have e21 : a.tmps[21]? = some (.tuple #[.agg #[.bool t448, .bool t449, .int .i64 t450, .int .i64 t451], .bool t452, errW t453]) := by rw [ha]; exact putSel_on (e := (4, 21, .tuple #[.agg #[.bool t448, .bool t449, .int .i64 t450, .int .i64 t451], .bool t452, errW t453])) 4 rfl rfl (hon 4 kk) rfl
     replace ha := am ha
     have BK441 := am qB441
     have BK442 := am qB442
     have HB := am qHB
     refine value_ (w1 := w') (v := errW t453) (by rfl) rfl ?_ ?_
     ·go_simp
      (try simp only [i64_w])
      try rfl
     refine hK.out _ _ ⟨gb454, m8_, (by rw [ha.out]; exact putSel_upk 7 hb_ rfl rfl rfl), qB441, qB442, qHB, qB454, qW454, qE454, q441_454, q454_441, q442_454, q454_442, qB454_e9, Q_X8_⟩
    refine steps_cons ?_ ?_
    ·rintro b a w' ⟨gb454, m8_, ha, qB441, qB442, qHB, qB454, qW454, qE454, q441_454, q454_441, q442_454, q454_442, qB454_e9, Q_X8_⟩ hb_ hon hoff
     refine ⟨_, rfl, fun K hK => ?_⟩
     replace ha := am ha
     have BK441 := am qB441
     have BK442 := am qB442
     have HB := am qHB
     refine box_step ?hg (N := 7) ?hd (cs := #[.bool false, .bool false, .int .i64 0, .int .i64 0]) (t := 23) ?hr ?_; (case hd => rfl); (case hg => rfl); (case hr => first | (go_simp; done) | (go_simp; rfl))
     intro gb454 hg w38 hbox hb
     have n0_ := bb BK441 hb
     have n1_ := bb BK442 hb
     have n2_ := am (below_step pw hb)
     have n3_ := am (hbox)
     have n4_ := am ((by rw [hg]; exact (below_size pw) : w.heap.size ≤ gb454))
     have n5_ := am ((by rw [hg]; exact (below_size pw) : w.heap.size ≤ gb454))
     have n6_ := am ((by rw [hg]; exact Nat.ne_of_lt (blk_lt pk) : gb441 ≠ gb454))
     have n7_ := am ((by rw [hg]; exact Nat.ne_of_gt (blk_lt pk) : gb454 ≠ gb441))
     have n8_ := am ((by rw [hg]; exact Nat.ne_of_lt (blk_lt pk) : gb442 ≠ gb454))
     have n9_ := am ((by rw [hg]; exact Nat.ne_of_gt (blk_lt pk) : gb454 ≠ gb442))
     clear BK441 BK442 HB
     revert n0_ n1_ n2_ n3_ n4_ n5_ n6_ n7_ n8_ n9_
     intro BK441 BK442 HB BK454 GW454 GE454 NB441_454 NB454_441 NB442_454 NB454_442
     clear hb hbox hg
     refine hK.out _ _ ⟨gb454, (.pointer (some ⟨gb454, 0, none⟩)), (by rw [ha.out]; exact putSel_upk 8 hb_ rfl rfl rfl), pk, pk, pw, fun _ _ => pk, fun _ => GW454.out, fun _ => GE454.out, fun _ => NB441_454.out, fun _ => NB454_441.out, fun _ => NB442_454.out, fun _ => NB454_442.out, fun h0_ => absurd ((hoff 9 kk).symm.trans h0_) (by decide), fun _ => rfl⟩
    refine steps_cons ?_ ?_
    ·rintro b a w' ⟨gb454, m8_, ha, qB441, qB442, qHB, qB454, qW454, qE454, q441_454, q454_441, q442_454, q454_442, qB454_e9, Q_X8_⟩ hb_ hon hoff
     refine ⟨_, rfl, fun K hK => ?_⟩
     have e7 : a.tmps[7]? = some (m8_) := by rw [ha]; exact putSel_on (e := (8, 7, m8_)) 8 rfl rfl (hon 8 kk) rfl
     rw [Q_X8_ (hon 8 kk)] at e7
     have e26 : a.tmps[26]? = some (.agg #[.bool t448, .bool t449, .int .i64 t450, .int .i64 t451]) := by rw [ha]; exact putSel_on (e := (5, 26, .agg #[.bool t448, .bool t449, .int .i64 t450, .int .i64 t451])) 5 rfl rfl (hon 5 kk) rfl
     replace ha := am ha
     have BK441 := am qB441
     have BK442 := am qB442
     have HB := am qHB
     have BK454 := am (qB454 (hon 8 kk) hb_)
     have GW454 := am (qW454 (hon 8 kk))
     have GE454 := am (qE454 (hon 8 kk))
     have NB441_454 := am (q441_454 (hon 8 kk))
     have NB454_441 := am (q454_441 (hon 8 kk))
     have NB442_454 := am (q442_454 (hon 8 kk))
     have NB454_442 := am (q454_442 (hon 8 kk))
     have hs42 : w'.cell? ⟨gb454, 0, none⟩ = some (.bool false) := bc BK454 0
     have hfs42 := blk_frozen BK454.out 0
     have hns42_0 := NB441_454.out
     have hns42_1 := NB442_454.out
     have hms42_0 := NB454_441.out
     have hms42_1 := NB454_442.out
     have hs43 : w'.cell? ⟨gb454, 1, none⟩ = some (.bool false) := bc BK454 1
     have hfs43 := blk_frozen BK454.out 1
     have hns43_0 := NB441_454.out
     have hns43_1 := NB442_454.out
     have hms43_0 := NB454_441.out
     have hms43_1 := NB454_442.out
     have hs44 : w'.cell? ⟨gb454, 2, none⟩ = some (.int .i64 0) := bc BK454 2
     have hfs44 := blk_frozen BK454.out 2
     have hns44_0 := NB441_454.out
     have hns44_1 := NB442_454.out
     have hms44_0 := NB454_441.out
     have hms44_1 := NB454_442.out
     have hs45 : w'.cell? ⟨gb454, 3, none⟩ = some (.int .i64 0) := bc BK454 3
     have hfs45 := blk_frozen BK454.out 3
     have hns45_0 := NB441_454.out
     have hns45_1 := NB442_454.out
     have hms45_0 := NB454_441.out
     have hms45_1 := NB454_442.out
     refine skip_ (w1 := ?_) (by rfl) rfl ?_ ?_
     rotate_left
     ·go_simp
      rfl
     refine hK.out _ _ ⟨gb454, m8_, (by rw [ha.out]; exact putSel_none (v := undef) rfl), (by (with_reducible repeat (first | refine blk_drewN ?_ _ | refine blk_drew ?_ | refine blk_alloc ?_ _)); refine blk_far ?_ NB441_454.out _; (with_reducible repeat (first | refine blk_drewN ?_ _ | refine blk_drew ?_ | refine blk_alloc ?_ _)); refine blk_far ?_ NB441_454.out _; (with_reducible repeat (first | refine blk_drewN ?_ _ | refine blk_drew ?_ | refine blk_alloc ?_ _)); refine blk_far ?_ NB441_454.out _; (with_reducible repeat (first | refine blk_drewN ?_ _ | refine blk_drew ?_ | refine blk_alloc ?_ _)); refine blk_far ?_ NB441_454.out _; (with_reducible repeat (first | refine blk_drewN ?_ _ | refine blk_drew ?_ | refine blk_alloc ?_ _)); exact BK441.out), (by (with_reducible repeat (first | refine blk_drewN ?_ _ | refine blk_drew ?_ | refine blk_alloc ?_ _)); refine blk_far ?_ NB442_454.out _; (with_reducible repeat (first | refine blk_drewN ?_ _ | refine blk_drew ?_ | refine blk_alloc ?_ _)); refine blk_far ?_ NB442_454.out _; (with_reducible repeat (first | refine blk_drewN ?_ _ | refine blk_drew ?_ | refine blk_alloc ?_ _)); refine blk_far ?_ NB442_454.out _; (with_reducible repeat (first | refine blk_drewN ?_ _ | refine blk_drew ?_ | refine blk_alloc ?_ _)); refine blk_far ?_ NB442_454.out _; (with_reducible repeat (first | refine blk_drewN ?_ _ | refine blk_drew ?_ | refine blk_alloc ?_ _)); exact BK442.out), pw, fun _ h1_ => absurd ((up_self b 9).symm.trans h1_) (by decide), fun _ => GW454.out, fun _ => GE454.out, fun _ => NB441_454.out, fun _ => NB454_441.out, fun _ => NB442_454.out, fun _ => NB454_442.out, fun _ => (by (with_reducible repeat (first | refine blk_drewN ?_ _ | refine blk_drew ?_ | refine blk_alloc ?_ _)); refine blk_put (cs := #[.bool t448, .bool t449, .int .i64 t450, .int .i64 0]) ?_ 3 _ rfl; (with_reducible repeat (first | refine blk_drewN ?_ _ | refine blk_drew ?_ | refine blk_alloc ?_ _)); refine blk_put (cs := #[.bool t448, .bool t449, .int .i64 0, .int .i64 0]) ?_ 2 _ rfl; (with_reducible repeat (first | refine blk_drewN ?_ _ | refine blk_drew ?_ | refine blk_alloc ?_ _)); refine blk_put (cs := #[.bool t448, .bool false, .int .i64 0, .int .i64 0]) ?_ 1 _ rfl; (with_reducible repeat (first | refine blk_drewN ?_ _ | refine blk_drew ?_ | refine blk_alloc ?_ _)); refine blk_put (cs := #[.bool false, .bool false, .int .i64 0, .int .i64 0]) ?_ 0 _ rfl; (with_reducible repeat (first | refine blk_drewN ?_ _ | refine blk_drew ?_ | refine blk_alloc ?_ _)); exact BK454.out), Q_X8_⟩
    refine steps_cons ?_ ?_
    ·rintro b a w' ⟨gb454, m8_, ha, qB441, qB442, qHB, qB454, qW454, qE454, q441_454, q454_441, q442_454, q454_442, qB454_e9, Q_X8_⟩ hb_ hon hoff
     refine ⟨_, rfl, fun K hK => ?_⟩
     have e27 : a.tmps[27]? = some (.bool t452) := by rw [ha]; exact putSel_on (e := (6, 27, .bool t452)) 6 rfl rfl (hon 6 kk) rfl
     replace ha := am ha
     have BK441 := am qB441
     have BK442 := am qB442
     have HB := am qHB
     have GW454 := am (qW454 (hon 8 kk))
     have GE454 := am (qE454 (hon 8 kk))
     have NB441_454 := am (q441_454 (hon 8 kk))
     have NB454_441 := am (q454_441 (hon 8 kk))
     have NB442_454 := am (q442_454 (hon 8 kk))
     have NB454_442 := am (q454_442 (hon 8 kk))
     have BK454 := am (qB454_e9 (hon 9 kk))
     refine value_ (w1 := w') (v := .bool t452) (by rfl) rfl ?_ ?_
     ·go_simp
      (try simp only [i64_w])
      try rfl
     refine hK.out _ _ ⟨gb454, m8_, (by rw [ha.out]; exact putSel_upk 9 hb_ rfl rfl rfl), qB441, qB442, qHB, fun _ h1_ => absurd ((hon 9 kk).symm.trans h1_) (by decide), qW454, qE454, q441_454, q454_441, q442_454, q454_442, qB454_e9, Q_X8_⟩
    refine steps_cons ?_ ?_
    ·rintro b a w' ⟨gb454, m8_, ha, qB441, qB442, qHB, qB454, qW454, qE454, q441_454, q454_441, q442_454, q454_442, qB454_e9, Q_X8_⟩ hb_ hon hoff
     refine ⟨_, rfl, fun K hK => ?_⟩
     have e28 : a.tmps[28]? = some (errW t453) := by rw [ha]; exact putSel_on (e := (7, 28, errW t453)) 7 rfl rfl (hon 7 kk) rfl
     replace ha := am ha
     have BK441 := am qB441
     have BK442 := am qB442
     have HB := am qHB
     have GW454 := am (qW454 (hon 8 kk))
     have GE454 := am (qE454 (hon 8 kk))
     have NB441_454 := am (q441_454 (hon 8 kk))
     have NB454_441 := am (q454_441 (hon 8 kk))
     have NB442_454 := am (q442_454 (hon 8 kk))
     have NB454_442 := am (q454_442 (hon 8 kk))
     have BK454 := am (qB454_e9 (hon 9 kk))
     refine value_ (w1 := w') (v := errW t453) (by rfl) rfl ?_ ?_
     ·go_simp
      (try simp only [i64_w])
      try rfl
     refine hK.out _ _ ⟨gb454, m8_, (by rw [ha.out]; exact putSel_upk 10 hb_ rfl rfl rfl), qB441, qB442, qHB, fun _ h1_ => absurd ((hon 9 kk).symm.trans h1_) (by decide), qW454, qE454, q441_454, q454_441, q442_454, q454_442, qB454_e9, Q_X8_⟩
    exact steps_nil
   rintro b a w45 hall ⟨gb454, m8_, ha, qB441, qB442, qHB, qB454, qW454, qE454, q441_454, q454_441, q442_454, q454_442, qB454_e9, Q_X8_⟩
   clear BK441 BK442 HB
   have hb0_ := hall 0 kk
   have hb1_ := hall 1 kk
   have hb2_ := hall 2 kk
   have hb3_ := hall 3 kk
   have hb4_ := hall 4 kk
   have hb5_ := hall 5 kk
   have hb6_ := hall 6 kk
   have hb7_ := hall 7 kk
   have hb8_ := hall 8 kk
   have hb9_ := hall 9 kk
   have hb10_ := hall 10 kk
   have hb11_ := hall 11 kk
   subst ha
   obtain rfl := Q_X8_ hb8_
   simp only [putSel, hb0_, hb1_, hb2_, hb3_, hb4_, hb5_, hb6_, hb7_, hb8_, hb9_, hb10_, hb11_, if_true, Act.put, List.setIfInBounds_toArray, List.set_cons_zero, List.set_cons_succ]
   have BK441 := am qB441
   clear qB441
   have BK442 := am qB442
   clear qB442
   have HB := am qHB
   clear qHB
   clear qB454
   have GW454 := am (qW454 hb8_)
   clear qW454
   have GE454 := am (qE454 hb8_)
   clear qE454
   have NB441_454 := am (q441_454 hb8_)
   clear q441_454
   have NB454_441 := am (q454_441 hb8_)
   clear q454_441
   have NB442_454 := am (q442_454 hb8_)
   clear q442_454
   have NB454_442 := am (q454_442 hb8_)
   clear q454_442
   have BK454 := am (qB454_e9 hb9_)
   clear qB454_e9
   clear hall hb0_ hb1_ hb2_ hb3_ hb4_ hb5_ hb6_ hb7_ hb8_ hb9_ hb10_ hb11_
   go_upto_region 10 with (fail)
   go_cut [57] (fun v57 wc => ∃ (kq : Nat) (x57_35 : Bool), v57 = .bool x57_35 ∧ Aside0 (L2_CongrTight.j1 kq t452 t453 x57_35 a0_0 a0_1 a1_0 a1_1 a1_2 a1_3 t448 t449 t450 t451 = some r) ∧ Aside0 (kq ≤ kj5) ∧ Aside0 (wc.heap[gb441]? = some (.cells #[.int .i64 a0_0, .int .i64 a0_1] 32 (0, 0))) ∧ Aside0 (wc.heap[gb442]? = some (.cells #[.bool a1_0, .bool a1_1, .int .i64 a1_2, .int .i64 a1_3] 23 (0, 0))) ∧ Aside0 (wc.heap[gb454]? = some (.cells #[.bool t448, .bool t449, .int .i64 t450, .int .i64 t451] 23 (0, 0))) ∧ Aside0 (Below w.heap.size w wc))
   case first =>
    have H := HC36.out
    clear HC36
    replace H := Option.bind_eq_some_iff.mp H
    obtain ⟨t456, A460, H⟩ := H
    replace H : (if t456 = true then (L2_CongrTight.j1 kj5 t452 t453 true a0_0 a0_1 a1_0 a1_1 a1_2 a1_3 t448 t449 t450 t451) else ((R2_Far.f a1_3 1073741824).bind fun t457 => (if t457 = true then (L2_CongrTight.j1 kj5 t452 t453 true a0_0 a0_1 a1_0 a1_1 a1_2 a1_3 t448 t449 t450 t451) else (if a0_1 > 5000 then (L2_CongrTight.j1 kj5 t452 t453 true a0_0 a0_1 a1_0 a1_1 a1_2 a1_3 t448 t449 t450 t451) else ((R2_Far.f a0_0 1073741824).bind fun t458 => (L2_CongrTight.j1 kj5 t452 t453 t458 a0_0 a0_1 a1_0 a1_1 a1_2 a1_3 t448 t449 t450 t451)))))) = some r := H
    have A46 := am A460
    clear A460
    by_cases c47 : t456 = true
    ·subst c47
     have H1 : (L2_CongrTight.j1 kj5 t452 t453 true a0_0 a0_1 a1_0 a1_1 a1_2 a1_3 t448 t449 t450 t451) = some r := by rw [if_pos rfl] at H; exact H
     clear H
     have H := H1
     clear H1
     have H' := am H
     clear H
     have hnb48 := NB442_441.out
     have hnc48 := NB441_442.out
     have hnb49 := NB442_454.out
     have hnc49 := NB454_442.out
     have hcz50_0 : w45.cell? ⟨gb442, 0, none⟩ = some (.bool a1_0) := bc BK442 0
     have hcz50_1 : w45.cell? ⟨gb442, 1, none⟩ = some (.bool a1_1) := bc BK442 1
     have hcz50_2 : w45.cell? ⟨gb442, 2, none⟩ = some (.int .i64 a1_2) := bc BK442 2
     have hcz50_3 : w45.cell? ⟨gb442, 3, none⟩ = some (.int .i64 a1_3) := bc BK442 3
     have hfz50_0 := blk_frozen BK442.out 0
     have hfz50_1 := blk_frozen BK442.out 1
     have hfz50_2 := blk_frozen BK442.out 2
     have hfz50_3 := blk_frozen BK442.out 3
     go_wp2_with (first | ((with_reducible refine gate_callee (f := 27) rfl ?_); refine goesL_ (some 42) rfl rfl Tryd.func27 kk rfl #[.int .i64 a1_2, .int .i64 1073741824] rfl (by (try simp only [List.map_toArray, List.map_cons, List.map_nil]); first | done | rfl | (simp only [List.length_drop, List.length_take]; rfl)) ?_; (with_reducible refine (R2_Far.calls a1_2 1073741824 true _ A46.out).mono ?_); rintro e w' ⟨rfl, ⟨nd, rfl⟩⟩; refine ⟨_, rfl, ?_⟩))
     go_meet
     case rel => exact ⟨_, (true), pr, H', ⟨by have := HJ5.out; first | omega | exact Nat.le_refl _⟩, ⟨by (with_reducible repeat (first | refine blk_drewN ?_ _ | refine blk_drew ?_ | refine blk_alloc ?_ _)); exact BK441.out⟩, ⟨by (with_reducible repeat (first | refine blk_drewN ?_ _ | refine blk_drew ?_ | refine blk_alloc ?_ _)); exact BK442.out⟩, ⟨by (with_reducible repeat (first | refine blk_drewN ?_ _ | refine blk_drew ?_ | refine blk_alloc ?_ _)); exact BK454.out⟩, ⟨pw⟩⟩
    replace c47 := Bool.eq_false_iff.mpr c47
    subst c47
    have H1 : ((R2_Far.f a1_3 1073741824).bind fun t457 => (if t457 = true then (L2_CongrTight.j1 kj5 t452 t453 true a0_0 a0_1 a1_0 a1_1 a1_2 a1_3 t448 t449 t450 t451) else (if a0_1 > 5000 then (L2_CongrTight.j1 kj5 t452 t453 true a0_0 a0_1 a1_0 a1_1 a1_2 a1_3 t448 t449 t450 t451) else ((R2_Far.f a0_0 1073741824).bind fun t458 => (L2_CongrTight.j1 kj5 t452 t453 t458 a0_0 a0_1 a1_0 a1_1 a1_2 a1_3 t448 t449 t450 t451))))) = some r := by rw [if_neg (show ¬ (false = true) by decide)] at H; exact H
    clear H
    have H := H1
    clear H1
    replace H := Option.bind_eq_some_iff.mp H
    obtain ⟨t457, A510, H⟩ := H
    replace H : (if t457 = true then (L2_CongrTight.j1 kj5 t452 t453 true a0_0 a0_1 a1_0 a1_1 a1_2 a1_3 t448 t449 t450 t451) else (if a0_1 > 5000 then (L2_CongrTight.j1 kj5 t452 t453 true a0_0 a0_1 a1_0 a1_1 a1_2 a1_3 t448 t449 t450 t451) else ((R2_Far.f a0_0 1073741824).bind fun t458 => (L2_CongrTight.j1 kj5 t452 t453 t458 a0_0 a0_1 a1_0 a1_1 a1_2 a1_3 t448 t449 t450 t451)))) = some r := H
    have A51 := am A510
    clear A510
    by_cases c52 : t457 = true
    ·subst c52
     have H1 : (L2_CongrTight.j1 kj5 t452 t453 true a0_0 a0_1 a1_0 a1_1 a1_2 a1_3 t448 t449 t450 t451) = some r := by rw [if_pos rfl] at H; exact H
     clear H
     have H := H1
     clear H1
     have H' := am H
     clear H
     have hnb53 := NB442_441.out
     have hnc53 := NB441_442.out
     have hnb54 := NB442_454.out
     have hnc54 := NB454_442.out
     have hcz55_0 : w45.cell? ⟨gb442, 0, none⟩ = some (.bool a1_0) := bc BK442 0
     have hcz55_1 : w45.cell? ⟨gb442, 1, none⟩ = some (.bool a1_1) := bc BK442 1
     have hcz55_2 : w45.cell? ⟨gb442, 2, none⟩ = some (.int .i64 a1_2) := bc BK442 2
     have hcz55_3 : w45.cell? ⟨gb442, 3, none⟩ = some (.int .i64 a1_3) := bc BK442 3
     have hfz55_0 := blk_frozen BK442.out 0
     have hfz55_1 := blk_frozen BK442.out 1
     have hfz55_2 := blk_frozen BK442.out 2
     have hfz55_3 := blk_frozen BK442.out 3
     go_wp2_with (first | ((with_reducible refine gate_callee (f := 27) rfl ?_); refine goesL_ (some 42) rfl rfl Tryd.func27 kk rfl #[.int .i64 a1_2, .int .i64 1073741824] rfl (by (try simp only [List.map_toArray, List.map_cons, List.map_nil]); first | done | rfl | (simp only [List.length_drop, List.length_take]; rfl)) ?_; (with_reducible refine (R2_Far.calls a1_2 1073741824 false _ A46.out).mono ?_); rintro e w' ⟨rfl, ⟨nd, rfl⟩⟩; refine ⟨_, rfl, ?_⟩) | (go_at_call 27; (with_reducible refine (R2_Far.calls a1_3 1073741824 true _ A51.out).mono ?_); rintro e w' ⟨rfl, ⟨nd, rfl⟩⟩))
     go_meet
     case rel => exact ⟨_, (true), pr, H', ⟨by have := HJ5.out; first | omega | exact Nat.le_refl _⟩, ⟨by (with_reducible repeat (first | refine blk_drewN ?_ _ | refine blk_drew ?_ | refine blk_alloc ?_ _)); exact BK441.out⟩, ⟨by (with_reducible repeat (first | refine blk_drewN ?_ _ | refine blk_drew ?_ | refine blk_alloc ?_ _)); exact BK442.out⟩, ⟨by (with_reducible repeat (first | refine blk_drewN ?_ _ | refine blk_drew ?_ | refine blk_alloc ?_ _)); exact BK454.out⟩, ⟨pw⟩⟩
    replace c52 := Bool.eq_false_iff.mpr c52
    subst c52
    have H1 : (if a0_1 > 5000 then (L2_CongrTight.j1 kj5 t452 t453 true a0_0 a0_1 a1_0 a1_1 a1_2 a1_3 t448 t449 t450 t451) else ((R2_Far.f a0_0 1073741824).bind fun t458 => (L2_CongrTight.j1 kj5 t452 t453 t458 a0_0 a0_1 a1_0 a1_1 a1_2 a1_3 t448 t449 t450 t451))) = some r := by rw [if_neg (show ¬ (false = true) by decide)] at H; exact H
    clear H
    have H := H1
    clear H1
    by_cases c56 : a0_1 > 5000
    ·rw [if_pos c56] at H
     have c56b0 : decide (5000 < a0_1) = true := decide_eq_true c56
     clear c56
     (first | rw [c56b0] | (simp only [i64_w, i32_w]; rw [c56b0]) | skip)
     have H' := am H
     clear H
     have hnb57 := NB442_441.out
     have hnc57 := NB441_442.out
     have hnb58 := NB442_454.out
     have hnc58 := NB454_442.out
     have hcz59_0 : w45.cell? ⟨gb442, 0, none⟩ = some (.bool a1_0) := bc BK442 0
     have hcz59_1 : w45.cell? ⟨gb442, 1, none⟩ = some (.bool a1_1) := bc BK442 1
     have hcz59_2 : w45.cell? ⟨gb442, 2, none⟩ = some (.int .i64 a1_2) := bc BK442 2
     have hcz59_3 : w45.cell? ⟨gb442, 3, none⟩ = some (.int .i64 a1_3) := bc BK442 3
     have hfz59_0 := blk_frozen BK442.out 0
     have hfz59_1 := blk_frozen BK442.out 1
     have hfz59_2 := blk_frozen BK442.out 2
     have hfz59_3 := blk_frozen BK442.out 3
     go_wp2_with (first | ((with_reducible refine gate_callee (f := 27) rfl ?_); refine goesL_ (some 42) rfl rfl Tryd.func27 kk rfl #[.int .i64 a1_2, .int .i64 1073741824] rfl (by (try simp only [List.map_toArray, List.map_cons, List.map_nil]); first | done | rfl | (simp only [List.length_drop, List.length_take]; rfl)) ?_; (with_reducible refine (R2_Far.calls a1_2 1073741824 false _ A46.out).mono ?_); rintro e w' ⟨rfl, ⟨nd, rfl⟩⟩; refine ⟨_, rfl, ?_⟩) | (go_at_call 27; (with_reducible refine (R2_Far.calls a1_3 1073741824 false _ A51.out).mono ?_); rintro e w' ⟨rfl, ⟨nd, rfl⟩⟩; have hnb60 := NB441_454.out; have hnc60 := NB454_441.out; have hcz61_0 : w45.cell? ⟨gb441, 0, none⟩ = some (.int .i64 a0_0) := bc BK441 0; have hcz61_1 : w45.cell? ⟨gb441, 1, none⟩ = some (.int .i64 a0_1) := bc BK441 1; have hfz61_0 := blk_frozen BK441.out 0; have hfz61_1 := blk_frozen BK441.out 1))
     go_meet
     case rel => exact ⟨_, (true), pr, H', ⟨by have := HJ5.out; first | omega | exact Nat.le_refl _⟩, ⟨by (with_reducible repeat (first | refine blk_drewN ?_ _ | refine blk_drew ?_ | refine blk_alloc ?_ _)); exact BK441.out⟩, ⟨by (with_reducible repeat (first | refine blk_drewN ?_ _ | refine blk_drew ?_ | refine blk_alloc ?_ _)); exact BK442.out⟩, ⟨by (with_reducible repeat (first | refine blk_drewN ?_ _ | refine blk_drew ?_ | refine blk_alloc ?_ _)); exact BK454.out⟩, ⟨pw⟩⟩
    rw [if_neg c56] at H
    have c56b0 : decide (5000 < a0_1) = false := decide_eq_false c56
    clear c56
    (first | rw [c56b0] | (simp only [i64_w, i32_w]; rw [c56b0]) | skip)
    replace H := Option.bind_eq_some_iff.mp H
    obtain ⟨t458, A620, H⟩ := H
    replace H : (L2_CongrTight.j1 kj5 t452 t453 t458 a0_0 a0_1 a1_0 a1_1 a1_2 a1_3 t448 t449 t450 t451) = some r := H
    have A62 := am A620
    clear A620
    have H' := am H
    clear H
    have hnb63 := NB442_441.out
    have hnc63 := NB441_442.out
    have hnb64 := NB442_454.out
    have hnc64 := NB454_442.out
    have hcz65_0 : w45.cell? ⟨gb442, 0, none⟩ = some (.bool a1_0) := bc BK442 0
    have hcz65_1 : w45.cell? ⟨gb442, 1, none⟩ = some (.bool a1_1) := bc BK442 1
    have hcz65_2 : w45.cell? ⟨gb442, 2, none⟩ = some (.int .i64 a1_2) := bc BK442 2
    have hcz65_3 : w45.cell? ⟨gb442, 3, none⟩ = some (.int .i64 a1_3) := bc BK442 3
    have hfz65_0 := blk_frozen BK442.out 0
    have hfz65_1 := blk_frozen BK442.out 1
    have hfz65_2 := blk_frozen BK442.out 2
    have hfz65_3 := blk_frozen BK442.out 3
    go_wp2_with (first | ((with_reducible refine gate_callee (f := 27) rfl ?_); refine goesL_ (some 42) rfl rfl Tryd.func27 kk rfl #[.int .i64 a1_2, .int .i64 1073741824] rfl (by (try simp only [List.map_toArray, List.map_cons, List.map_nil]); first | done | rfl | (simp only [List.length_drop, List.length_take]; rfl)) ?_; (with_reducible refine (R2_Far.calls a1_2 1073741824 false _ A46.out).mono ?_); rintro e w' ⟨rfl, ⟨nd, rfl⟩⟩; refine ⟨_, rfl, ?_⟩) | (go_at_call 27; (with_reducible refine (R2_Far.calls a1_3 1073741824 false _ A51.out).mono ?_); rintro e w' ⟨rfl, ⟨nd, rfl⟩⟩; have hnb66 := NB441_454.out; have hnc66 := NB454_441.out; have hcz67_0 : w45.cell? ⟨gb441, 0, none⟩ = some (.int .i64 a0_0) := bc BK441 0; have hcz67_1 : w45.cell? ⟨gb441, 1, none⟩ = some (.int .i64 a0_1) := bc BK441 1; have hfz67_0 := blk_frozen BK441.out 0; have hfz67_1 := blk_frozen BK441.out 1) | (go_at_call 27; (with_reducible refine (R2_Far.calls a0_0 1073741824 t458 _ A62.out).mono ?_); rintro e w' ⟨rfl, ⟨nd, rfl⟩⟩))
    go_meet
    case rel => exact ⟨_, (t458), pr, H', ⟨by have := HJ5.out; first | omega | exact Nat.le_refl _⟩, ⟨by (with_reducible repeat (first | refine blk_drewN ?_ _ | refine blk_drew ?_ | refine blk_alloc ?_ _)); exact BK441.out⟩, ⟨by (with_reducible repeat (first | refine blk_drewN ?_ _ | refine blk_drew ?_ | refine blk_alloc ?_ _)); exact BK442.out⟩, ⟨by (with_reducible repeat (first | refine blk_drewN ?_ _ | refine blk_drew ?_ | refine blk_alloc ?_ _)); exact BK454.out⟩, ⟨pw⟩⟩
   clear HC36
   try clear c1
   try clear c2
   try clear p2
   try clear c3
   try clear c4
   try clear c5
   try clear c6
   try clear c20
   try clear c20b0
   try clear c21
   try clear c22
   try clear c27
   try clear c32
   try clear c33
   try clear c47
   try clear c48
   try clear c49
   try clear c52
   try clear c53
   try clear c54
   try clear c56
   try clear c56b0
   try clear c57
   try clear c58
   try clear c60
   try clear c63
   try clear c64
   try clear c66
   try clear hcz34_0
   try clear hcz34_1
   try clear hcz34_2
   try clear hcz34_3
   try clear hcz50_0
   try clear hcz50_1
   try clear hcz50_2
   try clear hcz50_3
   try clear hcz55_0
   try clear hcz55_1
   try clear hcz55_2
   try clear hcz55_3
   try clear hcz59_0
   try clear hcz59_1
   try clear hcz59_2
   try clear hcz59_3
   try clear hcz61_0
   try clear hcz61_1
   try clear hcz65_0
   try clear hcz65_1
   try clear hcz65_2
   try clear hcz65_3
   try clear hcz67_0
   try clear hcz67_1
   try clear hfz34_0
   try clear hfz34_1
   try clear hfz34_2
   try clear hfz34_3
   try clear hfz50_0
   try clear hfz50_1
   try clear hfz50_2
   try clear hfz50_3
   try clear hfz55_0
   try clear hfz55_1
   try clear hfz55_2
   try clear hfz55_3
   try clear hfz59_0
   try clear hfz59_1
   try clear hfz59_2
   try clear hfz59_3
   try clear hfz61_0
   try clear hfz61_1
   try clear hfz65_0
   try clear hfz65_1
   try clear hfz65_2
   try clear hfz65_3
   try clear hfz67_0
   try clear hfz67_1
   obtain ⟨kq, x57_35, rfl, HA, HJ35, BK441, BK442, BK454, HB⟩ := hcut
   cases kq with
   | zero => exact absurd HA.out (by simp [L2_CongrTight.j1])
   | succ kj35 =>
    have H := HA.out
    clear HA
    simp only [L2_CongrTight.j1] at H
    by_cases c68 : x57_35 = true
    ·subst c68
     have H1 : (if t453.isNone = true then (some true) else (none)) = some r := by rw [if_pos rfl] at H; exact H
     clear H
     have H := H1
     clear H1
     rcases t453 with _ | q459
     ·have H1 : (some true) = some r := by rw [if_pos (show (none : Option Int).isNone = true by rfl)] at H; exact H
      clear H
      have H := H1
      clear H1
      try simp only [errW_none, errW_some]
      obtain rfl := Option.some.inj H
      go_wp2
      go_ret
      exact ⟨pe, pw⟩
     have H1 : (none) = some r := by rw [if_neg (show ¬ (some q459).isNone = true by simp)] at H; exact H
     clear H
     have H := H1
     clear H1
     try simp only [errW_none, errW_some]
     exact absurd H (by simp)
    replace c68 := Bool.eq_false_iff.mpr c68
    subst c68
    have H1 : (if a0_1 = 0 then ((R2_InOf.f a1_0 a1_1 a1_2 a1_3 a0_0).bind fun t460 => (if t460 = true then (if t452 = true then ((L2_isSpan.f t448 t449 t450 t451 t453 false false a0_0 a0_0 0).bind fun t461 => (some t461)) else (none)) else (if t453.isNone = true then (if t452 = true then (none) else (some (!t448 && (!t449 && (t450 == 0 && (t451 == 0)))))) else (none)))) else (if a1_0 = true then (L2_CongrTight.j3 kj35 t452 t453 a0_0 a0_1 a1_0 a1_1 a1_2 a1_3 t448 t449 t450 t451 a1_0 a1_1 a1_2 a1_3) else (L2_CongrTight.l0 kj35 t452 t453 a0_0 a0_1 a1_0 a1_1 a1_2 a1_3 t448 t449 t450 t451 a1_0 a1_1 a1_2 a1_3))) = some r := by rw [if_neg (show ¬ (false = true) by decide)] at H; exact H
    clear H
    have H := H1
    clear H1
    by_cases c69 : a0_1 = 0
    ·rw [if_pos c69] at H
     have c69b0 : (a0_1 == 0) = true := beq_iff_eq.mpr c69
     have c69b1 : (a0_1 != 0) = false := bne_eq_false_iff_eq.mpr c69
     clear c69
     replace H := Option.bind_eq_some_iff.mp H
     obtain ⟨t460, A700, H⟩ := H
     replace H : (if t460 = true then (if t452 = true then ((L2_isSpan.f t448 t449 t450 t451 t453 false false a0_0 a0_0 0).bind fun t461 => (some t461)) else (none)) else (if t453.isNone = true then (if t452 = true then (none) else (some (!t448 && (!t449 && (t450 == 0 && (t451 == 0)))))) else (none))) = some r := H
     have A70 := am A700
     clear A700
     by_cases c71 : t460 = true
     ·subst c71
      have H1 : (if t452 = true then ((L2_isSpan.f t448 t449 t450 t451 t453 false false a0_0 a0_0 0).bind fun t461 => (some t461)) else (none)) = some r := by rw [if_pos rfl] at H; exact H
      clear H
      have H := H1
      clear H1
      by_cases c72 : t452 = true
      ·subst c72
       have H1 : ((L2_isSpan.f t448 t449 t450 t451 t453 false false a0_0 a0_0 0).bind fun t461 => (some t461)) = some r := by rw [if_pos rfl] at H; exact H
       clear H
       have H := H1
       clear H1
       replace H := Option.bind_eq_some_iff.mp H
       obtain ⟨t461, A730, H⟩ := H
       replace H : (some t461) = some r := H
       have A73 := am A730
       clear A730
       obtain rfl := Option.some.inj H
       have hnb74 := NB441_442.out
       have hnc74 := NB442_441.out
       have hnb75 := NB441_454.out
       have hnc75 := NB454_441.out
       have hcz76_0 : wc.cell? ⟨gb441, 0, none⟩ = some (.int .i64 a0_0) := bc BK441 0
       have hcz76_1 : wc.cell? ⟨gb441, 1, none⟩ = some (.int .i64 a0_1) := bc BK441 1
       have hfz76_0 := blk_frozen BK441.out 0
       have hfz76_1 := blk_frozen BK441.out 1
       have hnb77 := NB442_454.out
       have hnc77 := NB454_442.out
       have hcz78_0 : wc.cell? ⟨gb442, 0, none⟩ = some (.bool a1_0) := bc BK442 0
       have hcz78_1 : wc.cell? ⟨gb442, 1, none⟩ = some (.bool a1_1) := bc BK442 1
       have hcz78_2 : wc.cell? ⟨gb442, 2, none⟩ = some (.int .i64 a1_2) := bc BK442 2
       have hcz78_3 : wc.cell? ⟨gb442, 3, none⟩ = some (.int .i64 a1_3) := bc BK442 3
       have hfz78_0 := blk_frozen BK442.out 0
       have hfz78_1 := blk_frozen BK442.out 1
       have hfz78_2 := blk_frozen BK442.out 2
       have hfz78_3 := blk_frozen BK442.out 3
       go_wp2_with (first | ((with_reducible refine gate_callee (f := 17) rfl ?_); refine goesL_ (some 66) rfl rfl Tryd.func17 kk rfl #[.agg #[.bool a1_0, .bool a1_1, .int .i64 a1_2, .int .i64 a1_3], .int .i64 a0_0] rfl (by (try simp only [List.map_toArray, List.map_cons, List.map_nil]); first | done | rfl | (simp only [List.length_drop, List.length_take]; rfl)) ?_; (with_reducible refine (R2_InOf.calls a1_0 a1_1 a1_2 a1_3 a0_0 true _ A70.out).mono ?_); rintro e w79 ⟨rfl, hb⟩; refine ⟨_, rfl, ?_⟩; have n0_ := bb BK441 hb; have n1_ := bb BK442 hb; have n2_ := bb BK454 hb; have n3_ := am (below_step pw hb); clear BK441; clear BK442; clear BK454; clear HB; have BK441 := n0_; have BK442 := n1_; have BK454 := n2_; have HB := n3_; clear n0_ n1_ n2_ n3_; (try clear hb); (try clear hb2); (try clear hk); (try clear hi); have hcz80_0 : w79.cell? ⟨gb454, 0, none⟩ = some (.bool t448) := bc BK454 0; have hcz80_1 : w79.cell? ⟨gb454, 1, none⟩ = some (.bool t449) := bc BK454 1; have hcz80_2 : w79.cell? ⟨gb454, 2, none⟩ = some (.int .i64 t450) := bc BK454 2; have hcz80_3 : w79.cell? ⟨gb454, 3, none⟩ = some (.int .i64 t451) := bc BK454 3; have hfz80_0 := blk_frozen BK454.out 0; have hfz80_1 := blk_frozen BK454.out 1; have hfz80_2 := blk_frozen BK454.out 2; have hfz80_3 := blk_frozen BK454.out 3; have hcz81_0 : w79.cell? ⟨gb441, 0, none⟩ = some (.int .i64 a0_0) := bc BK441 0; have hcz81_1 : w79.cell? ⟨gb441, 1, none⟩ = some (.int .i64 a0_1) := bc BK441 1; have hfz81_0 := blk_frozen BK441.out 0; have hfz81_1 := blk_frozen BK441.out 1; have CA73 := fun (W : World) (hE9_ : ErrAll W) => L2_isSpan.calls t448 t449 t450 t451 t453 false false a0_0 a0_0 0 t461 W A73.out hE9_; try simp only [errW_none, errW_some] at CA73) | (go_at_call 36; (with_reducible refine (CA73 _ (ErrAll.below hE9.out pw)).mono ?_); rintro e w82 ⟨rfl, hb⟩; have n0_ := bb BK441 hb; have n1_ := bb BK442 hb; have n2_ := bb BK454 hb; have n3_ := am (below_step pw hb); clear BK441; clear BK442; clear BK454; clear HB; have BK441 := n0_; have BK442 := n1_; have BK454 := n2_; have HB := n3_; clear n0_ n1_ n2_ n3_; (try clear hb); (try clear hb2); (try clear hk); (try clear hi)))
       go_ret
       exact ⟨pe, pw⟩
      replace c72 := Bool.eq_false_iff.mpr c72
      subst c72
      have H1 : (none) = some r := by rw [if_neg (show ¬ (false = true) by decide)] at H; exact H
      clear H
      have H := H1
      clear H1
      exact absurd H (by simp)
     replace c71 := Bool.eq_false_iff.mpr c71
     subst c71
     have H1 : (if t453.isNone = true then (if t452 = true then (none) else (some (!t448 && (!t449 && (t450 == 0 && (t451 == 0)))))) else (none)) = some r := by rw [if_neg (show ¬ (false = true) by decide)] at H; exact H
     clear H
     have H := H1
     clear H1
     rcases t453 with _ | q462
     ·have H1 : (if t452 = true then (none) else (some (!t448 && (!t449 && (t450 == 0 && (t451 == 0)))))) = some r := by rw [if_pos (show (none : Option Int).isNone = true by rfl)] at H; exact H
      clear H
      have H := H1
      clear H1
      try simp only [errW_none, errW_some]
      by_cases c83 : t452 = true
      ·subst c83
       have H1 : (none) = some r := by rw [if_pos rfl] at H; exact H
       clear H
       have H := H1
       clear H1
       exact absurd H (by simp)
      replace c83 := Bool.eq_false_iff.mpr c83
      subst c83
      have H1 : (some (!t448 && (!t449 && (t450 == 0 && (t451 == 0))))) = some r := by rw [if_neg (show ¬ (false = true) by decide)] at H; exact H
      clear H
      have H := H1
      clear H1
      obtain rfl := Option.some.inj H
      have hnb84 := NB441_442.out
      have hnc84 := NB442_441.out
      have hnb85 := NB441_454.out
      have hnc85 := NB454_441.out
      have hcz86_0 : wc.cell? ⟨gb441, 0, none⟩ = some (.int .i64 a0_0) := bc BK441 0
      have hcz86_1 : wc.cell? ⟨gb441, 1, none⟩ = some (.int .i64 a0_1) := bc BK441 1
      have hfz86_0 := blk_frozen BK441.out 0
      have hfz86_1 := blk_frozen BK441.out 1
      have hnb87 := NB442_454.out
      have hnc87 := NB454_442.out
      have hcz88_0 : wc.cell? ⟨gb442, 0, none⟩ = some (.bool a1_0) := bc BK442 0
      have hcz88_1 : wc.cell? ⟨gb442, 1, none⟩ = some (.bool a1_1) := bc BK442 1
      have hcz88_2 : wc.cell? ⟨gb442, 2, none⟩ = some (.int .i64 a1_2) := bc BK442 2
      have hcz88_3 : wc.cell? ⟨gb442, 3, none⟩ = some (.int .i64 a1_3) := bc BK442 3
      have hfz88_0 := blk_frozen BK442.out 0
      have hfz88_1 := blk_frozen BK442.out 1
      have hfz88_2 := blk_frozen BK442.out 2
      have hfz88_3 := blk_frozen BK442.out 3
      go_wp2_with (first | ((with_reducible refine gate_callee (f := 17) rfl ?_); refine goesL_ (some 66) rfl rfl Tryd.func17 kk rfl #[.agg #[.bool a1_0, .bool a1_1, .int .i64 a1_2, .int .i64 a1_3], .int .i64 a0_0] rfl (by (try simp only [List.map_toArray, List.map_cons, List.map_nil]); first | done | rfl | (simp only [List.length_drop, List.length_take]; rfl)) ?_; (with_reducible refine (R2_InOf.calls a1_0 a1_1 a1_2 a1_3 a0_0 false _ A70.out).mono ?_); rintro e w89 ⟨rfl, hb⟩; refine ⟨_, rfl, ?_⟩; have n0_ := bb BK441 hb; have n1_ := bb BK442 hb; have n2_ := bb BK454 hb; have n3_ := am (below_step pw hb); clear BK441; clear BK442; clear BK454; clear HB; have BK441 := n0_; have BK442 := n1_; have BK454 := n2_; have HB := n3_; clear n0_ n1_ n2_ n3_; (try clear hb); (try clear hb2); (try clear hk); (try clear hi); have hcz90_0 : w89.cell? ⟨gb454, 0, none⟩ = some (.bool t448) := bc BK454 0; have hcz90_1 : w89.cell? ⟨gb454, 1, none⟩ = some (.bool t449) := bc BK454 1; have hcz90_2 : w89.cell? ⟨gb454, 2, none⟩ = some (.int .i64 t450) := bc BK454 2; have hcz90_3 : w89.cell? ⟨gb454, 3, none⟩ = some (.int .i64 t451) := bc BK454 3; have hfz90_0 := blk_frozen BK454.out 0; have hfz90_1 := blk_frozen BK454.out 1; have hfz90_2 := blk_frozen BK454.out 2; have hfz90_3 := blk_frozen BK454.out 3))
      go_ret
      exact ⟨pe, pw⟩
     have H1 : (none) = some r := by rw [if_neg (show ¬ (some q462).isNone = true by simp)] at H; exact H
     clear H
     have H := H1
     clear H1
     try simp only [errW_none, errW_some]
     exact absurd H (by simp)
    rw [if_neg c69] at H
    have c69b0 : (a0_1 == 0) = false := beq_eq_false_iff_ne.mpr c69
    have c69b1 : (a0_1 != 0) = true := bne_iff_ne.mpr c69
    have HC91 := am H
    clear H
    have hnb92 := NB441_442.out
    have hnc92 := NB442_441.out
    have hnb93 := NB441_454.out
    have hnc93 := NB454_441.out
    have hcz94_0 : wc.cell? ⟨gb441, 0, none⟩ = some (.int .i64 a0_0) := bc BK441 0
    have hcz94_1 : wc.cell? ⟨gb441, 1, none⟩ = some (.int .i64 a0_1) := bc BK441 1
    have hfz94_0 := blk_frozen BK441.out 0
    have hfz94_1 := blk_frozen BK441.out 1
    have hnb95 := NB442_454.out
    have hnc95 := NB454_442.out
    have hcz96_0 : wc.cell? ⟨gb442, 0, none⟩ = some (.bool a1_0) := bc BK442 0
    have hcz96_1 : wc.cell? ⟨gb442, 1, none⟩ = some (.bool a1_1) := bc BK442 1
    have hcz96_2 : wc.cell? ⟨gb442, 2, none⟩ = some (.int .i64 a1_2) := bc BK442 2
    have hcz96_3 : wc.cell? ⟨gb442, 3, none⟩ = some (.int .i64 a1_3) := bc BK442 3
    have hfz96_0 := blk_frozen BK442.out 0
    have hfz96_1 := blk_frozen BK442.out 1
    have hfz96_2 := blk_frozen BK442.out 2
    have hfz96_3 := blk_frozen BK442.out 3
    go_upto_if 94 with (first | ((with_reducible refine gate_dst (N := 11) rfl ?_); refine box_event ?hg (N := 11) ?hd (cs := #[.bool false, .bool false, .int .i64 0, .int .i64 0]) (t := 23) ?hr ?_; (case hd => rfl); (case hg => rfl); (case hr => first | (go_simp; done) | (go_simp; rfl)); intro gb463 hg w97 hbox hb; have n0_ := bb BK441 hb; have n1_ := bb BK442 hb; have n2_ := bb BK454 hb; have n3_ := am (below_step pw hb); have n4_ := am (hbox); have n5_ := am ((by rw [hg]; exact (below_size pw) : w.heap.size ≤ gb463)); have n6_ := am ((by rw [hg]; exact (below_size pw) : w.heap.size ≤ gb463)); have n7_ := am ((by rw [hg]; exact Nat.ne_of_lt (blk_lt pk) : gb441 ≠ gb463)); have n8_ := am ((by rw [hg]; exact Nat.ne_of_gt (blk_lt pk) : gb463 ≠ gb441)); have n9_ := am ((by rw [hg]; exact Nat.ne_of_lt (blk_lt pk) : gb442 ≠ gb463)); have n10_ := am ((by rw [hg]; exact Nat.ne_of_gt (blk_lt pk) : gb463 ≠ gb442)); have n11_ := am ((by rw [hg]; exact Nat.ne_of_lt (blk_lt pk) : gb454 ≠ gb463)); have n12_ := am ((by rw [hg]; exact Nat.ne_of_gt (blk_lt pk) : gb463 ≠ gb454)); clear BK441; clear BK442; clear BK454; clear HB; have BK441 := n0_; have BK442 := n1_; have BK454 := n2_; have HB := n3_; have BK463 := n4_; have GW463 := n5_; have GE463 := n6_; have NB441_463 := n7_; have NB463_441 := n8_; have NB442_463 := n9_; have NB463_442 := n10_; have NB454_463 := n11_; have NB463_454 := n12_; clear n0_ n1_ n2_ n3_ n4_ n5_ n6_ n7_ n8_ n9_ n10_ n11_ n12_; clear hb hbox hg; have hnb98 := NB463_441.out; have hnc98 := NB441_463.out; have hnb99 := NB463_442.out; have hnc99 := NB442_463.out; have hnb100 := NB463_454.out; have hnc100 := NB454_463.out; have hcz101_0 : w97.cell? ⟨gb463, 0, none⟩ = some (.bool false) := bc BK463 0; have hcz101_1 : w97.cell? ⟨gb463, 1, none⟩ = some (.bool false) := bc BK463 1; have hcz101_2 : w97.cell? ⟨gb463, 2, none⟩ = some (.int .i64 0) := bc BK463 2; have hcz101_3 : w97.cell? ⟨gb463, 3, none⟩ = some (.int .i64 0) := bc BK463 3; have hfz101_0 := blk_frozen BK463.out 0; have hfz101_1 := blk_frozen BK463.out 1; have hfz101_2 := blk_frozen BK463.out 2; have hfz101_3 := blk_frozen BK463.out 3; have hcz102_0 : w97.cell? ⟨gb442, 0, none⟩ = some (.bool a1_0) := bc BK442 0; have hcz102_1 : w97.cell? ⟨gb442, 1, none⟩ = some (.bool a1_1) := bc BK442 1; have hcz102_2 : w97.cell? ⟨gb442, 2, none⟩ = some (.int .i64 a1_2) := bc BK442 2; have hcz102_3 : w97.cell? ⟨gb442, 3, none⟩ = some (.int .i64 a1_3) := bc BK442 3; have hfz102_0 := blk_frozen BK442.out 0; have hfz102_1 := blk_frozen BK442.out 1; have hfz102_2 := blk_frozen BK442.out 2; have hfz102_3 := blk_frozen BK442.out 3))
    (try simp only [Act.put, List.setIfInBounds_toArray, List.set_cons_zero, List.set_cons_succ])
    go_cut [] (fun wc => ∃ (kq : Nat) (x464002_90 : Int), Aside0 (L2_CongrTight.j3 kq t452 t453 a0_0 a0_1 a1_0 a1_1 a1_2 a1_3 t448 t449 t450 t451 a1_0 a1_1 x464002_90 a1_3 = some r) ∧ Aside0 (kq ≤ kj35) ∧ Aside0 (wc.heap[gb441]? = some (.cells #[.int .i64 a0_0, .int .i64 a0_1] 32 (0, 0))) ∧ Aside0 (wc.heap[gb442]? = some (.cells #[.bool a1_0, .bool a1_1, .int .i64 a1_2, .int .i64 a1_3] 23 (0, 0))) ∧ Aside0 (wc.heap[gb454]? = some (.cells #[.bool t448, .bool t449, .int .i64 t450, .int .i64 t451] 23 (0, 0))) ∧ Aside0 (wc.heap[gb463]? = some (.cells #[.bool a1_0, .bool a1_1, .int .i64 x464002_90, .int .i64 a1_3] 23 (0, 0))) ∧ Aside0 (Below w.heap.size w wc))
    case first =>
     have H := HC91.out
     clear HC91
     by_cases c103 : a1_0 = true
     ·subst c103
      have H1 : (L2_CongrTight.j3 kj35 t452 t453 a0_0 a0_1 true a1_1 a1_2 a1_3 t448 t449 t450 t451 true a1_1 a1_2 a1_3) = some r := by rw [if_pos rfl] at H; exact H
      clear H
      have H := H1
      clear H1
      have H' := am H
      clear H
      go_wp2
      go_meet
      case rel => exact ⟨_, (a1_2), H', ⟨by have := HJ5.out; have := HJ35.out; first | omega | exact Nat.le_refl _⟩, ⟨by (with_reducible repeat (first | refine blk_drewN ?_ _ | refine blk_drew ?_ | refine blk_alloc ?_ _)); refine blk_far ?_ NB441_463.out _; (with_reducible repeat (first | refine blk_drewN ?_ _ | refine blk_drew ?_ | refine blk_alloc ?_ _)); refine blk_far ?_ NB441_463.out _; (with_reducible repeat (first | refine blk_drewN ?_ _ | refine blk_drew ?_ | refine blk_alloc ?_ _)); refine blk_far ?_ NB441_463.out _; (with_reducible repeat (first | refine blk_drewN ?_ _ | refine blk_drew ?_ | refine blk_alloc ?_ _)); refine blk_far ?_ NB441_463.out _; (with_reducible repeat (first | refine blk_drewN ?_ _ | refine blk_drew ?_ | refine blk_alloc ?_ _)); exact BK441.out⟩, ⟨by (with_reducible repeat (first | refine blk_drewN ?_ _ | refine blk_drew ?_ | refine blk_alloc ?_ _)); refine blk_far ?_ NB442_463.out _; (with_reducible repeat (first | refine blk_drewN ?_ _ | refine blk_drew ?_ | refine blk_alloc ?_ _)); refine blk_far ?_ NB442_463.out _; (with_reducible repeat (first | refine blk_drewN ?_ _ | refine blk_drew ?_ | refine blk_alloc ?_ _)); refine blk_far ?_ NB442_463.out _; (with_reducible repeat (first | refine blk_drewN ?_ _ | refine blk_drew ?_ | refine blk_alloc ?_ _)); refine blk_far ?_ NB442_463.out _; (with_reducible repeat (first | refine blk_drewN ?_ _ | refine blk_drew ?_ | refine blk_alloc ?_ _)); exact BK442.out⟩, ⟨by (with_reducible repeat (first | refine blk_drewN ?_ _ | refine blk_drew ?_ | refine blk_alloc ?_ _)); refine blk_far ?_ NB454_463.out _; (with_reducible repeat (first | refine blk_drewN ?_ _ | refine blk_drew ?_ | refine blk_alloc ?_ _)); refine blk_far ?_ NB454_463.out _; (with_reducible repeat (first | refine blk_drewN ?_ _ | refine blk_drew ?_ | refine blk_alloc ?_ _)); refine blk_far ?_ NB454_463.out _; (with_reducible repeat (first | refine blk_drewN ?_ _ | refine blk_drew ?_ | refine blk_alloc ?_ _)); refine blk_far ?_ NB454_463.out _; (with_reducible repeat (first | refine blk_drewN ?_ _ | refine blk_drew ?_ | refine blk_alloc ?_ _)); exact BK454.out⟩, ⟨by (with_reducible repeat (first | refine blk_drewN ?_ _ | refine blk_drew ?_ | refine blk_alloc ?_ _)); refine blk_put (cs := #[.bool true, .bool a1_1, .int .i64 a1_2, .int .i64 0]) ?_ 3 _ rfl; (with_reducible repeat (first | refine blk_drewN ?_ _ | refine blk_drew ?_ | refine blk_alloc ?_ _)); refine blk_put (cs := #[.bool true, .bool a1_1, .int .i64 0, .int .i64 0]) ?_ 2 _ rfl; (with_reducible repeat (first | refine blk_drewN ?_ _ | refine blk_drew ?_ | refine blk_alloc ?_ _)); refine blk_put (cs := #[.bool true, .bool false, .int .i64 0, .int .i64 0]) ?_ 1 _ rfl; (with_reducible repeat (first | refine blk_drewN ?_ _ | refine blk_drew ?_ | refine blk_alloc ?_ _)); refine blk_put (cs := #[.bool false, .bool false, .int .i64 0, .int .i64 0]) ?_ 0 _ rfl; (with_reducible repeat (first | refine blk_drewN ?_ _ | refine blk_drew ?_ | refine blk_alloc ?_ _)); exact BK463.out⟩, ⟨pw⟩⟩
     replace c103 := Bool.eq_false_iff.mpr c103
     subst c103
     have H1 : (L2_CongrTight.l0 kj35 t452 t453 a0_0 a0_1 false a1_1 a1_2 a1_3 t448 t449 t450 t451 false a1_1 a1_2 a1_3) = some r := by rw [if_neg (show ¬ (false = true) by decide)] at H; exact H
     clear H
     have H := H1
     clear H1
     have H' := am H
     clear H
     go_wp2
     go_loopg [] kj35 (fun kq w' => ∃ (x464002_3 : Int), Aside0 (L2_CongrTight.l0 kq t452 t453 a0_0 a0_1 false a1_1 a1_2 a1_3 t448 t449 t450 t451 false a1_1 x464002_3 a1_3 = some r) ∧ Aside0 (kq ≤ kj35) ∧ Aside0 (w'.heap[gb441]? = some (.cells #[.int .i64 a0_0, .int .i64 a0_1] 32 (0, 0))) ∧ Aside0 (w'.heap[gb442]? = some (.cells #[.bool false, .bool a1_1, .int .i64 a1_2, .int .i64 a1_3] 23 (0, 0))) ∧ Aside0 (w'.heap[gb454]? = some (.cells #[.bool t448, .bool t449, .int .i64 t450, .int .i64 t451] 23 (0, 0))) ∧ Aside0 (w'.heap[gb463]? = some (.cells #[.bool false, .bool a1_1, .int .i64 x464002_3, .int .i64 a1_3] 23 (0, 0))) ∧ Aside0 (Below w.heap.size w w'))
     case atStart => exact ⟨(a1_2), H', ⟨Nat.le_refl _⟩, ⟨by (with_reducible repeat (first | refine blk_drewN ?_ _ | refine blk_drew ?_ | refine blk_alloc ?_ _)); refine blk_far ?_ NB441_463.out _; (with_reducible repeat (first | refine blk_drewN ?_ _ | refine blk_drew ?_ | refine blk_alloc ?_ _)); refine blk_far ?_ NB441_463.out _; (with_reducible repeat (first | refine blk_drewN ?_ _ | refine blk_drew ?_ | refine blk_alloc ?_ _)); refine blk_far ?_ NB441_463.out _; (with_reducible repeat (first | refine blk_drewN ?_ _ | refine blk_drew ?_ | refine blk_alloc ?_ _)); refine blk_far ?_ NB441_463.out _; (with_reducible repeat (first | refine blk_drewN ?_ _ | refine blk_drew ?_ | refine blk_alloc ?_ _)); exact BK441.out⟩, ⟨by (with_reducible repeat (first | refine blk_drewN ?_ _ | refine blk_drew ?_ | refine blk_alloc ?_ _)); refine blk_far ?_ NB442_463.out _; (with_reducible repeat (first | refine blk_drewN ?_ _ | refine blk_drew ?_ | refine blk_alloc ?_ _)); refine blk_far ?_ NB442_463.out _; (with_reducible repeat (first | refine blk_drewN ?_ _ | refine blk_drew ?_ | refine blk_alloc ?_ _)); refine blk_far ?_ NB442_463.out _; (with_reducible repeat (first | refine blk_drewN ?_ _ | refine blk_drew ?_ | refine blk_alloc ?_ _)); refine blk_far ?_ NB442_463.out _; (with_reducible repeat (first | refine blk_drewN ?_ _ | refine blk_drew ?_ | refine blk_alloc ?_ _)); exact BK442.out⟩, ⟨by (with_reducible repeat (first | refine blk_drewN ?_ _ | refine blk_drew ?_ | refine blk_alloc ?_ _)); refine blk_far ?_ NB454_463.out _; (with_reducible repeat (first | refine blk_drewN ?_ _ | refine blk_drew ?_ | refine blk_alloc ?_ _)); refine blk_far ?_ NB454_463.out _; (with_reducible repeat (first | refine blk_drewN ?_ _ | refine blk_drew ?_ | refine blk_alloc ?_ _)); refine blk_far ?_ NB454_463.out _; (with_reducible repeat (first | refine blk_drewN ?_ _ | refine blk_drew ?_ | refine blk_alloc ?_ _)); refine blk_far ?_ NB454_463.out _; (with_reducible repeat (first | refine blk_drewN ?_ _ | refine blk_drew ?_ | refine blk_alloc ?_ _)); exact BK454.out⟩, ⟨by (with_reducible repeat (first | refine blk_drewN ?_ _ | refine blk_drew ?_ | refine blk_alloc ?_ _)); refine blk_put (cs := #[.bool false, .bool a1_1, .int .i64 a1_2, .int .i64 0]) ?_ 3 _ rfl; (with_reducible repeat (first | refine blk_drewN ?_ _ | refine blk_drew ?_ | refine blk_alloc ?_ _)); refine blk_put (cs := #[.bool false, .bool a1_1, .int .i64 0, .int .i64 0]) ?_ 2 _ rfl; (with_reducible repeat (first | refine blk_drewN ?_ _ | refine blk_drew ?_ | refine blk_alloc ?_ _)); refine blk_put (cs := #[.bool false, .bool false, .int .i64 0, .int .i64 0]) ?_ 1 _ rfl; (with_reducible repeat (first | refine blk_drewN ?_ _ | refine blk_drew ?_ | refine blk_alloc ?_ _)); refine blk_put (cs := #[.bool false, .bool false, .int .i64 0, .int .i64 0]) ?_ 0 _ rfl; (with_reducible repeat (first | refine blk_drewN ?_ _ | refine blk_drew ?_ | refine blk_alloc ?_ _)); exact BK463.out⟩, ⟨pw⟩⟩
     case round =>
      clear H'
      try clear c1
      try clear c2
      try clear p2
      try clear c3
      try clear c4
      try clear q4
      try clear c5
      try clear c6
      try clear c7
      try clear c8
      try clear c9
      try clear c10
      try clear c17
      try clear c20
      try clear c20b0
      try clear c21
      try clear c22
      try clear c27
      try clear c32
      try clear c33
      try clear q45
      try clear q46
      try clear c47
      try clear c48
      try clear c49
      try clear c52
      try clear c53
      try clear c54
      try clear c56
      try clear c56b0
      try clear c57
      try clear c58
      try clear c60
      try clear c63
      try clear c64
      try clear c66
      try clear c68
      try clear c69
      try clear c69b0
      try clear c69b1
      try clear c71
      try clear c72
      try clear c74
      try clear c75
      try clear c77
      try clear c83
      try clear c84
      try clear c85
      try clear c87
      try clear c92
      try clear c93
      try clear c95
      try clear c98
      try clear c99
      try clear c100
      try clear c103
      try clear hcz101_0
      try clear hcz101_1
      try clear hcz101_2
      try clear hcz101_3
      try clear hcz102_0
      try clear hcz102_1
      try clear hcz102_2
      try clear hcz102_3
      try clear hcz34_0
      try clear hcz34_1
      try clear hcz34_2
      try clear hcz34_3
      try clear hcz50_0
      try clear hcz50_1
      try clear hcz50_2
      try clear hcz50_3
      try clear hcz55_0
      try clear hcz55_1
      try clear hcz55_2
      try clear hcz55_3
      try clear hcz59_0
      try clear hcz59_1
      try clear hcz59_2
      try clear hcz59_3
      try clear hcz61_0
      try clear hcz61_1
      try clear hcz65_0
      try clear hcz65_1
      try clear hcz65_2
      try clear hcz65_3
      try clear hcz67_0
      try clear hcz67_1
      try clear hcz76_0
      try clear hcz76_1
      try clear hcz78_0
      try clear hcz78_1
      try clear hcz78_2
      try clear hcz78_3
      try clear hcz80_0
      try clear hcz80_1
      try clear hcz80_2
      try clear hcz80_3
      try clear hcz81_0
      try clear hcz81_1
      try clear hcz86_0
      try clear hcz86_1
      try clear hcz88_0
      try clear hcz88_1
      try clear hcz88_2
      try clear hcz88_3
      try clear hcz90_0
      try clear hcz90_1
      try clear hcz90_2
      try clear hcz90_3
      try clear hcz94_0
      try clear hcz94_1
      try clear hcz96_0
      try clear hcz96_1
      try clear hcz96_2
      try clear hcz96_3
      try clear hfz101_0
      try clear hfz101_1
      try clear hfz101_2
      try clear hfz101_3
      try clear hfz102_0
      try clear hfz102_1
      try clear hfz102_2
      try clear hfz102_3
      try clear hfz34_0
      try clear hfz34_1
      try clear hfz34_2
      try clear hfz34_3
      try clear hfz50_0
      try clear hfz50_1
      try clear hfz50_2
      try clear hfz50_3
      try clear hfz55_0
      try clear hfz55_1
      try clear hfz55_2
      try clear hfz55_3
      try clear hfz59_0
      try clear hfz59_1
      try clear hfz59_2
      try clear hfz59_3
      try clear hfz61_0
      try clear hfz61_1
      try clear hfz65_0
      try clear hfz65_1
      try clear hfz65_2
      try clear hfz65_3
      try clear hfz67_0
      try clear hfz67_1
      try clear hfz76_0
      try clear hfz76_1
      try clear hfz78_0
      try clear hfz78_1
      try clear hfz78_2
      try clear hfz78_3
      try clear hfz80_0
      try clear hfz80_1
      try clear hfz80_2
      try clear hfz80_3
      try clear hfz81_0
      try clear hfz81_1
      try clear hfz86_0
      try clear hfz86_1
      try clear hfz88_0
      try clear hfz88_1
      try clear hfz88_2
      try clear hfz88_3
      try clear hfz90_0
      try clear hfz90_1
      try clear hfz90_2
      try clear hfz90_3
      try clear hfz94_0
      try clear hfz94_1
      try clear hfz96_0
      try clear hfz96_1
      try clear hfz96_2
      try clear hfz96_3
      try clear p2
      try clear q459
      try clear q462
      obtain ⟨x464002_3, HA, HK3, BK441, BK442, BK454, BK463, HB⟩ := hrel
      cases gk with
      | zero => exact absurd HA.out (by simp [L2_CongrTight.l0])
      | succ k3 =>
       have H := HA.out
       clear HA
       simp only [L2_CongrTight.l0] at H
       replace H := Option.bind_eq_some_iff.mp H
       obtain ⟨t464, A1040, H⟩ := H
       replace H : (if t464 = true then (L2_CongrTight.j3 k3 t452 t453 a0_0 a0_1 false a1_1 a1_2 a1_3 t448 t449 t450 t451 false a1_1 x464002_3 a1_3) else (L2_CongrTight.l0 k3 t452 t453 a0_0 a0_1 false a1_1 a1_2 a1_3 t448 t449 t450 t451 false a1_1 (wrap64 (x464002_3 + 1)) a1_3)) = some r := H
       have A104 := am A1040
       clear A1040
       by_cases c105 : t464 = true
       ·subst c105
        have H1 : (L2_CongrTight.j3 k3 t452 t453 a0_0 a0_1 false a1_1 a1_2 a1_3 t448 t449 t450 t451 false a1_1 x464002_3 a1_3) = some r := by rw [if_pos rfl] at H; exact H
        clear H
        have H := H1
        clear H1
        have H' := am H
        clear H
        have hnb106 := NB441_442.out
        have hnc106 := NB442_441.out
        have hnb107 := NB441_454.out
        have hnc107 := NB454_441.out
        have hnb108 := NB441_463.out
        have hnc108 := NB463_441.out
        have hcz109_0 : wr.cell? ⟨gb441, 0, none⟩ = some (.int .i64 a0_0) := bc BK441 0
        have hcz109_1 : wr.cell? ⟨gb441, 1, none⟩ = some (.int .i64 a0_1) := bc BK441 1
        have hfz109_0 := blk_frozen BK441.out 0
        have hfz109_1 := blk_frozen BK441.out 1
        have hnb110 := NB463_442.out
        have hnc110 := NB442_463.out
        have hnb111 := NB463_454.out
        have hnc111 := NB454_463.out
        have hcz112_0 : wr.cell? ⟨gb463, 0, none⟩ = some (.bool false) := bc BK463 0
        have hcz112_1 : wr.cell? ⟨gb463, 1, none⟩ = some (.bool a1_1) := bc BK463 1
        have hcz112_2 : wr.cell? ⟨gb463, 2, none⟩ = some (.int .i64 x464002_3) := bc BK463 2
        have hcz112_3 : wr.cell? ⟨gb463, 3, none⟩ = some (.int .i64 a1_3) := bc BK463 3
        have hfz112_0 := blk_frozen BK463.out 0
        have hfz112_1 := blk_frozen BK463.out 1
        have hfz112_2 := blk_frozen BK463.out 2
        have hfz112_3 := blk_frozen BK463.out 3
        go_wp2_with (first | ((with_reducible refine gate_callee (f := 23) rfl ?_); refine goesL_ (some 98) rfl rfl Tryd.func23 kk rfl #[.agg #[.int .i64 a0_0, .int .i64 a0_1], .int .i64 x464002_3] rfl (by (try simp only [List.map_toArray, List.map_cons, List.map_nil]); first | done | rfl | (simp only [List.length_drop, List.length_take]; rfl)) ?_; (with_reducible refine (R2_LeavesOf.calls a0_0 a0_1 x464002_3 true _ A104.out).mono ?_); rintro e w113 ⟨rfl, hb⟩; refine ⟨_, rfl, ?_⟩; have n0_ := bb BK441 hb; have n1_ := bb BK442 hb; have n2_ := bb BK454 hb; have n3_ := bb BK463 hb; have n4_ := am (below_step pw hb); clear BK441; clear BK442; clear BK454; clear BK463; clear HB; have BK441 := n0_; have BK442 := n1_; have BK454 := n2_; have BK463 := n3_; have HB := n4_; clear n0_ n1_ n2_ n3_ n4_; (try clear hb); (try clear hb2); (try clear hk); (try clear hi)))
        go_meet
        case rel => exact ⟨_, (x464002_3), H', ⟨by have := HJ5.out; have := HJ35.out; have := HK3.out; first | omega | exact Nat.le_refl _⟩, ⟨by (with_reducible repeat (first | refine blk_drewN ?_ _ | refine blk_drew ?_ | refine blk_alloc ?_ _)); exact BK441.out⟩, ⟨by (with_reducible repeat (first | refine blk_drewN ?_ _ | refine blk_drew ?_ | refine blk_alloc ?_ _)); exact BK442.out⟩, ⟨by (with_reducible repeat (first | refine blk_drewN ?_ _ | refine blk_drew ?_ | refine blk_alloc ?_ _)); exact BK454.out⟩, ⟨by (with_reducible repeat (first | refine blk_drewN ?_ _ | refine blk_drew ?_ | refine blk_alloc ?_ _)); exact BK463.out⟩, ⟨pw⟩⟩
       replace c105 := Bool.eq_false_iff.mpr c105
       subst c105
       have H1 : (L2_CongrTight.l0 k3 t452 t453 a0_0 a0_1 false a1_1 a1_2 a1_3 t448 t449 t450 t451 false a1_1 (wrap64 (x464002_3 + 1)) a1_3) = some r := by rw [if_neg (show ¬ (false = true) by decide)] at H; exact H
       clear H
       have H := H1
       clear H1
       have H' := am H
       clear H
       have hnb114 := NB441_442.out
       have hnc114 := NB442_441.out
       have hnb115 := NB441_454.out
       have hnc115 := NB454_441.out
       have hnb116 := NB441_463.out
       have hnc116 := NB463_441.out
       have hcz117_0 : wr.cell? ⟨gb441, 0, none⟩ = some (.int .i64 a0_0) := bc BK441 0
       have hcz117_1 : wr.cell? ⟨gb441, 1, none⟩ = some (.int .i64 a0_1) := bc BK441 1
       have hfz117_0 := blk_frozen BK441.out 0
       have hfz117_1 := blk_frozen BK441.out 1
       have hnb118 := NB463_442.out
       have hnc118 := NB442_463.out
       have hnb119 := NB463_454.out
       have hnc119 := NB454_463.out
       have hcz120_0 : wr.cell? ⟨gb463, 0, none⟩ = some (.bool false) := bc BK463 0
       have hcz120_1 : wr.cell? ⟨gb463, 1, none⟩ = some (.bool a1_1) := bc BK463 1
       have hcz120_2 : wr.cell? ⟨gb463, 2, none⟩ = some (.int .i64 x464002_3) := bc BK463 2
       have hcz120_3 : wr.cell? ⟨gb463, 3, none⟩ = some (.int .i64 a1_3) := bc BK463 3
       have hfz120_0 := blk_frozen BK463.out 0
       have hfz120_1 := blk_frozen BK463.out 1
       have hfz120_2 := blk_frozen BK463.out 2
       have hfz120_3 := blk_frozen BK463.out 3
       go_wp2_with (first | ((with_reducible refine gate_callee (f := 23) rfl ?_); refine goesL_ (some 98) rfl rfl Tryd.func23 kk rfl #[.agg #[.int .i64 a0_0, .int .i64 a0_1], .int .i64 x464002_3] rfl (by (try simp only [List.map_toArray, List.map_cons, List.map_nil]); first | done | rfl | (simp only [List.length_drop, List.length_take]; rfl)) ?_; (with_reducible refine (R2_LeavesOf.calls a0_0 a0_1 x464002_3 false _ A104.out).mono ?_); rintro e w121 ⟨rfl, hb⟩; refine ⟨_, rfl, ?_⟩; have n0_ := bb BK441 hb; have n1_ := bb BK442 hb; have n2_ := bb BK454 hb; have n3_ := bb BK463 hb; have n4_ := am (below_step pw hb); clear BK441; clear BK442; clear BK454; clear BK463; clear HB; have BK441 := n0_; have BK442 := n1_; have BK454 := n2_; have BK463 := n3_; have HB := n4_; clear n0_ n1_ n2_ n3_ n4_; (try clear hb); (try clear hb2); (try clear hk); (try clear hi); have hcz122_0 : w121.cell? ⟨gb463, 0, none⟩ = some (.bool false) := bc BK463 0; have hcz122_1 : w121.cell? ⟨gb463, 1, none⟩ = some (.bool a1_1) := bc BK463 1; have hcz122_2 : w121.cell? ⟨gb463, 2, none⟩ = some (.int .i64 x464002_3) := bc BK463 2; have hcz122_3 : w121.cell? ⟨gb463, 3, none⟩ = some (.int .i64 a1_3) := bc BK463 3; have hfz122_0 := blk_frozen BK463.out 0; have hfz122_1 := blk_frozen BK463.out 1; have hfz122_2 := blk_frozen BK463.out 2; have hfz122_3 := blk_frozen BK463.out 3))
       go_roundg k3
       case measure => have := HJ5.out; have := HJ35.out; have := HK3.out; omega
       case rel => exact ⟨(wrap64 (x464002_3 + 1)), H', ⟨by have := HJ5.out; have := HJ35.out; have := HK3.out; omega⟩, ⟨by (with_reducible repeat (first | refine blk_drewN ?_ _ | refine blk_drew ?_ | refine blk_alloc ?_ _)); refine blk_far ?_ NB441_463.out _; (with_reducible repeat (first | refine blk_drewN ?_ _ | refine blk_drew ?_ | refine blk_alloc ?_ _)); exact BK441.out⟩, ⟨by (with_reducible repeat (first | refine blk_drewN ?_ _ | refine blk_drew ?_ | refine blk_alloc ?_ _)); refine blk_far ?_ NB442_463.out _; (with_reducible repeat (first | refine blk_drewN ?_ _ | refine blk_drew ?_ | refine blk_alloc ?_ _)); exact BK442.out⟩, ⟨by (with_reducible repeat (first | refine blk_drewN ?_ _ | refine blk_drew ?_ | refine blk_alloc ?_ _)); refine blk_far ?_ NB454_463.out _; (with_reducible repeat (first | refine blk_drewN ?_ _ | refine blk_drew ?_ | refine blk_alloc ?_ _)); exact BK454.out⟩, ⟨by (with_reducible repeat (first | refine blk_drewN ?_ _ | refine blk_drew ?_ | refine blk_alloc ?_ _)); refine blk_put (cs := #[.bool false, .bool a1_1, .int .i64 x464002_3, .int .i64 a1_3]) ?_ 2 _ rfl; (with_reducible repeat (first | refine blk_drewN ?_ _ | refine blk_drew ?_ | refine blk_alloc ?_ _)); exact BK463.out⟩, ⟨pw⟩⟩
    clear HC91
    try clear c1
    try clear c2
    try clear p2
    try clear c3
    try clear c4
    try clear q4
    try clear c5
    try clear c6
    try clear p6
    try clear c7
    try clear c8
    try clear c9
    try clear c10
    try clear c11
    try clear c17
    try clear c20
    try clear c20b0
    try clear c21
    try clear c22
    try clear c23
    try clear c27
    try clear c32
    try clear c33
    try clear q45
    try clear q46
    try clear c47
    try clear c48
    try clear c49
    try clear c52
    try clear c53
    try clear c54
    try clear c56
    try clear c56b0
    try clear c57
    try clear c58
    try clear c60
    try clear c63
    try clear c64
    try clear p64
    try clear c66
    try clear c68
    try clear c69
    try clear c69b0
    try clear c69b1
    try clear c71
    try clear c72
    try clear c74
    try clear c75
    try clear c77
    try clear c83
    try clear c84
    try clear c85
    try clear c87
    try clear c92
    try clear c93
    try clear c95
    try clear c98
    try clear c99
    try clear c100
    try clear c103
    try clear c105
    try clear c106
    try clear c107
    try clear c108
    try clear c110
    try clear c111
    try clear c114
    try clear c115
    try clear c116
    try clear c118
    try clear c119
    try clear hcz101_0
    try clear hcz101_1
    try clear hcz101_2
    try clear hcz101_3
    try clear hcz102_0
    try clear hcz102_1
    try clear hcz102_2
    try clear hcz102_3
    try clear hcz109_0
    try clear hcz109_1
    try clear hcz112_0
    try clear hcz112_1
    try clear hcz112_2
    try clear hcz112_3
    try clear hcz117_0
    try clear hcz117_1
    try clear hcz120_0
    try clear hcz120_1
    try clear hcz120_2
    try clear hcz120_3
    try clear hcz122_0
    try clear hcz122_1
    try clear hcz122_2
    try clear hcz122_3
    try clear hcz34_0
    try clear hcz34_1
    try clear hcz34_2
    try clear hcz34_3
    try clear hcz50_0
    try clear hcz50_1
    try clear hcz50_2
    try clear hcz50_3
    try clear hcz55_0
    try clear hcz55_1
    try clear hcz55_2
    try clear hcz55_3
    try clear hcz59_0
    try clear hcz59_1
    try clear hcz59_2
    try clear hcz59_3
    try clear hcz61_0
    try clear hcz61_1
    try clear hcz65_0
    try clear hcz65_1
    try clear hcz65_2
    try clear hcz65_3
    try clear hcz67_0
    try clear hcz67_1
    try clear hcz76_0
    try clear hcz76_1
    try clear hcz78_0
    try clear hcz78_1
    try clear hcz78_2
    try clear hcz78_3
    try clear hcz80_0
    try clear hcz80_1
    try clear hcz80_2
    try clear hcz80_3
    try clear hcz81_0
    try clear hcz81_1
    try clear hcz86_0
    try clear hcz86_1
    try clear hcz88_0
    try clear hcz88_1
    try clear hcz88_2
    try clear hcz88_3
    try clear hcz90_0
    try clear hcz90_1
    try clear hcz90_2
    try clear hcz90_3
    try clear hcz94_0
    try clear hcz94_1
    try clear hcz96_0
    try clear hcz96_1
    try clear hcz96_2
    try clear hcz96_3
    try clear hfz101_0
    try clear hfz101_1
    try clear hfz101_2
    try clear hfz101_3
    try clear hfz102_0
    try clear hfz102_1
    try clear hfz102_2
    try clear hfz102_3
    try clear hfz109_0
    try clear hfz109_1
    try clear hfz112_0
    try clear hfz112_1
    try clear hfz112_2
    try clear hfz112_3
    try clear hfz117_0
    try clear hfz117_1
    try clear hfz120_0
    try clear hfz120_1
    try clear hfz120_2
    try clear hfz120_3
    try clear hfz122_0
    try clear hfz122_1
    try clear hfz122_2
    try clear hfz122_3
    try clear hfz34_0
    try clear hfz34_1
    try clear hfz34_2
    try clear hfz34_3
    try clear hfz50_0
    try clear hfz50_1
    try clear hfz50_2
    try clear hfz50_3
    try clear hfz55_0
    try clear hfz55_1
    try clear hfz55_2
    try clear hfz55_3
    try clear hfz59_0
    try clear hfz59_1
    try clear hfz59_2
    try clear hfz59_3
    try clear hfz61_0
    try clear hfz61_1
    try clear hfz65_0
    try clear hfz65_1
    try clear hfz65_2
    try clear hfz65_3
    try clear hfz67_0
    try clear hfz67_1
    try clear hfz76_0
    try clear hfz76_1
    try clear hfz78_0
    try clear hfz78_1
    try clear hfz78_2
    try clear hfz78_3
    try clear hfz80_0
    try clear hfz80_1
    try clear hfz80_2
    try clear hfz80_3
    try clear hfz81_0
    try clear hfz81_1
    try clear hfz86_0
    try clear hfz86_1
    try clear hfz88_0
    try clear hfz88_1
    try clear hfz88_2
    try clear hfz88_3
    try clear hfz90_0
    try clear hfz90_1
    try clear hfz90_2
    try clear hfz90_3
    try clear hfz94_0
    try clear hfz94_1
    try clear hfz96_0
    try clear hfz96_1
    try clear hfz96_2
    try clear hfz96_3
    try clear p2
    try clear q4
    try clear q45
    try clear q459
    try clear q46
    try clear q462
    obtain ⟨kq, x464002_90, HA, HJ90, BK441, BK442, BK454, BK463, HB⟩ := hcut
    cases kq with
    | zero => exact absurd HA.out (by simp [L2_CongrTight.j3])
    | succ kj90 =>
     have H := HA.out
     clear HA
     simp only [L2_CongrTight.j3] at H
     by_cases c123 : a1_1 = true
     ·subst c123
      have H1 : (if a1_0 = true then (if t452 = true then ((L2_isSpan.f t448 t449 t450 t451 t453 a1_0 true x464002_90 a1_3 0).bind fun t465 => (some t465)) else (none)) else (if true = true then (if t452 = true then ((L2_isSpan.f t448 t449 t450 t451 t453 a1_0 true x464002_90 a1_3 0).bind fun t466 => (some t466)) else (none)) else (if x464002_90 > a1_3 then (if t453.isNone = true then (if t452 = true then (none) else (some (!t448 && (!t449 && (t450 == 0 && (t451 == 0)))))) else (none)) else (if t452 = true then ((L2_isSpan.f t448 t449 t450 t451 t453 a1_0 true x464002_90 a1_3 0).bind fun t468 => (some t468)) else (none))))) = some r := by rw [if_pos rfl] at H; exact H
      clear H
      have H := H1
      clear H1
      by_cases c124 : a1_0 = true
      ·subst c124
       have H1 : (if t452 = true then ((L2_isSpan.f t448 t449 t450 t451 t453 true true x464002_90 a1_3 0).bind fun t465 => (some t465)) else (none)) = some r := by rw [if_pos rfl] at H; exact H
       clear H
       have H := H1
       clear H1
       by_cases c125 : t452 = true
       ·subst c125
        have H1 : ((L2_isSpan.f t448 t449 t450 t451 t453 true true x464002_90 a1_3 0).bind fun t465 => (some t465)) = some r := by rw [if_pos rfl] at H; exact H
        clear H
        have H := H1
        clear H1
        replace H := Option.bind_eq_some_iff.mp H
        obtain ⟨t465, A1260, H⟩ := H
        replace H : (some t465) = some r := H
        have A126 := am A1260
        clear A1260
        obtain rfl := Option.some.inj H
        have hnb127 := NB442_441.out
        have hnc127 := NB441_442.out
        have hnb128 := NB442_454.out
        have hnc128 := NB454_442.out
        have hnb129 := NB442_463.out
        have hnc129 := NB463_442.out
        have hcz130_0 : wc.cell? ⟨gb442, 0, none⟩ = some (.bool true) := bc BK442 0
        have hcz130_1 : wc.cell? ⟨gb442, 1, none⟩ = some (.bool true) := bc BK442 1
        have hcz130_2 : wc.cell? ⟨gb442, 2, none⟩ = some (.int .i64 a1_2) := bc BK442 2
        have hcz130_3 : wc.cell? ⟨gb442, 3, none⟩ = some (.int .i64 a1_3) := bc BK442 3
        have hfz130_0 := blk_frozen BK442.out 0
        have hfz130_1 := blk_frozen BK442.out 1
        have hfz130_2 := blk_frozen BK442.out 2
        have hfz130_3 := blk_frozen BK442.out 3
        have hnb131 := NB463_441.out
        have hnc131 := NB441_463.out
        have hnb132 := NB463_454.out
        have hnc132 := NB454_463.out
        have hcz133_0 : wc.cell? ⟨gb463, 0, none⟩ = some (.bool true) := bc BK463 0
        have hcz133_1 : wc.cell? ⟨gb463, 1, none⟩ = some (.bool true) := bc BK463 1
        have hcz133_2 : wc.cell? ⟨gb463, 2, none⟩ = some (.int .i64 x464002_90) := bc BK463 2
        have hcz133_3 : wc.cell? ⟨gb463, 3, none⟩ = some (.int .i64 a1_3) := bc BK463 3
        have hfz133_0 := blk_frozen BK463.out 0
        have hfz133_1 := blk_frozen BK463.out 1
        have hfz133_2 := blk_frozen BK463.out 2
        have hfz133_3 := blk_frozen BK463.out 3
        have hnb134 := NB454_441.out
        have hnc134 := NB441_454.out
        have hcz135_0 : wc.cell? ⟨gb454, 0, none⟩ = some (.bool t448) := bc BK454 0
        have hcz135_1 : wc.cell? ⟨gb454, 1, none⟩ = some (.bool t449) := bc BK454 1
        have hcz135_2 : wc.cell? ⟨gb454, 2, none⟩ = some (.int .i64 t450) := bc BK454 2
        have hcz135_3 : wc.cell? ⟨gb454, 3, none⟩ = some (.int .i64 t451) := bc BK454 3
        have hfz135_0 := blk_frozen BK454.out 0
        have hfz135_1 := blk_frozen BK454.out 1
        have hfz135_2 := blk_frozen BK454.out 2
        have hfz135_3 := blk_frozen BK454.out 3
        have CA126 := fun (W : World) (hE9_ : ErrAll W) => L2_isSpan.calls t448 t449 t450 t451 t453 true true x464002_90 a1_3 0 t465 W A126.out hE9_
        try simp only [errW_none, errW_some] at CA126
        go_wp2_with (first | (go_at_call 36; (with_reducible refine (CA126 _ (ErrAll.below hE9.out pw)).mono ?_); rintro e w136 ⟨rfl, hb⟩; have n0_ := bb BK441 hb; have n1_ := bb BK442 hb; have n2_ := bb BK454 hb; have n3_ := bb BK463 hb; have n4_ := am (below_step pw hb); clear BK441; clear BK442; clear BK454; clear BK463; clear HB; have BK441 := n0_; have BK442 := n1_; have BK454 := n2_; have BK463 := n3_; have HB := n4_; clear n0_ n1_ n2_ n3_ n4_; (try clear hb); (try clear hb2); (try clear hk); (try clear hi)))
        go_ret
        exact ⟨pe, pw⟩
       replace c125 := Bool.eq_false_iff.mpr c125
       subst c125
       have H1 : (none) = some r := by rw [if_neg (show ¬ (false = true) by decide)] at H; exact H
       clear H
       have H := H1
       clear H1
       exact absurd H (by simp)
      replace c124 := Bool.eq_false_iff.mpr c124
      subst c124
      have H1 : (if true = true then (if t452 = true then ((L2_isSpan.f t448 t449 t450 t451 t453 false true x464002_90 a1_3 0).bind fun t466 => (some t466)) else (none)) else (if x464002_90 > a1_3 then (if t453.isNone = true then (if t452 = true then (none) else (some (!t448 && (!t449 && (t450 == 0 && (t451 == 0)))))) else (none)) else (if t452 = true then ((L2_isSpan.f t448 t449 t450 t451 t453 false true x464002_90 a1_3 0).bind fun t468 => (some t468)) else (none)))) = some r := by rw [if_neg (show ¬ (false = true) by decide)] at H; exact H
      clear H
      have H := H1
      clear H1
      have H1 : (if t452 = true then ((L2_isSpan.f t448 t449 t450 t451 t453 false true x464002_90 a1_3 0).bind fun t466 => (some t466)) else (none)) = some r := by rw [if_pos rfl] at H; exact H
      clear H
      have H := H1
      clear H1
      by_cases c137 : t452 = true
      ·subst c137
       have H1 : ((L2_isSpan.f t448 t449 t450 t451 t453 false true x464002_90 a1_3 0).bind fun t466 => (some t466)) = some r := by rw [if_pos rfl] at H; exact H
       clear H
       have H := H1
       clear H1
       replace H := Option.bind_eq_some_iff.mp H
       obtain ⟨t466, A1380, H⟩ := H
       replace H : (some t466) = some r := H
       have A138 := am A1380
       clear A1380
       obtain rfl := Option.some.inj H
       have hnb139 := NB442_441.out
       have hnc139 := NB441_442.out
       have hnb140 := NB442_454.out
       have hnc140 := NB454_442.out
       have hnb141 := NB442_463.out
       have hnc141 := NB463_442.out
       have hcz142_0 : wc.cell? ⟨gb442, 0, none⟩ = some (.bool false) := bc BK442 0
       have hcz142_1 : wc.cell? ⟨gb442, 1, none⟩ = some (.bool true) := bc BK442 1
       have hcz142_2 : wc.cell? ⟨gb442, 2, none⟩ = some (.int .i64 a1_2) := bc BK442 2
       have hcz142_3 : wc.cell? ⟨gb442, 3, none⟩ = some (.int .i64 a1_3) := bc BK442 3
       have hfz142_0 := blk_frozen BK442.out 0
       have hfz142_1 := blk_frozen BK442.out 1
       have hfz142_2 := blk_frozen BK442.out 2
       have hfz142_3 := blk_frozen BK442.out 3
       have hnb143 := NB463_441.out
       have hnc143 := NB441_463.out
       have hnb144 := NB463_454.out
       have hnc144 := NB454_463.out
       have hcz145_0 : wc.cell? ⟨gb463, 0, none⟩ = some (.bool false) := bc BK463 0
       have hcz145_1 : wc.cell? ⟨gb463, 1, none⟩ = some (.bool true) := bc BK463 1
       have hcz145_2 : wc.cell? ⟨gb463, 2, none⟩ = some (.int .i64 x464002_90) := bc BK463 2
       have hcz145_3 : wc.cell? ⟨gb463, 3, none⟩ = some (.int .i64 a1_3) := bc BK463 3
       have hfz145_0 := blk_frozen BK463.out 0
       have hfz145_1 := blk_frozen BK463.out 1
       have hfz145_2 := blk_frozen BK463.out 2
       have hfz145_3 := blk_frozen BK463.out 3
       have hnb146 := NB454_441.out
       have hnc146 := NB441_454.out
       have hcz147_0 : wc.cell? ⟨gb454, 0, none⟩ = some (.bool t448) := bc BK454 0
       have hcz147_1 : wc.cell? ⟨gb454, 1, none⟩ = some (.bool t449) := bc BK454 1
       have hcz147_2 : wc.cell? ⟨gb454, 2, none⟩ = some (.int .i64 t450) := bc BK454 2
       have hcz147_3 : wc.cell? ⟨gb454, 3, none⟩ = some (.int .i64 t451) := bc BK454 3
       have hfz147_0 := blk_frozen BK454.out 0
       have hfz147_1 := blk_frozen BK454.out 1
       have hfz147_2 := blk_frozen BK454.out 2
       have hfz147_3 := blk_frozen BK454.out 3
       have CA138 := fun (W : World) (hE9_ : ErrAll W) => L2_isSpan.calls t448 t449 t450 t451 t453 false true x464002_90 a1_3 0 t466 W A138.out hE9_
       try simp only [errW_none, errW_some] at CA138
       go_wp2_with (first | (go_at_call 36; (with_reducible refine (CA138 _ (ErrAll.below hE9.out pw)).mono ?_); rintro e w148 ⟨rfl, hb⟩; have n0_ := bb BK441 hb; have n1_ := bb BK442 hb; have n2_ := bb BK454 hb; have n3_ := bb BK463 hb; have n4_ := am (below_step pw hb); clear BK441; clear BK442; clear BK454; clear BK463; clear HB; have BK441 := n0_; have BK442 := n1_; have BK454 := n2_; have BK463 := n3_; have HB := n4_; clear n0_ n1_ n2_ n3_ n4_; (try clear hb); (try clear hb2); (try clear hk); (try clear hi)))
       go_ret
       exact ⟨pe, pw⟩
      replace c137 := Bool.eq_false_iff.mpr c137
      subst c137
      have H1 : (none) = some r := by rw [if_neg (show ¬ (false = true) by decide)] at H; exact H
      clear H
      have H := H1
      clear H1
      exact absurd H (by simp)
     replace c123 := Bool.eq_false_iff.mpr c123
     subst c123
     have H1 : (L2_CongrTight.l1 kj90 t452 t453 a0_0 a0_1 t448 t449 t450 t451 a1_0 false x464002_90 a1_3) = some r := by rw [if_neg (show ¬ (false = true) by decide)] at H; exact H
     clear H
     have H := H1
     clear H1
     have H' := am H
     clear H
     have hnb149 := NB442_441.out
     have hnc149 := NB441_442.out
     have hnb150 := NB442_454.out
     have hnc150 := NB454_442.out
     have hnb151 := NB442_463.out
     have hnc151 := NB463_442.out
     have hcz152_0 : wc.cell? ⟨gb442, 0, none⟩ = some (.bool a1_0) := bc BK442 0
     have hcz152_1 : wc.cell? ⟨gb442, 1, none⟩ = some (.bool false) := bc BK442 1
     have hcz152_2 : wc.cell? ⟨gb442, 2, none⟩ = some (.int .i64 a1_2) := bc BK442 2
     have hcz152_3 : wc.cell? ⟨gb442, 3, none⟩ = some (.int .i64 a1_3) := bc BK442 3
     have hfz152_0 := blk_frozen BK442.out 0
     have hfz152_1 := blk_frozen BK442.out 1
     have hfz152_2 := blk_frozen BK442.out 2
     have hfz152_3 := blk_frozen BK442.out 3
     go_wp2
     go_loopg [] kj90 (fun kq w' => ∃ (x464003_4 : Int), Aside0 (L2_CongrTight.l1 kq t452 t453 a0_0 a0_1 t448 t449 t450 t451 a1_0 false x464002_90 x464003_4 = some r) ∧ Aside0 (kq ≤ kj90) ∧ Aside0 (w'.heap[gb441]? = some (.cells #[.int .i64 a0_0, .int .i64 a0_1] 32 (0, 0))) ∧ Aside0 (w'.heap[gb442]? = some (.cells #[.bool a1_0, .bool false, .int .i64 a1_2, .int .i64 a1_3] 23 (0, 0))) ∧ Aside0 (w'.heap[gb454]? = some (.cells #[.bool t448, .bool t449, .int .i64 t450, .int .i64 t451] 23 (0, 0))) ∧ Aside0 (w'.heap[gb463]? = some (.cells #[.bool a1_0, .bool false, .int .i64 x464002_90, .int .i64 x464003_4] 23 (0, 0))) ∧ Aside0 (Below w.heap.size w w'))
     case atStart => exact ⟨(a1_3), H', ⟨Nat.le_refl _⟩, ⟨by (with_reducible repeat (first | refine blk_drewN ?_ _ | refine blk_drew ?_ | refine blk_alloc ?_ _)); exact BK441.out⟩, ⟨by (with_reducible repeat (first | refine blk_drewN ?_ _ | refine blk_drew ?_ | refine blk_alloc ?_ _)); exact BK442.out⟩, ⟨by (with_reducible repeat (first | refine blk_drewN ?_ _ | refine blk_drew ?_ | refine blk_alloc ?_ _)); exact BK454.out⟩, ⟨by (with_reducible repeat (first | refine blk_drewN ?_ _ | refine blk_drew ?_ | refine blk_alloc ?_ _)); exact BK463.out⟩, ⟨pw⟩⟩
     case round =>
      clear H'
      try clear c1
      try clear c2
      try clear p2
      try clear c3
      try clear c4
      try clear q4
      try clear c5
      try clear c6
      try clear p6
      try clear c7
      try clear c8
      try clear c9
      try clear c10
      try clear c11
      try clear c12
      try clear c13
      try clear c14
      try clear c15
      try clear c17
      try clear c20
      try clear c20b0
      try clear c21
      try clear c22
      try clear c23
      try clear c27
      try clear c32
      try clear c33
      try clear q45
      try clear q46
      try clear c47
      try clear c48
      try clear c49
      try clear c52
      try clear c53
      try clear c54
      try clear c56
      try clear c56b0
      try clear c57
      try clear c58
      try clear c60
      try clear c63
      try clear c64
      try clear p64
      try clear c66
      try clear c68
      try clear c69
      try clear c69b0
      try clear c69b1
      try clear c71
      try clear c72
      try clear c74
      try clear c75
      try clear c77
      try clear c83
      try clear c84
      try clear c85
      try clear c87
      try clear c92
      try clear c93
      try clear c95
      try clear c98
      try clear c99
      try clear c100
      try clear c103
      try clear c105
      try clear c106
      try clear c107
      try clear c108
      try clear c110
      try clear c111
      try clear c114
      try clear c115
      try clear c116
      try clear c118
      try clear c119
      try clear c123
      try clear c124
      try clear c125
      try clear c127
      try clear c128
      try clear c129
      try clear c131
      try clear c132
      try clear c134
      try clear c137
      try clear c139
      try clear c140
      try clear c141
      try clear c143
      try clear c144
      try clear c146
      try clear c149
      try clear c150
      try clear c151
      try clear hcz101_0
      try clear hcz101_1
      try clear hcz101_2
      try clear hcz101_3
      try clear hcz102_0
      try clear hcz102_1
      try clear hcz102_2
      try clear hcz102_3
      try clear hcz109_0
      try clear hcz109_1
      try clear hcz112_0
      try clear hcz112_1
      try clear hcz112_2
      try clear hcz112_3
      try clear hcz117_0
      try clear hcz117_1
      try clear hcz120_0
      try clear hcz120_1
      try clear hcz120_2
      try clear hcz120_3
      try clear hcz122_0
      try clear hcz122_1
      try clear hcz122_2
      try clear hcz122_3
      try clear hcz130_0
      try clear hcz130_1
      try clear hcz130_2
      try clear hcz130_3
      try clear hcz133_0
      try clear hcz133_1
      try clear hcz133_2
      try clear hcz133_3
      try clear hcz135_0
      try clear hcz135_1
      try clear hcz135_2
      try clear hcz135_3
      try clear hcz142_0
      try clear hcz142_1
      try clear hcz142_2
      try clear hcz142_3
      try clear hcz145_0
      try clear hcz145_1
      try clear hcz145_2
      try clear hcz145_3
      try clear hcz147_0
      try clear hcz147_1
      try clear hcz147_2
      try clear hcz147_3
      try clear hcz152_0
      try clear hcz152_1
      try clear hcz152_2
      try clear hcz152_3
      try clear hcz34_0
      try clear hcz34_1
      try clear hcz34_2
      try clear hcz34_3
      try clear hcz50_0
      try clear hcz50_1
      try clear hcz50_2
      try clear hcz50_3
      try clear hcz55_0
      try clear hcz55_1
      try clear hcz55_2
      try clear hcz55_3
      try clear hcz59_0
      try clear hcz59_1
      try clear hcz59_2
      try clear hcz59_3
      try clear hcz61_0
      try clear hcz61_1
      try clear hcz65_0
      try clear hcz65_1
      try clear hcz65_2
      try clear hcz65_3
      try clear hcz67_0
      try clear hcz67_1
      try clear hcz76_0
      try clear hcz76_1
      try clear hcz78_0
      try clear hcz78_1
      try clear hcz78_2
      try clear hcz78_3
      try clear hcz80_0
      try clear hcz80_1
      try clear hcz80_2
      try clear hcz80_3
      try clear hcz81_0
      try clear hcz81_1
      try clear hcz86_0
      try clear hcz86_1
      try clear hcz88_0
      try clear hcz88_1
      try clear hcz88_2
      try clear hcz88_3
      try clear hcz90_0
      try clear hcz90_1
      try clear hcz90_2
      try clear hcz90_3
      try clear hcz94_0
      try clear hcz94_1
      try clear hcz96_0
      try clear hcz96_1
      try clear hcz96_2
      try clear hcz96_3
      try clear hfz101_0
      try clear hfz101_1
      try clear hfz101_2
      try clear hfz101_3
      try clear hfz102_0
      try clear hfz102_1
      try clear hfz102_2
      try clear hfz102_3
      try clear hfz109_0
      try clear hfz109_1
      try clear hfz112_0
      try clear hfz112_1
      try clear hfz112_2
      try clear hfz112_3
      try clear hfz117_0
      try clear hfz117_1
      try clear hfz120_0
      try clear hfz120_1
      try clear hfz120_2
      try clear hfz120_3
      try clear hfz122_0
      try clear hfz122_1
      try clear hfz122_2
      try clear hfz122_3
      try clear hfz130_0
      try clear hfz130_1
      try clear hfz130_2
      try clear hfz130_3
      try clear hfz133_0
      try clear hfz133_1
      try clear hfz133_2
      try clear hfz133_3
      try clear hfz135_0
      try clear hfz135_1
      try clear hfz135_2
      try clear hfz135_3
      try clear hfz142_0
      try clear hfz142_1
      try clear hfz142_2
      try clear hfz142_3
      try clear hfz145_0
      try clear hfz145_1
      try clear hfz145_2
      try clear hfz145_3
      try clear hfz147_0
      try clear hfz147_1
      try clear hfz147_2
      try clear hfz147_3
      try clear hfz152_0
      try clear hfz152_1
      try clear hfz152_2
      try clear hfz152_3
      try clear hfz34_0
      try clear hfz34_1
      try clear hfz34_2
      try clear hfz34_3
      try clear hfz50_0
      try clear hfz50_1
      try clear hfz50_2
      try clear hfz50_3
      try clear hfz55_0
      try clear hfz55_1
      try clear hfz55_2
      try clear hfz55_3
      try clear hfz59_0
      try clear hfz59_1
      try clear hfz59_2
      try clear hfz59_3
      try clear hfz61_0
      try clear hfz61_1
      try clear hfz65_0
      try clear hfz65_1
      try clear hfz65_2
      try clear hfz65_3
      try clear hfz67_0
      try clear hfz67_1
      try clear hfz76_0
      try clear hfz76_1
      try clear hfz78_0
      try clear hfz78_1
      try clear hfz78_2
      try clear hfz78_3
      try clear hfz80_0
      try clear hfz80_1
      try clear hfz80_2
      try clear hfz80_3
      try clear hfz81_0
      try clear hfz81_1
      try clear hfz86_0
      try clear hfz86_1
      try clear hfz88_0
      try clear hfz88_1
      try clear hfz88_2
      try clear hfz88_3
      try clear hfz90_0
      try clear hfz90_1
      try clear hfz90_2
      try clear hfz90_3
      try clear hfz94_0
      try clear hfz94_1
      try clear hfz96_0
      try clear hfz96_1
      try clear hfz96_2
      try clear hfz96_3
      try clear p2
      try clear p6
      try clear p64
      try clear q4
      try clear q45
      try clear q459
      try clear q46
      try clear q462
      obtain ⟨x464003_4, HA, HK4, BK441, BK442, BK454, BK463, HB⟩ := hrel
      cases gk with
      | zero => exact absurd HA.out (by simp [L2_CongrTight.l1])
      | succ k4 =>
       have H := HA.out
       clear HA
       simp only [L2_CongrTight.l1] at H
       replace H := Option.bind_eq_some_iff.mp H
       obtain ⟨t469, A1530, H⟩ := H
       replace H : (if t469 = true then (if a1_0 = true then (if t452 = true then ((L2_isSpan.f t448 t449 t450 t451 t453 a1_0 false x464002_90 x464003_4 0).bind fun t470 => (some t470)) else (none)) else (if false = true then (if t452 = true then ((L2_isSpan.f t448 t449 t450 t451 t453 a1_0 false x464002_90 x464003_4 0).bind fun t471 => (some t471)) else (none)) else (if x464002_90 > x464003_4 then (if t453.isNone = true then (if t452 = true then (none) else (some (!t448 && (!t449 && (t450 == 0 && (t451 == 0)))))) else (none)) else (if t452 = true then ((L2_isSpan.f t448 t449 t450 t451 t453 a1_0 false x464002_90 x464003_4 0).bind fun t473 => (some t473)) else (none))))) else (L2_CongrTight.l1 k4 t452 t453 a0_0 a0_1 t448 t449 t450 t451 a1_0 false x464002_90 (wrap64 (x464003_4 - 1)))) = some r := H
       have A153 := am A1530
       clear A1530
       by_cases c154 : t469 = true
       ·subst c154
        have H1 : (if a1_0 = true then (if t452 = true then ((L2_isSpan.f t448 t449 t450 t451 t453 a1_0 false x464002_90 x464003_4 0).bind fun t470 => (some t470)) else (none)) else (if false = true then (if t452 = true then ((L2_isSpan.f t448 t449 t450 t451 t453 a1_0 false x464002_90 x464003_4 0).bind fun t471 => (some t471)) else (none)) else (if x464002_90 > x464003_4 then (if t453.isNone = true then (if t452 = true then (none) else (some (!t448 && (!t449 && (t450 == 0 && (t451 == 0)))))) else (none)) else (if t452 = true then ((L2_isSpan.f t448 t449 t450 t451 t453 a1_0 false x464002_90 x464003_4 0).bind fun t473 => (some t473)) else (none))))) = some r := by rw [if_pos rfl] at H; exact H
        clear H
        have H := H1
        clear H1
        by_cases c155 : a1_0 = true
        ·subst c155
         have H1 : (if t452 = true then ((L2_isSpan.f t448 t449 t450 t451 t453 true false x464002_90 x464003_4 0).bind fun t470 => (some t470)) else (none)) = some r := by rw [if_pos rfl] at H; exact H
         clear H
         have H := H1
         clear H1
         by_cases c156 : t452 = true
         ·subst c156
          have H1 : ((L2_isSpan.f t448 t449 t450 t451 t453 true false x464002_90 x464003_4 0).bind fun t470 => (some t470)) = some r := by rw [if_pos rfl] at H; exact H
          clear H
          have H := H1
          clear H1
          replace H := Option.bind_eq_some_iff.mp H
          obtain ⟨t470, A1570, H⟩ := H
          replace H : (some t470) = some r := H
          have A157 := am A1570
          clear A1570
          obtain rfl := Option.some.inj H
          have hnb158 := NB441_442.out
          have hnc158 := NB442_441.out
          have hnb159 := NB441_454.out
          have hnc159 := NB454_441.out
          have hnb160 := NB441_463.out
          have hnc160 := NB463_441.out
          have hcz161_0 : wr.cell? ⟨gb441, 0, none⟩ = some (.int .i64 a0_0) := bc BK441 0
          have hcz161_1 : wr.cell? ⟨gb441, 1, none⟩ = some (.int .i64 a0_1) := bc BK441 1
          have hfz161_0 := blk_frozen BK441.out 0
          have hfz161_1 := blk_frozen BK441.out 1
          have hnb162 := NB463_442.out
          have hnc162 := NB442_463.out
          have hnb163 := NB463_454.out
          have hnc163 := NB454_463.out
          have hcz164_0 : wr.cell? ⟨gb463, 0, none⟩ = some (.bool true) := bc BK463 0
          have hcz164_1 : wr.cell? ⟨gb463, 1, none⟩ = some (.bool false) := bc BK463 1
          have hcz164_2 : wr.cell? ⟨gb463, 2, none⟩ = some (.int .i64 x464002_90) := bc BK463 2
          have hcz164_3 : wr.cell? ⟨gb463, 3, none⟩ = some (.int .i64 x464003_4) := bc BK463 3
          have hfz164_0 := blk_frozen BK463.out 0
          have hfz164_1 := blk_frozen BK463.out 1
          have hfz164_2 := blk_frozen BK463.out 2
          have hfz164_3 := blk_frozen BK463.out 3
          go_wp2_with (first | ((with_reducible refine gate_callee (f := 23) rfl ?_); refine goesL_ (some 110) rfl rfl Tryd.func23 kk rfl #[.agg #[.int .i64 a0_0, .int .i64 a0_1], .int .i64 x464003_4] rfl (by (try simp only [List.map_toArray, List.map_cons, List.map_nil]); first | done | rfl | (simp only [List.length_drop, List.length_take]; rfl)) ?_; (with_reducible refine (R2_LeavesOf.calls a0_0 a0_1 x464003_4 true _ A153.out).mono ?_); rintro e w165 ⟨rfl, hb⟩; refine ⟨_, rfl, ?_⟩; have n0_ := bb BK441 hb; have n1_ := bb BK442 hb; have n2_ := bb BK454 hb; have n3_ := bb BK463 hb; have n4_ := am (below_step pw hb); clear BK441; clear BK442; clear BK454; clear BK463; clear HB; have BK441 := n0_; have BK442 := n1_; have BK454 := n2_; have BK463 := n3_; have HB := n4_; clear n0_ n1_ n2_ n3_ n4_; (try clear hb); (try clear hb2); (try clear hk); (try clear hi); have hcz166_0 : w165.cell? ⟨gb463, 0, none⟩ = some (.bool true) := bc BK463 0; have hcz166_1 : w165.cell? ⟨gb463, 1, none⟩ = some (.bool false) := bc BK463 1; have hcz166_2 : w165.cell? ⟨gb463, 2, none⟩ = some (.int .i64 x464002_90) := bc BK463 2; have hcz166_3 : w165.cell? ⟨gb463, 3, none⟩ = some (.int .i64 x464003_4) := bc BK463 3; have hfz166_0 := blk_frozen BK463.out 0; have hfz166_1 := blk_frozen BK463.out 1; have hfz166_2 := blk_frozen BK463.out 2; have hfz166_3 := blk_frozen BK463.out 3; have hnb167 := NB454_442.out; have hnc167 := NB442_454.out; have hcz168_0 : w165.cell? ⟨gb454, 0, none⟩ = some (.bool t448) := bc BK454 0; have hcz168_1 : w165.cell? ⟨gb454, 1, none⟩ = some (.bool t449) := bc BK454 1; have hcz168_2 : w165.cell? ⟨gb454, 2, none⟩ = some (.int .i64 t450) := bc BK454 2; have hcz168_3 : w165.cell? ⟨gb454, 3, none⟩ = some (.int .i64 t451) := bc BK454 3; have hfz168_0 := blk_frozen BK454.out 0; have hfz168_1 := blk_frozen BK454.out 1; have hfz168_2 := blk_frozen BK454.out 2; have hfz168_3 := blk_frozen BK454.out 3; have CA157 := fun (W : World) (hE9_ : ErrAll W) => L2_isSpan.calls t448 t449 t450 t451 t453 true false x464002_90 x464003_4 0 t470 W A157.out hE9_; try simp only [errW_none, errW_some] at CA157) | (go_at_call 36; (with_reducible refine (CA157 _ (ErrAll.below hE9.out pw)).mono ?_); rintro e w169 ⟨rfl, hb⟩; have n0_ := bb BK441 hb; have n1_ := bb BK442 hb; have n2_ := bb BK454 hb; have n3_ := bb BK463 hb; have n4_ := am (below_step pw hb); clear BK441; clear BK442; clear BK454; clear BK463; clear HB; have BK441 := n0_; have BK442 := n1_; have BK454 := n2_; have BK463 := n3_; have HB := n4_; clear n0_ n1_ n2_ n3_ n4_; (try clear hb); (try clear hb2); (try clear hk); (try clear hi)))
          go_ret
          exact ⟨pe, pw⟩
         replace c156 := Bool.eq_false_iff.mpr c156
         subst c156
         have H1 : (none) = some r := by rw [if_neg (show ¬ (false = true) by decide)] at H; exact H
         clear H
         have H := H1
         clear H1
         exact absurd H (by simp)
        replace c155 := Bool.eq_false_iff.mpr c155
        subst c155
        have H1 : (if false = true then (if t452 = true then ((L2_isSpan.f t448 t449 t450 t451 t453 false false x464002_90 x464003_4 0).bind fun t471 => (some t471)) else (none)) else (if x464002_90 > x464003_4 then (if t453.isNone = true then (if t452 = true then (none) else (some (!t448 && (!t449 && (t450 == 0 && (t451 == 0)))))) else (none)) else (if t452 = true then ((L2_isSpan.f t448 t449 t450 t451 t453 false false x464002_90 x464003_4 0).bind fun t473 => (some t473)) else (none)))) = some r := by rw [if_neg (show ¬ (false = true) by decide)] at H; exact H
        clear H
        have H := H1
        clear H1
        have H1 : (if x464002_90 > x464003_4 then (if t453.isNone = true then (if t452 = true then (none) else (some (!t448 && (!t449 && (t450 == 0 && (t451 == 0)))))) else (none)) else (if t452 = true then ((L2_isSpan.f t448 t449 t450 t451 t453 false false x464002_90 x464003_4 0).bind fun t473 => (some t473)) else (none))) = some r := by rw [if_neg (show ¬ (false = true) by decide)] at H; exact H
        clear H
        have H := H1
        clear H1
        by_cases c170 : x464002_90 > x464003_4
        ·rw [if_pos c170] at H
         have c170b0 : decide (x464003_4 < x464002_90) = true := decide_eq_true c170
         clear c170
         rcases t453 with _ | q472
         ·have H1 : (if t452 = true then (none) else (some (!t448 && (!t449 && (t450 == 0 && (t451 == 0)))))) = some r := by rw [if_pos (show (none : Option Int).isNone = true by rfl)] at H; exact H
          clear H
          have H := H1
          clear H1
          try simp only [errW_none, errW_some]
          by_cases c171 : t452 = true
          ·subst c171
           have H1 : (none) = some r := by rw [if_pos rfl] at H; exact H
           clear H
           have H := H1
           clear H1
           exact absurd H (by simp)
          replace c171 := Bool.eq_false_iff.mpr c171
          subst c171
          have H1 : (some (!t448 && (!t449 && (t450 == 0 && (t451 == 0))))) = some r := by rw [if_neg (show ¬ (false = true) by decide)] at H; exact H
          clear H
          have H := H1
          clear H1
          obtain rfl := Option.some.inj H
          have hnb172 := NB441_442.out
          have hnc172 := NB442_441.out
          have hnb173 := NB441_454.out
          have hnc173 := NB454_441.out
          have hnb174 := NB441_463.out
          have hnc174 := NB463_441.out
          have hcz175_0 : wr.cell? ⟨gb441, 0, none⟩ = some (.int .i64 a0_0) := bc BK441 0
          have hcz175_1 : wr.cell? ⟨gb441, 1, none⟩ = some (.int .i64 a0_1) := bc BK441 1
          have hfz175_0 := blk_frozen BK441.out 0
          have hfz175_1 := blk_frozen BK441.out 1
          have hnb176 := NB463_442.out
          have hnc176 := NB442_463.out
          have hnb177 := NB463_454.out
          have hnc177 := NB454_463.out
          have hcz178_0 : wr.cell? ⟨gb463, 0, none⟩ = some (.bool false) := bc BK463 0
          have hcz178_1 : wr.cell? ⟨gb463, 1, none⟩ = some (.bool false) := bc BK463 1
          have hcz178_2 : wr.cell? ⟨gb463, 2, none⟩ = some (.int .i64 x464002_90) := bc BK463 2
          have hcz178_3 : wr.cell? ⟨gb463, 3, none⟩ = some (.int .i64 x464003_4) := bc BK463 3
          have hfz178_0 := blk_frozen BK463.out 0
          have hfz178_1 := blk_frozen BK463.out 1
          have hfz178_2 := blk_frozen BK463.out 2
          have hfz178_3 := blk_frozen BK463.out 3
          go_wp2_with (first | ((with_reducible refine gate_callee (f := 23) rfl ?_); refine goesL_ (some 110) rfl rfl Tryd.func23 kk rfl #[.agg #[.int .i64 a0_0, .int .i64 a0_1], .int .i64 x464003_4] rfl (by (try simp only [List.map_toArray, List.map_cons, List.map_nil]); first | done | rfl | (simp only [List.length_drop, List.length_take]; rfl)) ?_; (with_reducible refine (R2_LeavesOf.calls a0_0 a0_1 x464003_4 true _ A153.out).mono ?_); rintro e w179 ⟨rfl, hb⟩; refine ⟨_, rfl, ?_⟩; have n0_ := bb BK441 hb; have n1_ := bb BK442 hb; have n2_ := bb BK454 hb; have n3_ := bb BK463 hb; have n4_ := am (below_step pw hb); clear BK441; clear BK442; clear BK454; clear BK463; clear HB; have BK441 := n0_; have BK442 := n1_; have BK454 := n2_; have BK463 := n3_; have HB := n4_; clear n0_ n1_ n2_ n3_ n4_; (try clear hb); (try clear hb2); (try clear hk); (try clear hi); have hcz180_0 : w179.cell? ⟨gb463, 0, none⟩ = some (.bool false) := bc BK463 0; have hcz180_1 : w179.cell? ⟨gb463, 1, none⟩ = some (.bool false) := bc BK463 1; have hcz180_2 : w179.cell? ⟨gb463, 2, none⟩ = some (.int .i64 x464002_90) := bc BK463 2; have hcz180_3 : w179.cell? ⟨gb463, 3, none⟩ = some (.int .i64 x464003_4) := bc BK463 3; have hfz180_0 := blk_frozen BK463.out 0; have hfz180_1 := blk_frozen BK463.out 1; have hfz180_2 := blk_frozen BK463.out 2; have hfz180_3 := blk_frozen BK463.out 3; have hnb181 := NB454_442.out; have hnc181 := NB442_454.out; have hcz182_0 : w179.cell? ⟨gb454, 0, none⟩ = some (.bool t448) := bc BK454 0; have hcz182_1 : w179.cell? ⟨gb454, 1, none⟩ = some (.bool t449) := bc BK454 1; have hcz182_2 : w179.cell? ⟨gb454, 2, none⟩ = some (.int .i64 t450) := bc BK454 2; have hcz182_3 : w179.cell? ⟨gb454, 3, none⟩ = some (.int .i64 t451) := bc BK454 3; have hfz182_0 := blk_frozen BK454.out 0; have hfz182_1 := blk_frozen BK454.out 1; have hfz182_2 := blk_frozen BK454.out 2; have hfz182_3 := blk_frozen BK454.out 3))
          go_ret
          exact ⟨pe, pw⟩
         have H1 : (none) = some r := by rw [if_neg (show ¬ (some q472).isNone = true by simp)] at H; exact H
         clear H
         have H := H1
         clear H1
         try simp only [errW_none, errW_some]
         exact absurd H (by simp)
        rw [if_neg c170] at H
        have c170b0 : decide (x464003_4 < x464002_90) = false := decide_eq_false c170
        clear c170
        by_cases c183 : t452 = true
        ·subst c183
         have H1 : ((L2_isSpan.f t448 t449 t450 t451 t453 false false x464002_90 x464003_4 0).bind fun t473 => (some t473)) = some r := by rw [if_pos rfl] at H; exact H
         clear H
         have H := H1
         clear H1
         replace H := Option.bind_eq_some_iff.mp H
         obtain ⟨t473, A1840, H⟩ := H
         replace H : (some t473) = some r := H
         have A184 := am A1840
         clear A1840
         obtain rfl := Option.some.inj H
         have hnb185 := NB441_442.out
         have hnc185 := NB442_441.out
         have hnb186 := NB441_454.out
         have hnc186 := NB454_441.out
         have hnb187 := NB441_463.out
         have hnc187 := NB463_441.out
         have hcz188_0 : wr.cell? ⟨gb441, 0, none⟩ = some (.int .i64 a0_0) := bc BK441 0
         have hcz188_1 : wr.cell? ⟨gb441, 1, none⟩ = some (.int .i64 a0_1) := bc BK441 1
         have hfz188_0 := blk_frozen BK441.out 0
         have hfz188_1 := blk_frozen BK441.out 1
         have hnb189 := NB463_442.out
         have hnc189 := NB442_463.out
         have hnb190 := NB463_454.out
         have hnc190 := NB454_463.out
         have hcz191_0 : wr.cell? ⟨gb463, 0, none⟩ = some (.bool false) := bc BK463 0
         have hcz191_1 : wr.cell? ⟨gb463, 1, none⟩ = some (.bool false) := bc BK463 1
         have hcz191_2 : wr.cell? ⟨gb463, 2, none⟩ = some (.int .i64 x464002_90) := bc BK463 2
         have hcz191_3 : wr.cell? ⟨gb463, 3, none⟩ = some (.int .i64 x464003_4) := bc BK463 3
         have hfz191_0 := blk_frozen BK463.out 0
         have hfz191_1 := blk_frozen BK463.out 1
         have hfz191_2 := blk_frozen BK463.out 2
         have hfz191_3 := blk_frozen BK463.out 3
         go_wp2_with (first | ((with_reducible refine gate_callee (f := 23) rfl ?_); refine goesL_ (some 110) rfl rfl Tryd.func23 kk rfl #[.agg #[.int .i64 a0_0, .int .i64 a0_1], .int .i64 x464003_4] rfl (by (try simp only [List.map_toArray, List.map_cons, List.map_nil]); first | done | rfl | (simp only [List.length_drop, List.length_take]; rfl)) ?_; (with_reducible refine (R2_LeavesOf.calls a0_0 a0_1 x464003_4 true _ A153.out).mono ?_); rintro e w192 ⟨rfl, hb⟩; refine ⟨_, rfl, ?_⟩; have n0_ := bb BK441 hb; have n1_ := bb BK442 hb; have n2_ := bb BK454 hb; have n3_ := bb BK463 hb; have n4_ := am (below_step pw hb); clear BK441; clear BK442; clear BK454; clear BK463; clear HB; have BK441 := n0_; have BK442 := n1_; have BK454 := n2_; have BK463 := n3_; have HB := n4_; clear n0_ n1_ n2_ n3_ n4_; (try clear hb); (try clear hb2); (try clear hk); (try clear hi); have hcz193_0 : w192.cell? ⟨gb463, 0, none⟩ = some (.bool false) := bc BK463 0; have hcz193_1 : w192.cell? ⟨gb463, 1, none⟩ = some (.bool false) := bc BK463 1; have hcz193_2 : w192.cell? ⟨gb463, 2, none⟩ = some (.int .i64 x464002_90) := bc BK463 2; have hcz193_3 : w192.cell? ⟨gb463, 3, none⟩ = some (.int .i64 x464003_4) := bc BK463 3; have hfz193_0 := blk_frozen BK463.out 0; have hfz193_1 := blk_frozen BK463.out 1; have hfz193_2 := blk_frozen BK463.out 2; have hfz193_3 := blk_frozen BK463.out 3; have hnb194 := NB454_442.out; have hnc194 := NB442_454.out; have hcz195_0 : w192.cell? ⟨gb454, 0, none⟩ = some (.bool t448) := bc BK454 0; have hcz195_1 : w192.cell? ⟨gb454, 1, none⟩ = some (.bool t449) := bc BK454 1; have hcz195_2 : w192.cell? ⟨gb454, 2, none⟩ = some (.int .i64 t450) := bc BK454 2; have hcz195_3 : w192.cell? ⟨gb454, 3, none⟩ = some (.int .i64 t451) := bc BK454 3; have hfz195_0 := blk_frozen BK454.out 0; have hfz195_1 := blk_frozen BK454.out 1; have hfz195_2 := blk_frozen BK454.out 2; have hfz195_3 := blk_frozen BK454.out 3; have CA184 := fun (W : World) (hE9_ : ErrAll W) => L2_isSpan.calls t448 t449 t450 t451 t453 false false x464002_90 x464003_4 0 t473 W A184.out hE9_; try simp only [errW_none, errW_some] at CA184) | (go_at_call 36; (with_reducible refine (CA184 _ (ErrAll.below hE9.out pw)).mono ?_); rintro e w196 ⟨rfl, hb⟩; have n0_ := bb BK441 hb; have n1_ := bb BK442 hb; have n2_ := bb BK454 hb; have n3_ := bb BK463 hb; have n4_ := am (below_step pw hb); clear BK441; clear BK442; clear BK454; clear BK463; clear HB; have BK441 := n0_; have BK442 := n1_; have BK454 := n2_; have BK463 := n3_; have HB := n4_; clear n0_ n1_ n2_ n3_ n4_; (try clear hb); (try clear hb2); (try clear hk); (try clear hi)))
         go_ret
         exact ⟨pe, pw⟩
        replace c183 := Bool.eq_false_iff.mpr c183
        subst c183
        have H1 : (none) = some r := by rw [if_neg (show ¬ (false = true) by decide)] at H; exact H
        clear H
        have H := H1
        clear H1
        exact absurd H (by simp)
       replace c154 := Bool.eq_false_iff.mpr c154
       subst c154
       have H1 : (L2_CongrTight.l1 k4 t452 t453 a0_0 a0_1 t448 t449 t450 t451 a1_0 false x464002_90 (wrap64 (x464003_4 - 1))) = some r := by rw [if_neg (show ¬ (false = true) by decide)] at H; exact H
       clear H
       have H := H1
       clear H1
       have H' := am H
       clear H
       have hnb197 := NB441_442.out
       have hnc197 := NB442_441.out
       have hnb198 := NB441_454.out
       have hnc198 := NB454_441.out
       have hnb199 := NB441_463.out
       have hnc199 := NB463_441.out
       have hcz200_0 : wr.cell? ⟨gb441, 0, none⟩ = some (.int .i64 a0_0) := bc BK441 0
       have hcz200_1 : wr.cell? ⟨gb441, 1, none⟩ = some (.int .i64 a0_1) := bc BK441 1
       have hfz200_0 := blk_frozen BK441.out 0
       have hfz200_1 := blk_frozen BK441.out 1
       have hnb201 := NB463_442.out
       have hnc201 := NB442_463.out
       have hnb202 := NB463_454.out
       have hnc202 := NB454_463.out
       have hcz203_0 : wr.cell? ⟨gb463, 0, none⟩ = some (.bool a1_0) := bc BK463 0
       have hcz203_1 : wr.cell? ⟨gb463, 1, none⟩ = some (.bool false) := bc BK463 1
       have hcz203_2 : wr.cell? ⟨gb463, 2, none⟩ = some (.int .i64 x464002_90) := bc BK463 2
       have hcz203_3 : wr.cell? ⟨gb463, 3, none⟩ = some (.int .i64 x464003_4) := bc BK463 3
       have hfz203_0 := blk_frozen BK463.out 0
       have hfz203_1 := blk_frozen BK463.out 1
       have hfz203_2 := blk_frozen BK463.out 2
       have hfz203_3 := blk_frozen BK463.out 3
       go_wp2_with (first | ((with_reducible refine gate_callee (f := 23) rfl ?_); refine goesL_ (some 110) rfl rfl Tryd.func23 kk rfl #[.agg #[.int .i64 a0_0, .int .i64 a0_1], .int .i64 x464003_4] rfl (by (try simp only [List.map_toArray, List.map_cons, List.map_nil]); first | done | rfl | (simp only [List.length_drop, List.length_take]; rfl)) ?_; (with_reducible refine (R2_LeavesOf.calls a0_0 a0_1 x464003_4 false _ A153.out).mono ?_); rintro e w204 ⟨rfl, hb⟩; refine ⟨_, rfl, ?_⟩; have n0_ := bb BK441 hb; have n1_ := bb BK442 hb; have n2_ := bb BK454 hb; have n3_ := bb BK463 hb; have n4_ := am (below_step pw hb); clear BK441; clear BK442; clear BK454; clear BK463; clear HB; have BK441 := n0_; have BK442 := n1_; have BK454 := n2_; have BK463 := n3_; have HB := n4_; clear n0_ n1_ n2_ n3_ n4_; (try clear hb); (try clear hb2); (try clear hk); (try clear hi); have hcz205_0 : w204.cell? ⟨gb463, 0, none⟩ = some (.bool a1_0) := bc BK463 0; have hcz205_1 : w204.cell? ⟨gb463, 1, none⟩ = some (.bool false) := bc BK463 1; have hcz205_2 : w204.cell? ⟨gb463, 2, none⟩ = some (.int .i64 x464002_90) := bc BK463 2; have hcz205_3 : w204.cell? ⟨gb463, 3, none⟩ = some (.int .i64 x464003_4) := bc BK463 3; have hfz205_0 := blk_frozen BK463.out 0; have hfz205_1 := blk_frozen BK463.out 1; have hfz205_2 := blk_frozen BK463.out 2; have hfz205_3 := blk_frozen BK463.out 3))
       go_roundg k4
       case measure => have := HJ5.out; have := HJ35.out; have := HJ90.out; have := HK4.out; omega
       case rel => exact ⟨(wrap64 (x464003_4 - 1)), H', ⟨by have := HJ5.out; have := HJ35.out; have := HJ90.out; have := HK4.out; omega⟩, ⟨by (with_reducible repeat (first | refine blk_drewN ?_ _ | refine blk_drew ?_ | refine blk_alloc ?_ _)); refine blk_far ?_ NB441_463.out _; (with_reducible repeat (first | refine blk_drewN ?_ _ | refine blk_drew ?_ | refine blk_alloc ?_ _)); exact BK441.out⟩, ⟨by (with_reducible repeat (first | refine blk_drewN ?_ _ | refine blk_drew ?_ | refine blk_alloc ?_ _)); refine blk_far ?_ NB442_463.out _; (with_reducible repeat (first | refine blk_drewN ?_ _ | refine blk_drew ?_ | refine blk_alloc ?_ _)); exact BK442.out⟩, ⟨by (with_reducible repeat (first | refine blk_drewN ?_ _ | refine blk_drew ?_ | refine blk_alloc ?_ _)); refine blk_far ?_ NB454_463.out _; (with_reducible repeat (first | refine blk_drewN ?_ _ | refine blk_drew ?_ | refine blk_alloc ?_ _)); exact BK454.out⟩, ⟨by (with_reducible repeat (first | refine blk_drewN ?_ _ | refine blk_drew ?_ | refine blk_alloc ?_ _)); refine blk_put (cs := #[.bool a1_0, .bool false, .int .i64 x464002_90, .int .i64 x464003_4]) ?_ 3 _ rfl; (with_reducible repeat (first | refine blk_drewN ?_ _ | refine blk_drew ?_ | refine blk_alloc ?_ _)); exact BK463.out⟩, ⟨pw⟩⟩
 replace c4 := Bool.eq_false_iff.mpr c4
 subst c4
 have H1 : (none) = some r := by rw [if_neg (show ¬ (false = true) by decide)] at H; exact H
 clear H
 have H := H1
 clear H1
 exact absurd H (by simp)

end Go.Proofs.YtimgfgambeffeaaDoor.C
