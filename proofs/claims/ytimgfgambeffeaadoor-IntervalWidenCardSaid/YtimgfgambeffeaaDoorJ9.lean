-- Written by wip/xprint.py (the session's program over the kit's print).
import Derived.Test.YtimgfgambeffeaaDoorEb
import Derived.Test.YtimgfgambeffeaaDoorJ0
import Derived.Test.YtimgfgambeffeaaDoorJ2
import Derived.Test.YtimgfgambeffeaaDoorJ3
import Derived.Test.YtimgfgambeffeaaDoorJ4
import Derived.Test.YtimgfgambeffeaaDoorJ5
import Derived.Test.YtimgfgambeffeaaDoorJ6
import Derived.Test.YtimgfgambeffeaaDoorJ7
import Derived.Test.YtimgfgambeffeaaDoorJ8
namespace Go.Proofs.YtimgfgambeffeaaDoor.J
open Go.RowKit Go.Proofs.YtimgfgambeffeaaDoorW.PrintWords Go.Proofs.YtimgfgambeffeaaDoorW.PrintLast Go.Proofs.YtimgfgambeffeaaDoorW.PrintMore Go.Proofs.Rcg
attribute [local go_sem] max2_int min2_int max_two min_two max_three min_three max_four min_four   -- for this text's walks alone
set_option linter.unusedVariables false
set_option linter.unusedSimpArgs false

/-! ### L2_IntervalWiden: function 8 -/
mutual
def L2_IntervalWiden.j0 : Nat → List Int → Bool → Bool → Bool → Bool → Int → Int → Bool → Bool → Int → Int → Option (Bool)
 | 0, _, _, _, _, _, _, _, _, _, _, _ => none
 | k + 1, x2, x7, x23, x178000, x178001, x178002, x178003, x179000, x179001, x179002, x179003 => if x23 = true then (some x7) else ((R2_TwoIntervals.f k x178000 x178001 x178002 x178003 x179000 x179001 x179002 x179003).bind fun t180 => (if t180 = 0 then (L2_IntervalWiden.j1 k x2 t180 t180 (decide ((x2.length : Int) > 20)) x178000 x178001 x178002 x178003 x179000 x179001 x179002 x179003) else (L2_IntervalWiden.j1 k x2 t180 t180 false x178000 x178001 x178002 x178003 x179000 x179001 x179002 x179003)))
def L2_IntervalWiden.j1 : Nat → List Int → Int → Int → Bool → Bool → Bool → Int → Int → Bool → Bool → Int → Int → Option (Bool)
 | 0, _, _, _, _, _, _, _, _, _, _, _, _ => none
 | k + 1, x2, x8, x9, x35, x178000, x178001, x178002, x178003, x179000, x179001, x179002, x179003 => if x35 = true then (L2_IntervalWiden.j2 k x2 2 x9 x178000 x178001 x178002 x178003 x179000 x179001 x179002 x179003) else (L2_IntervalWiden.j2 k x2 x8 x9 x178000 x178001 x178002 x178003 x179000 x179001 x179002 x179003)
def L2_IntervalWiden.j2 : Nat → List Int → Int → Int → Bool → Bool → Int → Int → Bool → Bool → Int → Int → Option (Bool)
 | 0, _, _, _, _, _, _, _, _, _, _, _ => none
 | k + 1, x2, x8, x9, x178000, x178001, x178002, x178003, x179000, x179001, x179002, x179003 => L2_IntervalWiden.l0 k x2 x8 x9 0 x178000 x178001 x178002 x178003 x179000 x179001 x179002 x179003
def L2_IntervalWiden.l0 : Nat → List Int → Int → Int → Int → Bool → Bool → Int → Int → Bool → Bool → Int → Int → Option (Bool)
 | 0, _, _, _, _, _, _, _, _, _, _, _, _ => none
 | k + 1, x2, x8, x9, x10, x178000, x178001, x178002, x178003, x179000, x179001, x179002, x179003 => if x10 < (x2.length : Int) then (L2_IntervalWiden.j4 k x2 x8 x9 x10 (x8 == 0) x178000 x178001 x178002 x178003 x179000 x179001 x179002 x179003) else (L2_IntervalWiden.j4 k x2 x8 x9 x10 false x178000 x178001 x178002 x178003 x179000 x179001 x179002 x179003)
def L2_IntervalWiden.j4 : Nat → List Int → Int → Int → Int → Bool → Bool → Bool → Int → Int → Bool → Bool → Int → Int → Option (Bool)
 | 0, _, _, _, _, _, _, _, _, _, _, _, _, _ => none
 | k + 1, x2, x8, x9, x10, x43, x178000, x178001, x178002, x178003, x179000, x179001, x179002, x179003 => if x43 = true then (if 0 ≤ x10 then (if x10 < (x2.length : Int) then ((R2_Far.f (rd x2 x10) 1099511627776).bind fun t182 => (if t182 = true then (L2_IntervalWiden.l0 k x2 2 x9 (wrap64 (x10 + 1)) x178000 x178001 x178002 x178003 x179000 x179001 x179002 x179003) else (L2_IntervalWiden.l0 k x2 x8 x9 (wrap64 (x10 + 1)) x178000 x178001 x178002 x178003 x179000 x179001 x179002 x179003))) else (none)) else (none)) else ((L2_ints.f x2).bind fun t183 => ((interval_Widen.f k x178000 x178001 x178002 x178003 x179000 x179001 x179002 x179003 t183).bind fun bt186 => ((interval_Narrow.f k x178000 x178001 x178002 x178003 x179000 x179001 x179002 x179003).bind fun bt192 => (if x9 = 0 then (if x178000 = true then (L2_IntervalWiden.j5 k x2 x8 x9 bt186.2.2.2.2 bt192.2.2.2.2 x178000 x178001 x178002 x178003 x179000 x179001 x179002 x179003 bt186.1 bt186.2.1 bt186.2.2.1 bt186.2.2.2.1 bt192.1 bt192.2.1 bt192.2.2.1 bt192.2.2.2.1 x179000 x178001 x179002 x178003) else (L2_IntervalWiden.j5 k x2 x8 x9 bt186.2.2.2.2 bt192.2.2.2.2 x178000 x178001 x178002 x178003 x179000 x179001 x179002 x179003 bt186.1 bt186.2.1 bt186.2.2.1 bt186.2.2.2.1 bt192.1 bt192.2.1 bt192.2.2.1 bt192.2.2.2.1 x178000 x178001 x178002 x178003)) else (L2_IntervalWiden.j6 k x2 x8 x9 bt186.2.2.2.2 bt192.2.2.2.2 x178000 x178001 x178002 x178003 x179000 x179001 x179002 x179003 bt186.1 bt186.2.1 bt186.2.2.1 bt186.2.2.2.1 bt192.1 bt192.2.1 bt192.2.2.1 bt192.2.2.2.1 x178000 x178001 x178002 x178003)))))
def L2_IntervalWiden.j6 : Nat → List Int → Int → Int → Option Int → Option Int → Bool → Bool → Int → Int → Bool → Bool → Int → Int → Bool → Bool → Int → Int → Bool → Bool → Int → Int → Bool → Bool → Int → Int → Option (Bool)
 | 0, _, _, _, _, _, _, _, _, _, _, _, _, _, _, _, _, _, _, _, _, _, _, _, _, _ => none
 | k + 1, x2, x8, x9, x12, x14, x178000, x178001, x178002, x178003, x179000, x179001, x179002, x179003, x192000, x192001, x192002, x192003, x198000, x198001, x198002, x198003, x199000, x199001, x199002, x199003 => (L2_isSpan.f x198000 x198001 x198002 x198003 x14 x199000 x199001 x199002 x199003 x9).bind fun t199 => (if t199 = true then (if x8 > 0 then ((L2_isSpan.f x192000 x192001 x192002 x192003 x12 x192000 x192001 x192002 x192003 x8).bind fun t200 => (some t200)) else ((R2_WidenedOf.f k x178000 x178001 x178002 x178003 x179000 x179001 x179002 x179003 x2).bind fun bt201 => ((L2_isSpan.f x192000 x192001 x192002 x192003 x12 bt201.1 bt201.2.1 bt201.2.2.1 bt201.2.2.2 0).bind fun t205 => (if t205 = true then ((R2_InsideOf.f k x178000 x178001 x178002 x178003 x192000 x192001 x192002 x192003).bind fun t206 => (some t206)) else (none))))) else (none))
def L2_IntervalWiden.j5 : Nat → List Int → Int → Int → Option Int → Option Int → Bool → Bool → Int → Int → Bool → Bool → Int → Int → Bool → Bool → Int → Int → Bool → Bool → Int → Int → Bool → Bool → Int → Int → Option (Bool)
 | 0, _, _, _, _, _, _, _, _, _, _, _, _, _, _, _, _, _, _, _, _, _, _, _, _, _ => none
 | k + 1, x2, x8, x9, x12, x14, x178000, x178001, x178002, x178003, x179000, x179001, x179002, x179003, x192000, x192001, x192002, x192003, x198000, x198001, x198002, x198003, x199000, x199001, x199002, x199003 => if x178001 = true then (if x199000 = true then (L2_IntervalWiden.j6 k x2 x8 x9 x12 x14 x178000 x178001 x178002 x178003 x179000 x179001 x179002 x179003 x192000 x192001 x192002 x192003 x198000 x198001 x198002 x198003 x199000 x179001 x199002 x179003) else (if x179001 = true then (L2_IntervalWiden.j6 k x2 x8 x9 x12 x14 x178000 x178001 x178002 x178003 x179000 x179001 x179002 x179003 x192000 x192001 x192002 x192003 x198000 x198001 x198002 x198003 x199000 x179001 x199002 x179003) else (if x199002 > x179003 then (L2_IntervalWiden.j6 k x2 x8 4 x12 x14 x178000 x178001 x178002 x178003 x179000 x179001 x179002 x179003 x192000 x192001 x192002 x192003 x198000 x198001 x198002 x198003 x199000 x179001 x199002 x179003) else (L2_IntervalWiden.j6 k x2 x8 x9 x12 x14 x178000 x178001 x178002 x178003 x179000 x179001 x179002 x179003 x192000 x192001 x192002 x192003 x198000 x198001 x198002 x198003 x199000 x179001 x199002 x179003)))) else (if x199000 = true then (L2_IntervalWiden.j6 k x2 x8 x9 x12 x14 x178000 x178001 x178002 x178003 x179000 x179001 x179002 x179003 x192000 x192001 x192002 x192003 x198000 x198001 x198002 x198003 x199000 x199001 x199002 x199003) else (if x199001 = true then (L2_IntervalWiden.j6 k x2 x8 x9 x12 x14 x178000 x178001 x178002 x178003 x179000 x179001 x179002 x179003 x192000 x192001 x192002 x192003 x198000 x198001 x198002 x198003 x199000 x199001 x199002 x199003) else (if x199002 > x199003 then (L2_IntervalWiden.j6 k x2 x8 4 x12 x14 x178000 x178001 x178002 x178003 x179000 x179001 x179002 x179003 x192000 x192001 x192002 x192003 x198000 x198001 x198002 x198003 x199000 x199001 x199002 x199003) else (L2_IntervalWiden.j6 k x2 x8 x9 x12 x14 x178000 x178001 x178002 x178003 x179000 x179001 x179002 x179003 x192000 x192001 x192002 x192003 x198000 x198001 x198002 x198003 x199000 x199001 x199002 x199003))))
end
def L2_IntervalWiden.f (k : Nat) (a0_0 : Bool) (a0_1 : Bool) (a0_2 : Int) (a0_3 : Int) (a1_0 : Bool) (a1_1 : Bool) (a1_2 : Int) (a1_3 : Int) (l2 : List Int) : Option (Bool) := (L2_three.f k).bind fun t179 => (if t179 = true then (L2_IntervalWiden.j0 k l2 t179 (decide ((l2.length : Int) > 100)) a0_0 a0_1 a0_2 a0_3 a1_0 a1_1 a1_2 a1_3) else (L2_IntervalWiden.j0 k l2 t179 true a0_0 a0_1 a0_2 a0_3 a1_0 a1_1 a1_2 a1_3))
theorem L2_IntervalWiden.mono_l : ∀ k, (∀ y0 y1 y2 y3 y4 y5 y6 y7 y8 y9 y10, LeO (L2_IntervalWiden.j0 k y0 y1 y2 y3 y4 y5 y6 y7 y8 y9 y10) (L2_IntervalWiden.j0 (k + 1) y0 y1 y2 y3 y4 y5 y6 y7 y8 y9 y10)) ∧ (∀ y0 y1 y2 y3 y4 y5 y6 y7 y8 y9 y10 y11, LeO (L2_IntervalWiden.j1 k y0 y1 y2 y3 y4 y5 y6 y7 y8 y9 y10 y11) (L2_IntervalWiden.j1 (k + 1) y0 y1 y2 y3 y4 y5 y6 y7 y8 y9 y10 y11)) ∧ (∀ y0 y1 y2 y3 y4 y5 y6 y7 y8 y9 y10, LeO (L2_IntervalWiden.j2 k y0 y1 y2 y3 y4 y5 y6 y7 y8 y9 y10) (L2_IntervalWiden.j2 (k + 1) y0 y1 y2 y3 y4 y5 y6 y7 y8 y9 y10)) ∧ (∀ y0 y1 y2 y3 y4 y5 y6 y7 y8 y9 y10 y11, LeO (L2_IntervalWiden.l0 k y0 y1 y2 y3 y4 y5 y6 y7 y8 y9 y10 y11) (L2_IntervalWiden.l0 (k + 1) y0 y1 y2 y3 y4 y5 y6 y7 y8 y9 y10 y11)) ∧ (∀ y0 y1 y2 y3 y4 y5 y6 y7 y8 y9 y10 y11 y12, LeO (L2_IntervalWiden.j4 k y0 y1 y2 y3 y4 y5 y6 y7 y8 y9 y10 y11 y12) (L2_IntervalWiden.j4 (k + 1) y0 y1 y2 y3 y4 y5 y6 y7 y8 y9 y10 y11 y12)) ∧ (∀ y0 y1 y2 y3 y4 y5 y6 y7 y8 y9 y10 y11 y12 y13 y14 y15 y16 y17 y18 y19 y20 y21 y22 y23 y24, LeO (L2_IntervalWiden.j6 k y0 y1 y2 y3 y4 y5 y6 y7 y8 y9 y10 y11 y12 y13 y14 y15 y16 y17 y18 y19 y20 y21 y22 y23 y24) (L2_IntervalWiden.j6 (k + 1) y0 y1 y2 y3 y4 y5 y6 y7 y8 y9 y10 y11 y12 y13 y14 y15 y16 y17 y18 y19 y20 y21 y22 y23 y24)) ∧ (∀ y0 y1 y2 y3 y4 y5 y6 y7 y8 y9 y10 y11 y12 y13 y14 y15 y16 y17 y18 y19 y20 y21 y22 y23 y24, LeO (L2_IntervalWiden.j5 k y0 y1 y2 y3 y4 y5 y6 y7 y8 y9 y10 y11 y12 y13 y14 y15 y16 y17 y18 y19 y20 y21 y22 y23 y24) (L2_IntervalWiden.j5 (k + 1) y0 y1 y2 y3 y4 y5 y6 y7 y8 y9 y10 y11 y12 y13 y14 y15 y16 y17 y18 y19 y20 y21 y22 y23 y24))
 | 0 => ⟨fun _ _ _ _ _ _ _ _ _ _ _ r h => by simp [L2_IntervalWiden.j0] at h, fun _ _ _ _ _ _ _ _ _ _ _ _ r h => by simp [L2_IntervalWiden.j1] at h, fun _ _ _ _ _ _ _ _ _ _ _ r h => by simp [L2_IntervalWiden.j2] at h, fun _ _ _ _ _ _ _ _ _ _ _ _ r h => by simp [L2_IntervalWiden.l0] at h, fun _ _ _ _ _ _ _ _ _ _ _ _ _ r h => by simp [L2_IntervalWiden.j4] at h, fun _ _ _ _ _ _ _ _ _ _ _ _ _ _ _ _ _ _ _ _ _ _ _ _ _ r h => by simp [L2_IntervalWiden.j6] at h, fun _ _ _ _ _ _ _ _ _ _ _ _ _ _ _ _ _ _ _ _ _ _ _ _ _ r h => by simp [L2_IntervalWiden.j5] at h⟩
 | k + 1 => by
  obtain ⟨ih0, ih1, ih2, ih3, ih4, ih5, ih6⟩ := L2_IntervalWiden.mono_l k
  refine ⟨?_, ?_, ?_, ?_, ?_, ?_, ?_⟩
  ·intro y0 y1 y2 y3 y4 y5 y6 y7 y8 y9 y10
   unfold L2_IntervalWiden.j0
   repeat' first
   | (with_reducible exact ih0 _ _ _ _ _ _ _ _ _ _ _)
   | (with_reducible exact ih1 _ _ _ _ _ _ _ _ _ _ _ _)
   | (with_reducible exact ih2 _ _ _ _ _ _ _ _ _ _ _)
   | (with_reducible exact ih3 _ _ _ _ _ _ _ _ _ _ _ _)
   | (with_reducible exact ih4 _ _ _ _ _ _ _ _ _ _ _ _ _)
   | (with_reducible exact ih5 _ _ _ _ _ _ _ _ _ _ _ _ _ _ _ _ _ _ _ _ _ _ _ _ _)
   | (with_reducible exact ih6 _ _ _ _ _ _ _ _ _ _ _ _ _ _ _ _ _ _ _ _ _ _ _ _ _)
   | (with_reducible exact L2_three.mono _)
   | (with_reducible exact R2_InsideOf.mono _ _ _ _ _ _ _ _ _)
   | (with_reducible exact R2_TwoIntervals.mono _ _ _ _ _ _ _ _ _)
   | (with_reducible exact R2_WidenedOf.mono _ _ _ _ _ _ _ _ _ _)
   | (with_reducible exact interval_Narrow.mono _ _ _ _ _ _ _ _ _)
   | (with_reducible exact interval_Widen.mono _ _ _ _ _ _ _ _ _ _)
   | (with_reducible exact LeO.refl _)
   | (with_reducible exact LeO.none _)
   | (with_reducible refine LeO.ite ?_ ?_)
   | (with_reducible refine LeO.bind ?_ (fun _ => ?_))
   | exact ih0 _ _ _ _ _ _ _ _ _ _ _
   | exact ih1 _ _ _ _ _ _ _ _ _ _ _ _
   | exact ih2 _ _ _ _ _ _ _ _ _ _ _
   | exact ih3 _ _ _ _ _ _ _ _ _ _ _ _
   | exact ih4 _ _ _ _ _ _ _ _ _ _ _ _ _
   | exact ih5 _ _ _ _ _ _ _ _ _ _ _ _ _ _ _ _ _ _ _ _ _ _ _ _ _
   | exact ih6 _ _ _ _ _ _ _ _ _ _ _ _ _ _ _ _ _ _ _ _ _ _ _ _ _
   | exact L2_three.mono _
   | exact R2_InsideOf.mono _ _ _ _ _ _ _ _ _
   | exact R2_TwoIntervals.mono _ _ _ _ _ _ _ _ _
   | exact R2_WidenedOf.mono _ _ _ _ _ _ _ _ _ _
   | exact interval_Narrow.mono _ _ _ _ _ _ _ _ _
   | exact interval_Widen.mono _ _ _ _ _ _ _ _ _ _
   | exact LeO.none _
   | refine LeO.ite ?_ ?_
   | refine LeO.bind ?_ (fun _ => ?_)
  ·intro y0 y1 y2 y3 y4 y5 y6 y7 y8 y9 y10 y11
   unfold L2_IntervalWiden.j1
   repeat' first
   | (with_reducible exact ih0 _ _ _ _ _ _ _ _ _ _ _)
   | (with_reducible exact ih1 _ _ _ _ _ _ _ _ _ _ _ _)
   | (with_reducible exact ih2 _ _ _ _ _ _ _ _ _ _ _)
   | (with_reducible exact ih3 _ _ _ _ _ _ _ _ _ _ _ _)
   | (with_reducible exact ih4 _ _ _ _ _ _ _ _ _ _ _ _ _)
   | (with_reducible exact ih5 _ _ _ _ _ _ _ _ _ _ _ _ _ _ _ _ _ _ _ _ _ _ _ _ _)
   | (with_reducible exact ih6 _ _ _ _ _ _ _ _ _ _ _ _ _ _ _ _ _ _ _ _ _ _ _ _ _)
   | (with_reducible exact L2_three.mono _)
   | (with_reducible exact R2_InsideOf.mono _ _ _ _ _ _ _ _ _)
   | (with_reducible exact R2_TwoIntervals.mono _ _ _ _ _ _ _ _ _)
   | (with_reducible exact R2_WidenedOf.mono _ _ _ _ _ _ _ _ _ _)
   | (with_reducible exact interval_Narrow.mono _ _ _ _ _ _ _ _ _)
   | (with_reducible exact interval_Widen.mono _ _ _ _ _ _ _ _ _ _)
   | (with_reducible exact LeO.refl _)
   | (with_reducible exact LeO.none _)
   | (with_reducible refine LeO.ite ?_ ?_)
   | (with_reducible refine LeO.bind ?_ (fun _ => ?_))
   | exact ih0 _ _ _ _ _ _ _ _ _ _ _
   | exact ih1 _ _ _ _ _ _ _ _ _ _ _ _
   | exact ih2 _ _ _ _ _ _ _ _ _ _ _
   | exact ih3 _ _ _ _ _ _ _ _ _ _ _ _
   | exact ih4 _ _ _ _ _ _ _ _ _ _ _ _ _
   | exact ih5 _ _ _ _ _ _ _ _ _ _ _ _ _ _ _ _ _ _ _ _ _ _ _ _ _
   | exact ih6 _ _ _ _ _ _ _ _ _ _ _ _ _ _ _ _ _ _ _ _ _ _ _ _ _
   | exact L2_three.mono _
   | exact R2_InsideOf.mono _ _ _ _ _ _ _ _ _
   | exact R2_TwoIntervals.mono _ _ _ _ _ _ _ _ _
   | exact R2_WidenedOf.mono _ _ _ _ _ _ _ _ _ _
   | exact interval_Narrow.mono _ _ _ _ _ _ _ _ _
   | exact interval_Widen.mono _ _ _ _ _ _ _ _ _ _
   | exact LeO.none _
   | refine LeO.ite ?_ ?_
   | refine LeO.bind ?_ (fun _ => ?_)
  ·intro y0 y1 y2 y3 y4 y5 y6 y7 y8 y9 y10
   unfold L2_IntervalWiden.j2
   repeat' first
   | (with_reducible exact ih0 _ _ _ _ _ _ _ _ _ _ _)
   | (with_reducible exact ih1 _ _ _ _ _ _ _ _ _ _ _ _)
   | (with_reducible exact ih2 _ _ _ _ _ _ _ _ _ _ _)
   | (with_reducible exact ih3 _ _ _ _ _ _ _ _ _ _ _ _)
   | (with_reducible exact ih4 _ _ _ _ _ _ _ _ _ _ _ _ _)
   | (with_reducible exact ih5 _ _ _ _ _ _ _ _ _ _ _ _ _ _ _ _ _ _ _ _ _ _ _ _ _)
   | (with_reducible exact ih6 _ _ _ _ _ _ _ _ _ _ _ _ _ _ _ _ _ _ _ _ _ _ _ _ _)
   | (with_reducible exact L2_three.mono _)
   | (with_reducible exact R2_InsideOf.mono _ _ _ _ _ _ _ _ _)
   | (with_reducible exact R2_TwoIntervals.mono _ _ _ _ _ _ _ _ _)
   | (with_reducible exact R2_WidenedOf.mono _ _ _ _ _ _ _ _ _ _)
   | (with_reducible exact interval_Narrow.mono _ _ _ _ _ _ _ _ _)
   | (with_reducible exact interval_Widen.mono _ _ _ _ _ _ _ _ _ _)
   | (with_reducible exact LeO.refl _)
   | (with_reducible exact LeO.none _)
   | (with_reducible refine LeO.ite ?_ ?_)
   | (with_reducible refine LeO.bind ?_ (fun _ => ?_))
   | exact ih0 _ _ _ _ _ _ _ _ _ _ _
   | exact ih1 _ _ _ _ _ _ _ _ _ _ _ _
   | exact ih2 _ _ _ _ _ _ _ _ _ _ _
   | exact ih3 _ _ _ _ _ _ _ _ _ _ _ _
   | exact ih4 _ _ _ _ _ _ _ _ _ _ _ _ _
   | exact ih5 _ _ _ _ _ _ _ _ _ _ _ _ _ _ _ _ _ _ _ _ _ _ _ _ _
   | exact ih6 _ _ _ _ _ _ _ _ _ _ _ _ _ _ _ _ _ _ _ _ _ _ _ _ _
   | exact L2_three.mono _
   | exact R2_InsideOf.mono _ _ _ _ _ _ _ _ _
   | exact R2_TwoIntervals.mono _ _ _ _ _ _ _ _ _
   | exact R2_WidenedOf.mono _ _ _ _ _ _ _ _ _ _
   | exact interval_Narrow.mono _ _ _ _ _ _ _ _ _
   | exact interval_Widen.mono _ _ _ _ _ _ _ _ _ _
   | exact LeO.none _
   | refine LeO.ite ?_ ?_
   | refine LeO.bind ?_ (fun _ => ?_)
  ·intro y0 y1 y2 y3 y4 y5 y6 y7 y8 y9 y10 y11
   unfold L2_IntervalWiden.l0
   repeat' first
   | (with_reducible exact ih0 _ _ _ _ _ _ _ _ _ _ _)
   | (with_reducible exact ih1 _ _ _ _ _ _ _ _ _ _ _ _)
   | (with_reducible exact ih2 _ _ _ _ _ _ _ _ _ _ _)
   | (with_reducible exact ih3 _ _ _ _ _ _ _ _ _ _ _ _)
   | (with_reducible exact ih4 _ _ _ _ _ _ _ _ _ _ _ _ _)
   | (with_reducible exact ih5 _ _ _ _ _ _ _ _ _ _ _ _ _ _ _ _ _ _ _ _ _ _ _ _ _)
   | (with_reducible exact ih6 _ _ _ _ _ _ _ _ _ _ _ _ _ _ _ _ _ _ _ _ _ _ _ _ _)
   | (with_reducible exact L2_three.mono _)
   | (with_reducible exact R2_InsideOf.mono _ _ _ _ _ _ _ _ _)
   | (with_reducible exact R2_TwoIntervals.mono _ _ _ _ _ _ _ _ _)
   | (with_reducible exact R2_WidenedOf.mono _ _ _ _ _ _ _ _ _ _)
   | (with_reducible exact interval_Narrow.mono _ _ _ _ _ _ _ _ _)
   | (with_reducible exact interval_Widen.mono _ _ _ _ _ _ _ _ _ _)
   | (with_reducible exact LeO.refl _)
   | (with_reducible exact LeO.none _)
   | (with_reducible refine LeO.ite ?_ ?_)
   | (with_reducible refine LeO.bind ?_ (fun _ => ?_))
   | exact ih0 _ _ _ _ _ _ _ _ _ _ _
   | exact ih1 _ _ _ _ _ _ _ _ _ _ _ _
   | exact ih2 _ _ _ _ _ _ _ _ _ _ _
   | exact ih3 _ _ _ _ _ _ _ _ _ _ _ _
   | exact ih4 _ _ _ _ _ _ _ _ _ _ _ _ _
   | exact ih5 _ _ _ _ _ _ _ _ _ _ _ _ _ _ _ _ _ _ _ _ _ _ _ _ _
   | exact ih6 _ _ _ _ _ _ _ _ _ _ _ _ _ _ _ _ _ _ _ _ _ _ _ _ _
   | exact L2_three.mono _
   | exact R2_InsideOf.mono _ _ _ _ _ _ _ _ _
   | exact R2_TwoIntervals.mono _ _ _ _ _ _ _ _ _
   | exact R2_WidenedOf.mono _ _ _ _ _ _ _ _ _ _
   | exact interval_Narrow.mono _ _ _ _ _ _ _ _ _
   | exact interval_Widen.mono _ _ _ _ _ _ _ _ _ _
   | exact LeO.none _
   | refine LeO.ite ?_ ?_
   | refine LeO.bind ?_ (fun _ => ?_)
  ·intro y0 y1 y2 y3 y4 y5 y6 y7 y8 y9 y10 y11 y12
   unfold L2_IntervalWiden.j4
   repeat' first
   | (with_reducible exact ih0 _ _ _ _ _ _ _ _ _ _ _)
   | (with_reducible exact ih1 _ _ _ _ _ _ _ _ _ _ _ _)
   | (with_reducible exact ih2 _ _ _ _ _ _ _ _ _ _ _)
   | (with_reducible exact ih3 _ _ _ _ _ _ _ _ _ _ _ _)
   | (with_reducible exact ih4 _ _ _ _ _ _ _ _ _ _ _ _ _)
   | (with_reducible exact ih5 _ _ _ _ _ _ _ _ _ _ _ _ _ _ _ _ _ _ _ _ _ _ _ _ _)
   | (with_reducible exact ih6 _ _ _ _ _ _ _ _ _ _ _ _ _ _ _ _ _ _ _ _ _ _ _ _ _)
   | (with_reducible exact L2_three.mono _)
   | (with_reducible exact R2_InsideOf.mono _ _ _ _ _ _ _ _ _)
   | (with_reducible exact R2_TwoIntervals.mono _ _ _ _ _ _ _ _ _)
   | (with_reducible exact R2_WidenedOf.mono _ _ _ _ _ _ _ _ _ _)
   | (with_reducible exact interval_Narrow.mono _ _ _ _ _ _ _ _ _)
   | (with_reducible exact interval_Widen.mono _ _ _ _ _ _ _ _ _ _)
   | (with_reducible exact LeO.refl _)
   | (with_reducible exact LeO.none _)
   | (with_reducible refine LeO.ite ?_ ?_)
   | (with_reducible refine LeO.bind ?_ (fun _ => ?_))
   | exact ih0 _ _ _ _ _ _ _ _ _ _ _
   | exact ih1 _ _ _ _ _ _ _ _ _ _ _ _
   | exact ih2 _ _ _ _ _ _ _ _ _ _ _
   | exact ih3 _ _ _ _ _ _ _ _ _ _ _ _
   | exact ih4 _ _ _ _ _ _ _ _ _ _ _ _ _
   | exact ih5 _ _ _ _ _ _ _ _ _ _ _ _ _ _ _ _ _ _ _ _ _ _ _ _ _
   | exact ih6 _ _ _ _ _ _ _ _ _ _ _ _ _ _ _ _ _ _ _ _ _ _ _ _ _
   | exact L2_three.mono _
   | exact R2_InsideOf.mono _ _ _ _ _ _ _ _ _
   | exact R2_TwoIntervals.mono _ _ _ _ _ _ _ _ _
   | exact R2_WidenedOf.mono _ _ _ _ _ _ _ _ _ _
   | exact interval_Narrow.mono _ _ _ _ _ _ _ _ _
   | exact interval_Widen.mono _ _ _ _ _ _ _ _ _ _
   | exact LeO.none _
   | refine LeO.ite ?_ ?_
   | refine LeO.bind ?_ (fun _ => ?_)
  ·intro y0 y1 y2 y3 y4 y5 y6 y7 y8 y9 y10 y11 y12 y13 y14 y15 y16 y17 y18 y19 y20 y21 y22 y23 y24
   unfold L2_IntervalWiden.j6
   repeat' first
   | (with_reducible exact ih0 _ _ _ _ _ _ _ _ _ _ _)
   | (with_reducible exact ih1 _ _ _ _ _ _ _ _ _ _ _ _)
   | (with_reducible exact ih2 _ _ _ _ _ _ _ _ _ _ _)
   | (with_reducible exact ih3 _ _ _ _ _ _ _ _ _ _ _ _)
   | (with_reducible exact ih4 _ _ _ _ _ _ _ _ _ _ _ _ _)
   | (with_reducible exact ih5 _ _ _ _ _ _ _ _ _ _ _ _ _ _ _ _ _ _ _ _ _ _ _ _ _)
   | (with_reducible exact ih6 _ _ _ _ _ _ _ _ _ _ _ _ _ _ _ _ _ _ _ _ _ _ _ _ _)
   | (with_reducible exact L2_three.mono _)
   | (with_reducible exact R2_InsideOf.mono _ _ _ _ _ _ _ _ _)
   | (with_reducible exact R2_TwoIntervals.mono _ _ _ _ _ _ _ _ _)
   | (with_reducible exact R2_WidenedOf.mono _ _ _ _ _ _ _ _ _ _)
   | (with_reducible exact interval_Narrow.mono _ _ _ _ _ _ _ _ _)
   | (with_reducible exact interval_Widen.mono _ _ _ _ _ _ _ _ _ _)
   | (with_reducible exact LeO.refl _)
   | (with_reducible exact LeO.none _)
   | (with_reducible refine LeO.ite ?_ ?_)
   | (with_reducible refine LeO.bind ?_ (fun _ => ?_))
   | exact ih0 _ _ _ _ _ _ _ _ _ _ _
   | exact ih1 _ _ _ _ _ _ _ _ _ _ _ _
   | exact ih2 _ _ _ _ _ _ _ _ _ _ _
   | exact ih3 _ _ _ _ _ _ _ _ _ _ _ _
   | exact ih4 _ _ _ _ _ _ _ _ _ _ _ _ _
   | exact ih5 _ _ _ _ _ _ _ _ _ _ _ _ _ _ _ _ _ _ _ _ _ _ _ _ _
   | exact ih6 _ _ _ _ _ _ _ _ _ _ _ _ _ _ _ _ _ _ _ _ _ _ _ _ _
   | exact L2_three.mono _
   | exact R2_InsideOf.mono _ _ _ _ _ _ _ _ _
   | exact R2_TwoIntervals.mono _ _ _ _ _ _ _ _ _
   | exact R2_WidenedOf.mono _ _ _ _ _ _ _ _ _ _
   | exact interval_Narrow.mono _ _ _ _ _ _ _ _ _
   | exact interval_Widen.mono _ _ _ _ _ _ _ _ _ _
   | exact LeO.none _
   | refine LeO.ite ?_ ?_
   | refine LeO.bind ?_ (fun _ => ?_)
  intro y0 y1 y2 y3 y4 y5 y6 y7 y8 y9 y10 y11 y12 y13 y14 y15 y16 y17 y18 y19 y20 y21 y22 y23 y24
  unfold L2_IntervalWiden.j5
  repeat' first
  | (with_reducible exact ih0 _ _ _ _ _ _ _ _ _ _ _)
  | (with_reducible exact ih1 _ _ _ _ _ _ _ _ _ _ _ _)
  | (with_reducible exact ih2 _ _ _ _ _ _ _ _ _ _ _)
  | (with_reducible exact ih3 _ _ _ _ _ _ _ _ _ _ _ _)
  | (with_reducible exact ih4 _ _ _ _ _ _ _ _ _ _ _ _ _)
  | (with_reducible exact ih5 _ _ _ _ _ _ _ _ _ _ _ _ _ _ _ _ _ _ _ _ _ _ _ _ _)
  | (with_reducible exact ih6 _ _ _ _ _ _ _ _ _ _ _ _ _ _ _ _ _ _ _ _ _ _ _ _ _)
  | (with_reducible exact L2_three.mono _)
  | (with_reducible exact R2_InsideOf.mono _ _ _ _ _ _ _ _ _)
  | (with_reducible exact R2_TwoIntervals.mono _ _ _ _ _ _ _ _ _)
  | (with_reducible exact R2_WidenedOf.mono _ _ _ _ _ _ _ _ _ _)
  | (with_reducible exact interval_Narrow.mono _ _ _ _ _ _ _ _ _)
  | (with_reducible exact interval_Widen.mono _ _ _ _ _ _ _ _ _ _)
  | (with_reducible exact LeO.refl _)
  | (with_reducible exact LeO.none _)
  | (with_reducible refine LeO.ite ?_ ?_)
  | (with_reducible refine LeO.bind ?_ (fun _ => ?_))
  | exact ih0 _ _ _ _ _ _ _ _ _ _ _
  | exact ih1 _ _ _ _ _ _ _ _ _ _ _ _
  | exact ih2 _ _ _ _ _ _ _ _ _ _ _
  | exact ih3 _ _ _ _ _ _ _ _ _ _ _ _
  | exact ih4 _ _ _ _ _ _ _ _ _ _ _ _ _
  | exact ih5 _ _ _ _ _ _ _ _ _ _ _ _ _ _ _ _ _ _ _ _ _ _ _ _ _
  | exact ih6 _ _ _ _ _ _ _ _ _ _ _ _ _ _ _ _ _ _ _ _ _ _ _ _ _
  | exact L2_three.mono _
  | exact R2_InsideOf.mono _ _ _ _ _ _ _ _ _
  | exact R2_TwoIntervals.mono _ _ _ _ _ _ _ _ _
  | exact R2_WidenedOf.mono _ _ _ _ _ _ _ _ _ _
  | exact interval_Narrow.mono _ _ _ _ _ _ _ _ _
  | exact interval_Widen.mono _ _ _ _ _ _ _ _ _ _
  | exact LeO.none _
  | refine LeO.ite ?_ ?_
  | refine LeO.bind ?_ (fun _ => ?_)
theorem L2_IntervalWiden.mono : ∀ a0 a1 a2 a3 a4 a5 a6 a7 a8 k, LeO (L2_IntervalWiden.f k a0 a1 a2 a3 a4 a5 a6 a7 a8) (L2_IntervalWiden.f (k + 1) a0 a1 a2 a3 a4 a5 a6 a7 a8) := by
 intro a0 a1 a2 a3 a4 a5 a6 a7 a8 k
 obtain ⟨ih0, ih1, ih2, ih3, ih4, ih5, ih6⟩ := L2_IntervalWiden.mono_l k
 unfold L2_IntervalWiden.f
 repeat' first
   | (with_reducible exact ih0 _ _ _ _ _ _ _ _ _ _ _)
   | (with_reducible exact ih1 _ _ _ _ _ _ _ _ _ _ _ _)
   | (with_reducible exact ih2 _ _ _ _ _ _ _ _ _ _ _)
   | (with_reducible exact ih3 _ _ _ _ _ _ _ _ _ _ _ _)
   | (with_reducible exact ih4 _ _ _ _ _ _ _ _ _ _ _ _ _)
   | (with_reducible exact ih5 _ _ _ _ _ _ _ _ _ _ _ _ _ _ _ _ _ _ _ _ _ _ _ _ _)
   | (with_reducible exact ih6 _ _ _ _ _ _ _ _ _ _ _ _ _ _ _ _ _ _ _ _ _ _ _ _ _)
   | (with_reducible exact L2_three.mono _)
   | (with_reducible exact R2_InsideOf.mono _ _ _ _ _ _ _ _ _)
   | (with_reducible exact R2_TwoIntervals.mono _ _ _ _ _ _ _ _ _)
   | (with_reducible exact R2_WidenedOf.mono _ _ _ _ _ _ _ _ _ _)
   | (with_reducible exact interval_Narrow.mono _ _ _ _ _ _ _ _ _)
   | (with_reducible exact interval_Widen.mono _ _ _ _ _ _ _ _ _ _)
   | (with_reducible exact LeO.refl _)
   | (with_reducible exact LeO.none _)
   | (with_reducible refine LeO.ite ?_ ?_)
   | (with_reducible refine LeO.bind ?_ (fun _ => ?_))
   | exact ih0 _ _ _ _ _ _ _ _ _ _ _
   | exact ih1 _ _ _ _ _ _ _ _ _ _ _ _
   | exact ih2 _ _ _ _ _ _ _ _ _ _ _
   | exact ih3 _ _ _ _ _ _ _ _ _ _ _ _
   | exact ih4 _ _ _ _ _ _ _ _ _ _ _ _ _
   | exact ih5 _ _ _ _ _ _ _ _ _ _ _ _ _ _ _ _ _ _ _ _ _ _ _ _ _
   | exact ih6 _ _ _ _ _ _ _ _ _ _ _ _ _ _ _ _ _ _ _ _ _ _ _ _ _
   | exact L2_three.mono _
   | exact R2_InsideOf.mono _ _ _ _ _ _ _ _ _
   | exact R2_TwoIntervals.mono _ _ _ _ _ _ _ _ _
   | exact R2_WidenedOf.mono _ _ _ _ _ _ _ _ _ _
   | exact interval_Narrow.mono _ _ _ _ _ _ _ _ _
   | exact interval_Widen.mono _ _ _ _ _ _ _ _ _ _
   | exact LeO.none _
   | refine LeO.ite ?_ ?_
   | refine LeO.bind ?_ (fun _ => ?_)
def L2_IntervalWiden.T13 : Bool × List (List Nat × List Nat) := (true, [([], []), ([], []), ([], []), ([2], [2]), ([0, 1, 3, 3], [0, 1, 3]), ([4], [4]), ([5], [5]), ([5], [5]), ([], []), ([8, 6, 4, 0, 1, 2, 3, 4, 5, 6, 8], [6, 8]), ([7, 9, 0, 1, 2, 3, 4, 5, 6, 7, 8, 9], [7])])
def L2_IntervalWiden.B13 : List Nat := [0, 0, 0, 4, 15, 31, 63, 63, 0, 383, 1023]
theorem L2_IntervalWiden.tab13 : rtab .any (opsOf Tryd.f8 13) = L2_IntervalWiden.T13 := by kernel_rfl
theorem L2_IntervalWiden.bits13 : waitsOk L2_IntervalWiden.T13.2 L2_IntervalWiden.B13 = true := by kernel_rfl
def L2_IntervalWiden.T29 : Bool × List (List Nat × List Nat) := (true, [([], []), ([], []), ([], []), ([], []), ([], []), ([2, 3, 4], [2, 3, 4]), ([0, 1, 5, 5], [0, 1, 5]), ([6, 6], [6]), ([7], [7]), ([7], [7]), ([8, 9, 7, 7], [7, 8, 9]), ([7, 10], [7, 10]), ([11, 10, 0, 1, 2, 3, 4, 5, 6, 7, 8, 9, 10, 11], [11])])
def L2_IntervalWiden.B29 : List Nat := [0, 0, 0, 0, 0, 28, 63, 127, 255, 255, 1023, 2047, 4095]
theorem L2_IntervalWiden.tab29 : rtab .any (opsOf Tryd.f8 29) = L2_IntervalWiden.T29 := by kernel_rfl
theorem L2_IntervalWiden.bits29 : waitsOk L2_IntervalWiden.T29.2 L2_IntervalWiden.B29 = true := by kernel_rfl
set_option maxHeartbeats 8000000 in
set_option maxRecDepth 100000 in
theorem L2_IntervalWiden.calls [EA] (k : Nat) (a0_0 : Bool) (a0_1 : Bool) (a0_2 : Int) (a0_3 : Int) (a1_0 : Bool) (a1_1 : Bool) (a1_2 : Int) (a1_3 : Int) (A2 : Option Addr) (c2 : Nat) (l2 : List Int) (r : Bool) (w : World) (hr2 : Kd.C (Kd.int .i64) w A2 l2.length l2) (hc2 : l2.length ≤ c2) (h : L2_IntervalWiden.f k a0_0 a0_1 a0_2 a0_3 a1_0 a1_1 a1_2 a1_3 l2 = some r) (h2_ : ErrAt 2 1 w) (h3_ : ErrAt 3 0 w) (h4_ : ErrAt 4 2 w) (h9_ : ErrAll w) :
  Calls Tryd.prog 8 #[.agg #[.bool a0_0, .bool a0_1, .int .i64 a0_2, .int .i64 a0_3], .agg #[.bool a1_0, .bool a1_1, .int .i64 a1_2, .int .i64 a1_3], .slice A2 l2.length c2] w fun e w' => e = .returned (.bool r) ∧ Below w.heap.size w w' := by
 have hE2 := am h2_
 clear h2_
 have hE3 := am h3_
 clear h3_
 have hE4 := am h4_
 clear h4_
 have hE9 := am h9_
 clear h9_
 have hu23 := Tryd.underlying23
 have HR2 := am hr2
 have HC2 := am hc2
 clear hr2 hc2
 have HB := am (Below.refl w.heap.size w)
 have H : ((L2_three.f k).bind fun t179 => (if t179 = true then (L2_IntervalWiden.j0 k l2 t179 (decide ((l2.length : Int) > 100)) a0_0 a0_1 a0_2 a0_3 a1_0 a1_1 a1_2 a1_3) else (L2_IntervalWiden.j0 k l2 t179 true a0_0 a0_1 a0_2 a0_3 a1_0 a1_1 a1_2 a1_3))) = some r := h
 clear h
 replace H := Option.bind_eq_some_iff.mp H
 obtain ⟨t179, A40, H⟩ := H
 replace H : (if t179 = true then (L2_IntervalWiden.j0 k l2 t179 (decide ((l2.length : Int) > 100)) a0_0 a0_1 a0_2 a0_3 a1_0 a1_1 a1_2 a1_3) else (L2_IntervalWiden.j0 k l2 t179 true a0_0 a0_1 a0_2 a0_3 a1_0 a1_1 a1_2 a1_3)) = some r := H
 have A4 := am A40
 clear A40
 have HC5 := am H
 clear H
 go_enter Tryd.func8, Tryd.ntmps8
 go_upto_region 2 with (first | ((with_reducible refine gate_dst (N := 3) rfl ?_); (try (refine gate_guard (by rfl) ?_; dsimp only)); refine box_event ?hg (N := 3) ?hd (cs := #[.bool a0_0, .bool a0_1, .int .i64 a0_2, .int .i64 a0_3]) (t := 23) ?hr ?_; (case hd => rfl); (case hg => rfl); (case hr => first | (go_simp; done) | (go_simp; rfl)); intro gb177 hg w6 hbox hb; have n0_ := am (below_step pw hb); have n1_ := am (hbox); have n2_ := am ((by rw [hg]; exact (below_size pw) : w.heap.size ≤ gb177)); have n3_ := am ((by rw [hg]; exact (below_size pw) : w.heap.size ≤ gb177)); clear HB; have HB := n0_; have BK177 := n1_; have GW177 := n2_; have GE177 := n3_; clear n0_ n1_ n2_ n3_; clear hb hbox hg) | ((with_reducible refine gate_dst (N := 4) rfl ?_); (try (refine gate_guard (by rfl) ?_; dsimp only)); refine box_event ?hg (N := 4) ?hd (cs := #[.bool a1_0, .bool a1_1, .int .i64 a1_2, .int .i64 a1_3]) (t := 23) ?hr ?_; (case hd => rfl); (case hg => rfl); (case hr => first | (go_simp; done) | (go_simp; rfl)); intro gb178 hg w7 hbox hb; have n0_ := bb BK177 hb; have n1_ := am (below_step pw hb); have n2_ := am (hbox); have n3_ := am ((by rw [hg]; exact (below_size pw) : w.heap.size ≤ gb178)); have n4_ := am ((by rw [hg]; exact (below_size pw) : w.heap.size ≤ gb178)); have n5_ := am ((by rw [hg]; exact Nat.ne_of_lt (blk_lt pk) : gb177 ≠ gb178)); have n6_ := am ((by rw [hg]; exact Nat.ne_of_gt (blk_lt pk) : gb178 ≠ gb177)); clear BK177; clear HB; have BK177 := n0_; have HB := n1_; have BK178 := n2_; have GW178 := n3_; have GE178 := n4_; have NB177_178 := n5_; have NB178_177 := n6_; clear n0_ n1_ n2_ n3_ n4_ n5_ n6_; clear hb hbox hg) | ((with_reducible refine gate_callee (f := 12) rfl ?_); refine goesL_ (some 16) rfl rfl Tryd.func12 kk rfl #[] rfl (by (try simp only [List.map_toArray, List.map_cons, List.map_nil]); first | done | rfl | (simp only [List.length_drop, List.length_take]; rfl)) ?_; (with_reducible refine (L2_three.calls k  t179 _ A4.out (am (ErrAt.below hE2.out pw)).out (am (ErrAt.below hE3.out pw)).out).mono ?_); rintro e w8 ⟨rfl, hb⟩; refine ⟨_, rfl, ?_⟩; have n0_ := bb BK177 hb; have n1_ := bb BK178 hb; have n2_ := am (below_step pw hb); clear BK177; clear BK178; clear HB; have BK177 := n0_; have BK178 := n1_; have HB := n2_; clear n0_ n1_ n2_; (try clear hb); (try clear hb2); (try clear hk); (try clear hi)))
 (try simp only [Act.put, List.setIfInBounds_toArray, List.set_cons_zero, List.set_cons_succ])
 go_cut [23] (fun v23 wc => ∃ (kq : Nat) (x23_4 : Bool), v23 = .bool x23_4 ∧ Aside0 (L2_IntervalWiden.j0 kq l2 t179 x23_4 a0_0 a0_1 a0_2 a0_3 a1_0 a1_1 a1_2 a1_3 = some r) ∧ Aside0 (kq ≤ k) ∧ Aside0 (wc.heap[gb177]? = some (.cells #[.bool a0_0, .bool a0_1, .int .i64 a0_2, .int .i64 a0_3] 23 (0, 0))) ∧ Aside0 (wc.heap[gb178]? = some (.cells #[.bool a1_0, .bool a1_1, .int .i64 a1_2, .int .i64 a1_3] 23 (0, 0))) ∧ Aside0 (Below w.heap.size w wc))
 case first =>
  have H := HC5.out
  clear HC5
  by_cases c9 : t179 = true
  ·subst c9
   have H1 : (L2_IntervalWiden.j0 k l2 true (decide ((l2.length : Int) > 100)) a0_0 a0_1 a0_2 a0_3 a1_0 a1_1 a1_2 a1_3) = some r := by rw [if_pos rfl] at H; exact H
   clear H
   have H := H1
   clear H1
   have H' := am H
   clear H
   go_wp2
   go_meet
   case rel => exact ⟨_, (decide ((l2.length : Int) > 100)), pr, H', ⟨by first | omega | exact Nat.le_refl _⟩, ⟨pk⟩, ⟨pk⟩, ⟨pw⟩⟩
  replace c9 := Bool.eq_false_iff.mpr c9
  subst c9
  have H1 : (L2_IntervalWiden.j0 k l2 false true a0_0 a0_1 a0_2 a0_3 a1_0 a1_1 a1_2 a1_3) = some r := by rw [if_neg (show ¬ (false = true) by decide)] at H; exact H
  clear H
  have H := H1
  clear H1
  have H' := am H
  clear H
  go_wp2
  go_meet
  case rel => exact ⟨_, (true), pr, H', ⟨by first | omega | exact Nat.le_refl _⟩, ⟨pk⟩, ⟨pk⟩, ⟨pw⟩⟩
 clear HC5
 try clear c1
 try clear c2
 try clear p2
 try clear c8
 try clear c9
 obtain ⟨kq, x23_4, rfl, HA, HJ4, BK177, BK178, HB⟩ := hcut
 cases kq with
 | zero => exact absurd HA.out (by simp [L2_IntervalWiden.j0])
 | succ kj4 =>
  have H := HA.out
  clear HA
  simp only [L2_IntervalWiden.j0] at H
  by_cases c10 : x23_4 = true
  ·subst c10
   have H1 : (some t179) = some r := by rw [if_pos rfl] at H; exact H
   clear H
   have H := H1
   clear H1
   obtain rfl := Option.some.inj H
   go_wp2
   go_ret
   exact ⟨pe, pw⟩
  replace c10 := Bool.eq_false_iff.mpr c10
  subst c10
  have H1 : ((R2_TwoIntervals.f kj4 a0_0 a0_1 a0_2 a0_3 a1_0 a1_1 a1_2 a1_3).bind fun t180 => (if t180 = 0 then (L2_IntervalWiden.j1 kj4 l2 t180 t180 (decide ((l2.length : Int) > 20)) a0_0 a0_1 a0_2 a0_3 a1_0 a1_1 a1_2 a1_3) else (L2_IntervalWiden.j1 kj4 l2 t180 t180 false a0_0 a0_1 a0_2 a0_3 a1_0 a1_1 a1_2 a1_3))) = some r := by rw [if_neg (show ¬ (false = true) by decide)] at H; exact H
  clear H
  have H := H1
  clear H1
  replace H := Option.bind_eq_some_iff.mp H
  obtain ⟨t180, A110, H⟩ := H
  replace H : (if t180 = 0 then (L2_IntervalWiden.j1 kj4 l2 t180 t180 (decide ((l2.length : Int) > 20)) a0_0 a0_1 a0_2 a0_3 a1_0 a1_1 a1_2 a1_3) else (L2_IntervalWiden.j1 kj4 l2 t180 t180 false a0_0 a0_1 a0_2 a0_3 a1_0 a1_1 a1_2 a1_3)) = some r := H
  have A11 := am A110
  clear A110
  have HC12 := am H
  clear H
  have hnb13 := NB177_178.out
  have hnc13 := NB178_177.out
  have hcz14_0 : wc.cell? ⟨gb177, 0, none⟩ = some (.bool a0_0) := bc BK177 0
  have hcz14_1 : wc.cell? ⟨gb177, 1, none⟩ = some (.bool a0_1) := bc BK177 1
  have hcz14_2 : wc.cell? ⟨gb177, 2, none⟩ = some (.int .i64 a0_2) := bc BK177 2
  have hcz14_3 : wc.cell? ⟨gb177, 3, none⟩ = some (.int .i64 a0_3) := bc BK177 3
  have hfz14_0 := blk_frozen BK177.out 0
  have hfz14_1 := blk_frozen BK177.out 1
  have hfz14_2 := blk_frozen BK177.out 2
  have hfz14_3 := blk_frozen BK177.out 3
  have hcz15_0 : wc.cell? ⟨gb178, 0, none⟩ = some (.bool a1_0) := bc BK178 0
  have hcz15_1 : wc.cell? ⟨gb178, 1, none⟩ = some (.bool a1_1) := bc BK178 1
  have hcz15_2 : wc.cell? ⟨gb178, 2, none⟩ = some (.int .i64 a1_2) := bc BK178 2
  have hcz15_3 : wc.cell? ⟨gb178, 3, none⟩ = some (.int .i64 a1_3) := bc BK178 3
  have hfz15_0 := blk_frozen BK178.out 0
  have hfz15_1 := blk_frozen BK178.out 1
  have hfz15_2 := blk_frozen BK178.out 2
  have hfz15_3 := blk_frozen BK178.out 3
  go_upto_region 6 with (first | ((with_reducible refine gate_callee (f := 32) rfl ?_); refine goesL_ (some 27) rfl rfl Tryd.func32 kk rfl #[.agg #[.bool a0_0, .bool a0_1, .int .i64 a0_2, .int .i64 a0_3], .agg #[.bool a1_0, .bool a1_1, .int .i64 a1_2, .int .i64 a1_3]] rfl (by (try simp only [List.map_toArray, List.map_cons, List.map_nil]); first | done | rfl | (simp only [List.length_drop, List.length_take]; rfl)) ?_; (with_reducible refine (R2_TwoIntervals.calls kj4 a0_0 a0_1 a0_2 a0_3 a1_0 a1_1 a1_2 a1_3 t180 _ A11.out).mono ?_); rintro e w16 ⟨rfl, hb⟩; refine ⟨_, rfl, ?_⟩; have n0_ := bb BK177 hb; have n1_ := bb BK178 hb; have n2_ := am (below_step pw hb); clear BK177; clear BK178; clear HB; have BK177 := n0_; have BK178 := n1_; have HB := n2_; clear n0_ n1_ n2_; (try clear hb); (try clear hb2); (try clear hk); (try clear hi)))
  (try simp only [Act.put, List.setIfInBounds_toArray, List.set_cons_zero, List.set_cons_succ])
  go_cut [35] (fun v35 wc => ∃ (kq : Nat) (x35_11 : Bool), v35 = .bool x35_11 ∧ Aside0 (L2_IntervalWiden.j1 kq l2 t180 t180 x35_11 a0_0 a0_1 a0_2 a0_3 a1_0 a1_1 a1_2 a1_3 = some r) ∧ Aside0 (kq ≤ kj4) ∧ Aside0 (wc.heap[gb177]? = some (.cells #[.bool a0_0, .bool a0_1, .int .i64 a0_2, .int .i64 a0_3] 23 (0, 0))) ∧ Aside0 (wc.heap[gb178]? = some (.cells #[.bool a1_0, .bool a1_1, .int .i64 a1_2, .int .i64 a1_3] 23 (0, 0))) ∧ Aside0 (Below w.heap.size w wc))
  case first =>
   have H := HC12.out
   clear HC12
   by_cases c17 : t180 = 0
   ·rw [if_pos c17] at H
    have c17b0 : (t180 == 0) = true := beq_iff_eq.mpr c17
    have c17b1 : (t180 != 0) = false := bne_eq_false_iff_eq.mpr c17
    clear c17
    (first | rw [c17b0] | (simp only [i64_w, i32_w]; rw [c17b0]) | skip)
    have H' := am H
    clear H
    go_wp2
    go_meet
    case rel => exact ⟨_, (decide ((l2.length : Int) > 20)), pr, H', ⟨by have := HJ4.out; first | omega | exact Nat.le_refl _⟩, ⟨pk⟩, ⟨pk⟩, ⟨pw⟩⟩
   rw [if_neg c17] at H
   have c17b0 : (t180 == 0) = false := beq_eq_false_iff_ne.mpr c17
   have c17b1 : (t180 != 0) = true := bne_iff_ne.mpr c17
   (first | rw [c17b0] | (simp only [i64_w, i32_w]; rw [c17b0]) | skip)
   have H' := am H
   clear H
   go_wp2
   go_meet
   case rel => exact ⟨_, (false), pr, H', ⟨by have := HJ4.out; first | omega | exact Nat.le_refl _⟩, ⟨pk⟩, ⟨pk⟩, ⟨pw⟩⟩
  clear HC12
  try clear c1
  try clear c2
  try clear p2
  try clear c3
  try clear c8
  try clear c9
  try clear c10
  try clear c12
  try clear c13
  try clear c17
  try clear c17b0
  try clear c17b1
  try clear hcz14_0
  try clear hcz14_1
  try clear hcz14_2
  try clear hcz14_3
  try clear hcz15_0
  try clear hcz15_1
  try clear hcz15_2
  try clear hcz15_3
  try clear hfz14_0
  try clear hfz14_1
  try clear hfz14_2
  try clear hfz14_3
  try clear hfz15_0
  try clear hfz15_1
  try clear hfz15_2
  try clear hfz15_3
  try clear p2
  obtain ⟨kq, x35_11, rfl, HA, HJ11, BK177, BK178, HB⟩ := hcut
  cases kq with
  | zero => exact absurd HA.out (by simp [L2_IntervalWiden.j1])
  | succ kj11 =>
   have H := HA.out
   clear HA
   simp only [L2_IntervalWiden.j1] at H
   have HC18 := am H
   clear H
   go_upto_if 35 with (fail)
   go_cut [8] (fun v8 wc => ∃ (kq : Nat) (x8_17 : Int), v8 = .int .i64 x8_17 ∧ Aside0 (L2_IntervalWiden.j2 kq l2 x8_17 t180 a0_0 a0_1 a0_2 a0_3 a1_0 a1_1 a1_2 a1_3 = some r) ∧ Aside0 (kq ≤ kj11) ∧ Aside0 (wc.heap[gb177]? = some (.cells #[.bool a0_0, .bool a0_1, .int .i64 a0_2, .int .i64 a0_3] 23 (0, 0))) ∧ Aside0 (wc.heap[gb178]? = some (.cells #[.bool a1_0, .bool a1_1, .int .i64 a1_2, .int .i64 a1_3] 23 (0, 0))) ∧ Aside0 (Below w.heap.size w wc))
   case first =>
    have H := HC18.out
    clear HC18
    by_cases c19 : x35_11 = true
    ·subst c19
     have H1 : (L2_IntervalWiden.j2 kj11 l2 2 t180 a0_0 a0_1 a0_2 a0_3 a1_0 a1_1 a1_2 a1_3) = some r := by rw [if_pos rfl] at H; exact H
     clear H
     have H := H1
     clear H1
     have H' := am H
     clear H
     go_wp2
     go_meet
     case rel => exact ⟨_, (2), pr, H', ⟨by have := HJ4.out; have := HJ11.out; first | omega | exact Nat.le_refl _⟩, ⟨pk⟩, ⟨pk⟩, ⟨pw⟩⟩
    replace c19 := Bool.eq_false_iff.mpr c19
    subst c19
    have H1 : (L2_IntervalWiden.j2 kj11 l2 t180 t180 a0_0 a0_1 a0_2 a0_3 a1_0 a1_1 a1_2 a1_3) = some r := by rw [if_neg (show ¬ (false = true) by decide)] at H; exact H
    clear H
    have H := H1
    clear H1
    have H' := am H
    clear H
    go_wp2
    go_meet
    case rel => exact ⟨_, (t180), pr, H', ⟨by have := HJ4.out; have := HJ11.out; first | omega | exact Nat.le_refl _⟩, ⟨pk⟩, ⟨pk⟩, ⟨pw⟩⟩
   clear HC18
   try clear c1
   try clear c2
   try clear p2
   try clear c3
   try clear c8
   try clear c9
   try clear c10
   try clear c12
   try clear c13
   try clear c17
   try clear c17b0
   try clear c17b1
   try clear c19
   try clear hcz14_0
   try clear hcz14_1
   try clear hcz14_2
   try clear hcz14_3
   try clear hcz15_0
   try clear hcz15_1
   try clear hcz15_2
   try clear hcz15_3
   try clear hfz14_0
   try clear hfz14_1
   try clear hfz14_2
   try clear hfz14_3
   try clear hfz15_0
   try clear hfz15_1
   try clear hfz15_2
   try clear hfz15_3
   try clear p2
   obtain ⟨kq, x8_17, rfl, HA, HJ17, BK177, BK178, HB⟩ := hcut
   cases kq with
   | zero => exact absurd HA.out (by simp [L2_IntervalWiden.j2])
   | succ kj17 =>
    have H := HA.out
    clear HA
    simp only [L2_IntervalWiden.j2] at H
    have H' := am H
    clear H
    go_wp2
    go_loopg [8, 10] kj17 (fun kq v8 v10 w' => ∃ (x8_4 : Int) (x10_4 : Int), v8 = .int .i64 x8_4 ∧ v10 = .int .i64 x10_4 ∧ Aside0 (L2_IntervalWiden.l0 kq l2 x8_4 t180 x10_4 a0_0 a0_1 a0_2 a0_3 a1_0 a1_1 a1_2 a1_3 = some r) ∧ Aside0 (kq ≤ kj17) ∧ Aside0 (w'.heap[gb177]? = some (.cells #[.bool a0_0, .bool a0_1, .int .i64 a0_2, .int .i64 a0_3] 23 (0, 0))) ∧ Aside0 (w'.heap[gb178]? = some (.cells #[.bool a1_0, .bool a1_1, .int .i64 a1_2, .int .i64 a1_3] 23 (0, 0))) ∧ Aside0 (Below w.heap.size w w'))
    case atStart => exact ⟨(x8_17), (0), pr, pr, H', ⟨Nat.le_refl _⟩, ⟨pk⟩, ⟨pk⟩, ⟨pw⟩⟩
    case round =>
     clear H'
     try clear c1
     try clear c2
     try clear p2
     try clear c3
     try clear c8
     try clear c9
     try clear c10
     try clear c12
     try clear c13
     try clear c17
     try clear c17b0
     try clear c17b1
     try clear c19
     try clear hcz14_0
     try clear hcz14_1
     try clear hcz14_2
     try clear hcz14_3
     try clear hcz15_0
     try clear hcz15_1
     try clear hcz15_2
     try clear hcz15_3
     try clear hfz14_0
     try clear hfz14_1
     try clear hfz14_2
     try clear hfz14_3
     try clear hfz15_0
     try clear hfz15_1
     try clear hfz15_2
     try clear hfz15_3
     try clear p2
     obtain ⟨x8_4, x10_4, rfl, rfl, HA, HK4, BK177, BK178, HB⟩ := hrel
     cases gk with
     | zero => exact absurd HA.out (by simp [L2_IntervalWiden.l0])
     | succ k4 =>
      have H := HA.out
      clear HA
      simp only [L2_IntervalWiden.l0] at H
      have HC20 := am H
      clear H
      go_upto_region 9 with (fail)
      go_cut [43] (fun v43 wc => ∃ (kq : Nat) (x43_19 : Bool), v43 = .bool x43_19 ∧ Aside0 (L2_IntervalWiden.j4 kq l2 x8_4 t180 x10_4 x43_19 a0_0 a0_1 a0_2 a0_3 a1_0 a1_1 a1_2 a1_3 = some r) ∧ Aside0 (kq ≤ k4) ∧ Aside0 (wc.heap[gb177]? = some (.cells #[.bool a0_0, .bool a0_1, .int .i64 a0_2, .int .i64 a0_3] 23 (0, 0))) ∧ Aside0 (wc.heap[gb178]? = some (.cells #[.bool a1_0, .bool a1_1, .int .i64 a1_2, .int .i64 a1_3] 23 (0, 0))) ∧ Aside0 (Below w.heap.size w wc))
      case first =>
       have H := HC20.out
       clear HC20
       by_cases c21 : x10_4 < (l2.length : Int)
       ·rw [if_pos c21] at H
        have c21b0 : decide (x10_4 < (l2.length : Int)) = true := decide_eq_true c21
        clear c21
        (first | rw [c21b0] | (simp only [i64_w, i32_w]; rw [c21b0]) | skip)
        have H' := am H
        clear H
        go_wp2
        go_meet
        case rel => exact ⟨_, ((x8_4 == 0)), pr, H', ⟨by have := HJ4.out; have := HJ11.out; have := HJ17.out; have := HK4.out; first | omega | exact Nat.le_refl _⟩, ⟨pk⟩, ⟨pk⟩, ⟨pw⟩⟩
       rw [if_neg c21] at H
       have c21b0 : decide (x10_4 < (l2.length : Int)) = false := decide_eq_false c21
       clear c21
       (first | rw [c21b0] | (simp only [i64_w, i32_w]; rw [c21b0]) | skip)
       have H' := am H
       clear H
       go_wp2
       go_meet
       case rel => exact ⟨_, (false), pr, H', ⟨by have := HJ4.out; have := HJ11.out; have := HJ17.out; have := HK4.out; first | omega | exact Nat.le_refl _⟩, ⟨pk⟩, ⟨pk⟩, ⟨pw⟩⟩
      clear HC20
      try clear c1
      try clear c2
      try clear p2
      try clear c3
      try clear c8
      try clear c9
      try clear c10
      try clear c12
      try clear c13
      try clear c17
      try clear c17b0
      try clear c17b1
      try clear c19
      try clear c21
      try clear c21b0
      try clear hcz14_0
      try clear hcz14_1
      try clear hcz14_2
      try clear hcz14_3
      try clear hcz15_0
      try clear hcz15_1
      try clear hcz15_2
      try clear hcz15_3
      try clear hfz14_0
      try clear hfz14_1
      try clear hfz14_2
      try clear hfz14_3
      try clear hfz15_0
      try clear hfz15_1
      try clear hfz15_2
      try clear hfz15_3
      try clear p2
      obtain ⟨kq, x43_19, rfl, HA, HJ19, BK177, BK178, HB⟩ := hcut
      cases kq with
      | zero => exact absurd HA.out (by simp [L2_IntervalWiden.j4])
      | succ kj19 =>
       have H := HA.out
       clear HA
       simp only [L2_IntervalWiden.j4] at H
       by_cases c22 : x43_19 = true
       ·subst c22
        have H1 : (if 0 ≤ x10_4 then (if x10_4 < (l2.length : Int) then ((R2_Far.f (rd l2 x10_4) 1099511627776).bind fun t182 => (if t182 = true then (L2_IntervalWiden.l0 kj19 l2 2 t180 (wrap64 (x10_4 + 1)) a0_0 a0_1 a0_2 a0_3 a1_0 a1_1 a1_2 a1_3) else (L2_IntervalWiden.l0 kj19 l2 x8_4 t180 (wrap64 (x10_4 + 1)) a0_0 a0_1 a0_2 a0_3 a1_0 a1_1 a1_2 a1_3))) else (none)) else (none)) = some r := by rw [if_pos rfl] at H; exact H
        clear H
        have H := H1
        clear H1
        by_cases c23 : 0 ≤ x10_4
        ·rw [if_pos c23] at H
         have c23b0 : decide (0 ≤ x10_4) = true := decide_eq_true c23
         clear c23
         by_cases c24 : x10_4 < (l2.length : Int)
         ·rw [if_pos c24] at H
          have c24b0 : decide (x10_4 < (l2.length : Int)) = true := decide_eq_true c24
          clear c24
          replace H := Option.bind_eq_some_iff.mp H
          obtain ⟨t182, A250, H⟩ := H
          replace H : (if t182 = true then (L2_IntervalWiden.l0 kj19 l2 2 t180 (wrap64 (x10_4 + 1)) a0_0 a0_1 a0_2 a0_3 a1_0 a1_1 a1_2 a1_3) else (L2_IntervalWiden.l0 kj19 l2 x8_4 t180 (wrap64 (x10_4 + 1)) a0_0 a0_1 a0_2 a0_3 a1_0 a1_1 a1_2 a1_3)) = some r := H
          have A25 := am A250
          clear A250
          by_cases c26 : t182 = true
          ·subst c26
           have H1 : (L2_IntervalWiden.l0 kj19 l2 2 t180 (wrap64 (x10_4 + 1)) a0_0 a0_1 a0_2 a0_3 a1_0 a1_1 a1_2 a1_3) = some r := by rw [if_pos rfl] at H; exact H
           clear H
           have H := H1
           clear H1
           have H' := am H
           clear H
           have p181 : 0 ≤ (x10_4 : Int) := of_decide_eq_true (by first | (with_reducible assumption) | assumption)
           have q181 : x10_4 < (l2.length : Int) := of_decide_eq_true (by first | (with_reducible assumption) | assumption)
           obtain ⟨ad181, e181, hx181_0⟩ := Kd.at_int HR2.out x10_4 p181 q181
           cases e181
           replace hx181_0 := (HB.out.cell (World.block_lt_of_cell? w _ hx181_0)).trans hx181_0
           replace p181 := eq_true p181
           replace q181 := eq_true q181
           go_wp2_with (first | ((with_reducible refine gate_callee (f := 27) rfl ?_); refine goesL_ (some 50) rfl rfl Tryd.func27 kk rfl #[.int .i64 (rd l2 x10_4), .int .i64 1099511627776] rfl (by (try simp only [List.map_toArray, List.map_cons, List.map_nil]); first | done | rfl | (simp only [List.length_drop, List.length_take]; rfl)) ?_; (with_reducible refine (R2_Far.calls (rd l2 x10_4) 1099511627776 true _ A25.out).mono ?_); rintro e w' ⟨rfl, ⟨nd, rfl⟩⟩; refine ⟨_, rfl, ?_⟩))
           go_roundg kj19
           case measure => have := HJ4.out; have := HJ11.out; have := HJ17.out; have := HK4.out; have := HJ19.out; omega
           case rel => exact ⟨(2), (wrap64 (x10_4 + 1)), pr, pr, H', ⟨by have := HJ4.out; have := HJ11.out; have := HJ17.out; have := HK4.out; have := HJ19.out; omega⟩, ⟨pk⟩, ⟨pk⟩, ⟨pw⟩⟩
          replace c26 := Bool.eq_false_iff.mpr c26
          subst c26
          have H1 : (L2_IntervalWiden.l0 kj19 l2 x8_4 t180 (wrap64 (x10_4 + 1)) a0_0 a0_1 a0_2 a0_3 a1_0 a1_1 a1_2 a1_3) = some r := by rw [if_neg (show ¬ (false = true) by decide)] at H; exact H
          clear H
          have H := H1
          clear H1
          have H' := am H
          clear H
          have p181 : 0 ≤ (x10_4 : Int) := of_decide_eq_true (by first | (with_reducible assumption) | assumption)
          have q181 : x10_4 < (l2.length : Int) := of_decide_eq_true (by first | (with_reducible assumption) | assumption)
          obtain ⟨ad181, e181, hx181_0⟩ := Kd.at_int HR2.out x10_4 p181 q181
          cases e181
          replace hx181_0 := (HB.out.cell (World.block_lt_of_cell? w _ hx181_0)).trans hx181_0
          replace p181 := eq_true p181
          replace q181 := eq_true q181
          go_wp2_with (first | ((with_reducible refine gate_callee (f := 27) rfl ?_); refine goesL_ (some 50) rfl rfl Tryd.func27 kk rfl #[.int .i64 (rd l2 x10_4), .int .i64 1099511627776] rfl (by (try simp only [List.map_toArray, List.map_cons, List.map_nil]); first | done | rfl | (simp only [List.length_drop, List.length_take]; rfl)) ?_; (with_reducible refine (R2_Far.calls (rd l2 x10_4) 1099511627776 false _ A25.out).mono ?_); rintro e w' ⟨rfl, ⟨nd, rfl⟩⟩; refine ⟨_, rfl, ?_⟩))
          go_roundg kj19
          case measure => have := HJ4.out; have := HJ11.out; have := HJ17.out; have := HK4.out; have := HJ19.out; omega
          case rel => exact ⟨(x8_4), (wrap64 (x10_4 + 1)), pr, pr, H', ⟨by have := HJ4.out; have := HJ11.out; have := HJ17.out; have := HK4.out; have := HJ19.out; omega⟩, ⟨pk⟩, ⟨pk⟩, ⟨pw⟩⟩
         rw [if_neg c24] at H
         exact absurd H (by simp)
        rw [if_neg c23] at H
        exact absurd H (by simp)
       replace c22 := Bool.eq_false_iff.mpr c22
       subst c22
       have H1 : ((L2_ints.f l2).bind fun t183 => ((interval_Widen.f kj19 a0_0 a0_1 a0_2 a0_3 a1_0 a1_1 a1_2 a1_3 t183).bind fun bt186 => ((interval_Narrow.f kj19 a0_0 a0_1 a0_2 a0_3 a1_0 a1_1 a1_2 a1_3).bind fun bt192 => (if t180 = 0 then (if a0_0 = true then (L2_IntervalWiden.j5 kj19 l2 x8_4 t180 bt186.2.2.2.2 bt192.2.2.2.2 a0_0 a0_1 a0_2 a0_3 a1_0 a1_1 a1_2 a1_3 bt186.1 bt186.2.1 bt186.2.2.1 bt186.2.2.2.1 bt192.1 bt192.2.1 bt192.2.2.1 bt192.2.2.2.1 a1_0 a0_1 a1_2 a0_3) else (L2_IntervalWiden.j5 kj19 l2 x8_4 t180 bt186.2.2.2.2 bt192.2.2.2.2 a0_0 a0_1 a0_2 a0_3 a1_0 a1_1 a1_2 a1_3 bt186.1 bt186.2.1 bt186.2.2.1 bt186.2.2.2.1 bt192.1 bt192.2.1 bt192.2.2.1 bt192.2.2.2.1 a0_0 a0_1 a0_2 a0_3)) else (L2_IntervalWiden.j6 kj19 l2 x8_4 t180 bt186.2.2.2.2 bt192.2.2.2.2 a0_0 a0_1 a0_2 a0_3 a1_0 a1_1 a1_2 a1_3 bt186.1 bt186.2.1 bt186.2.2.1 bt186.2.2.2.1 bt192.1 bt192.2.1 bt192.2.2.1 bt192.2.2.2.1 a0_0 a0_1 a0_2 a0_3))))) = some r := by rw [if_neg (show ¬ (false = true) by decide)] at H; exact H
       clear H
       have H := H1
       clear H1
       replace H := Option.bind_eq_some_iff.mp H
       obtain ⟨t183, A270, H⟩ := H
       replace H : ((interval_Widen.f kj19 a0_0 a0_1 a0_2 a0_3 a1_0 a1_1 a1_2 a1_3 t183).bind fun bt186 => ((interval_Narrow.f kj19 a0_0 a0_1 a0_2 a0_3 a1_0 a1_1 a1_2 a1_3).bind fun bt192 => (if t180 = 0 then (if a0_0 = true then (L2_IntervalWiden.j5 kj19 l2 x8_4 t180 bt186.2.2.2.2 bt192.2.2.2.2 a0_0 a0_1 a0_2 a0_3 a1_0 a1_1 a1_2 a1_3 bt186.1 bt186.2.1 bt186.2.2.1 bt186.2.2.2.1 bt192.1 bt192.2.1 bt192.2.2.1 bt192.2.2.2.1 a1_0 a0_1 a1_2 a0_3) else (L2_IntervalWiden.j5 kj19 l2 x8_4 t180 bt186.2.2.2.2 bt192.2.2.2.2 a0_0 a0_1 a0_2 a0_3 a1_0 a1_1 a1_2 a1_3 bt186.1 bt186.2.1 bt186.2.2.1 bt186.2.2.2.1 bt192.1 bt192.2.1 bt192.2.2.1 bt192.2.2.2.1 a0_0 a0_1 a0_2 a0_3)) else (L2_IntervalWiden.j6 kj19 l2 x8_4 t180 bt186.2.2.2.2 bt192.2.2.2.2 a0_0 a0_1 a0_2 a0_3 a1_0 a1_1 a1_2 a1_3 bt186.1 bt186.2.1 bt186.2.2.1 bt186.2.2.2.1 bt192.1 bt192.2.1 bt192.2.2.1 bt192.2.2.2.1 a0_0 a0_1 a0_2 a0_3)))) = some r := H
       have A27 := am A270
       clear A270
       replace H := Option.bind_eq_some_iff.mp H
       obtain ⟨⟨t186, t187, t188, t189, t190⟩, A280, H⟩ := H
       replace H : ((interval_Narrow.f kj19 a0_0 a0_1 a0_2 a0_3 a1_0 a1_1 a1_2 a1_3).bind fun bt192 => (if t180 = 0 then (if a0_0 = true then (L2_IntervalWiden.j5 kj19 l2 x8_4 t180 t190 bt192.2.2.2.2 a0_0 a0_1 a0_2 a0_3 a1_0 a1_1 a1_2 a1_3 t186 t187 t188 t189 bt192.1 bt192.2.1 bt192.2.2.1 bt192.2.2.2.1 a1_0 a0_1 a1_2 a0_3) else (L2_IntervalWiden.j5 kj19 l2 x8_4 t180 t190 bt192.2.2.2.2 a0_0 a0_1 a0_2 a0_3 a1_0 a1_1 a1_2 a1_3 t186 t187 t188 t189 bt192.1 bt192.2.1 bt192.2.2.1 bt192.2.2.2.1 a0_0 a0_1 a0_2 a0_3)) else (L2_IntervalWiden.j6 kj19 l2 x8_4 t180 t190 bt192.2.2.2.2 a0_0 a0_1 a0_2 a0_3 a1_0 a1_1 a1_2 a1_3 t186 t187 t188 t189 bt192.1 bt192.2.1 bt192.2.2.1 bt192.2.2.2.1 a0_0 a0_1 a0_2 a0_3))) = some r := H
       have A28 := am A280
       clear A280
       replace H := Option.bind_eq_some_iff.mp H
       obtain ⟨⟨t192, t193, t194, t195, t196⟩, A290, H⟩ := H
       replace H : (if t180 = 0 then (if a0_0 = true then (L2_IntervalWiden.j5 kj19 l2 x8_4 t180 t190 t196 a0_0 a0_1 a0_2 a0_3 a1_0 a1_1 a1_2 a1_3 t186 t187 t188 t189 t192 t193 t194 t195 a1_0 a0_1 a1_2 a0_3) else (L2_IntervalWiden.j5 kj19 l2 x8_4 t180 t190 t196 a0_0 a0_1 a0_2 a0_3 a1_0 a1_1 a1_2 a1_3 t186 t187 t188 t189 t192 t193 t194 t195 a0_0 a0_1 a0_2 a0_3)) else (L2_IntervalWiden.j6 kj19 l2 x8_4 t180 t190 t196 a0_0 a0_1 a0_2 a0_3 a1_0 a1_1 a1_2 a1_3 t186 t187 t188 t189 t192 t193 t194 t195 a0_0 a0_1 a0_2 a0_3)) = some r := H
       have A29 := am A290
       clear A290
       have HC30 := am H
       clear H
       try go_wp2
       have n0_ := am (blk_drew BK177.out)
       have n1_ := am (blk_drew BK178.out)
       have n2_ := am (below_drew1 HB.out)
       clear BK177 BK178 HB
       revert n0_ n1_ n2_
       intro BK177 BK178 HB
       refine start_ (n := 11) (S := fun w' => True) (ds := []) #[false, false, false, false, false, false, false, false, false, false, false] kk rfl rfl trivial (fun hHeld => ?_); refine with_tabW L2_IntervalWiden.tab13 L2_IntervalWiden.bits13 (fun HT_ HW_ => ?_)
       generalize wc.drew = w31 at BK177 BK178 HB hHeld ⊢
       refine pure_ (i := 2) (N := some 54) (v := ?_) (a' := ?_) #[false, false, true, false, false, false, false, false, false, false, false] rfl rfl (any_of HT_.out kk) (fun _ _ _ h => h) (Or.inl ⟨by rfl, ?_⟩) ?_ ?_
       rotate_left
       ·intro w'
        go_simp
        with_reducible rfl
       rotate_left
       ·simp only [Act.put, List.setIfInBounds_toArray, List.set_cons_zero, List.set_cons_succ, i64_w, i32_w]
        rfl
       refine inv_at [0, 1, 3, 4, 5, 6, 7, 8, 9, 10] (fun a0_ b a w' => ∃ (v184 : Value) (gb191 : Nat) (m8_ : Value), a = putSel a0_ b [(0, 52, .agg #[.bool a0_0, .bool a0_1, .int .i64 a0_2, .int .i64 a0_3]), (1, 53, .agg #[.bool a1_0, .bool a1_1, .int .i64 a1_2, .int .i64 a1_3]), (3, 55, v184), (4, 56, .tuple #[.agg #[.bool t186, .bool t187, .int .i64 t188, .int .i64 t189], errW t190]), (5, 51, .tuple #[.agg #[.bool t186, .bool t187, .int .i64 t188, .int .i64 t189], errW t190]), (6, 57, .agg #[.bool t186, .bool t187, .int .i64 t188, .int .i64 t189]), (7, 58, errW t190), (8, 11, m8_), (10, 12, errW t190)] ∧ (w'.heap[gb177]? = some (.cells #[.bool a0_0, .bool a0_1, .int .i64 a0_2, .int .i64 a0_3] 23 (0, 0))) ∧ (w'.heap[gb178]? = some (.cells #[.bool a1_0, .bool a1_1, .int .i64 a1_2, .int .i64 a1_3] 23 (0, 0))) ∧ (Below w.heap.size w w') ∧ (b 3 = true → Kd.R (Kd.int .i64) 3 w' w.heap.size (fun _ => True) v184 t183) ∧ (b 8 = true → b 9 = false → w'.heap[gb191]? = some (.cells #[.bool false, .bool false, .int .i64 0, .int .i64 0] 23 (0, 0))) ∧ (b 8 = true → w.heap.size ≤ gb191) ∧ (b 8 = true → w.heap.size ≤ gb191) ∧ (b 8 = true → gb177 ≠ gb191) ∧ (b 8 = true → gb191 ≠ gb177) ∧ (b 8 = true → gb178 ≠ gb191) ∧ (b 8 = true → gb191 ≠ gb178) ∧ (b 9 = true → w'.heap[gb191]? = some (.cells #[.bool t186, .bool t187, .int .i64 t188, .int .i64 t189] 23 (0, 0))) ∧ (b 8 = true → (m8_ : Value) = .pointer (some ⟨gb191, 0, none⟩))) HT_.out HW_.out kk kk ?_ ?_ ?_
       ·exact ⟨.bool false, 0, .bool false, by simp only [putSel, Bool.false_eq_true, if_false], BK177.out, BK178.out, HB.out, fun h_ => absurd h_ (by decide), fun h_ => absurd h_ (by decide), fun h_ => absurd h_ (by decide), fun h_ => absurd h_ (by decide), fun h_ => absurd h_ (by decide), fun h_ => absurd h_ (by decide), fun h_ => absurd h_ (by decide), fun h_ => absurd h_ (by decide), fun h_ => absurd h_ (by decide), fun h_ => absurd h_ (by decide)⟩
       ·skip
        clear BK177 BK178 HB
        refine steps_cons ?_ ?_
        ·rintro b a w' ⟨v184, gb191, m8_, ha, qB177, qB178, qHB, qHO185, qB191, qW191, qE191, q177_191, q191_177, q178_191, q191_178, qB191_e9, Q_X8_⟩ hb_ hon hoff
         refine ⟨_, rfl, fun K hK => ?_⟩
         have e3 : a.tmps[3]? = some (.pointer (some ⟨gb177, 0, none⟩)) := by rw [ha]; exact (putSel_off rfl).trans rfl
         replace ha := am ha
         have BK177 := am qB177
         have BK178 := am qB178
         have HB := am qHB
         have hc0_ : w'.cell? ⟨gb177, 0, none⟩ = some (.bool a0_0) := bc BK177 0
         have hc1_ : w'.cell? ⟨gb177, 1, none⟩ = some (.bool a0_1) := bc BK177 1
         have hc2_ : w'.cell? ⟨gb177, 2, none⟩ = some (.int .i64 a0_2) := bc BK177 2
         have hc3_ : w'.cell? ⟨gb177, 3, none⟩ = some (.int .i64 a0_3) := bc BK177 3
         refine value_ (w1 := w') (v := .agg #[.bool a0_0, .bool a0_1, .int .i64 a0_2, .int .i64 a0_3]) (by rfl) rfl ?_ ?_
         ·go_simp
          (try simp only [i64_w])
          try rfl
         refine hK.out _ _ ⟨v184, gb191, m8_, (by rw [ha.out]; exact putSel_upk 0 hb_ rfl rfl rfl), qB177, qB178, qHB, qHO185, qB191, qW191, qE191, q177_191, q191_177, q178_191, q191_178, fun h0_ => absurd ((hoff 9 kk).symm.trans h0_) (by decide), Q_X8_⟩
        refine steps_cons ?_ ?_
        ·rintro b a w' ⟨v184, gb191, m8_, ha, qB177, qB178, qHB, qHO185, qB191, qW191, qE191, q177_191, q191_177, q178_191, q191_178, qB191_e9, Q_X8_⟩ hb_ hon hoff
         refine ⟨_, rfl, fun K hK => ?_⟩
         have e4 : a.tmps[4]? = some (.pointer (some ⟨gb178, 0, none⟩)) := by rw [ha]; exact (putSel_off rfl).trans rfl
         replace ha := am ha
         have BK177 := am qB177
         have BK178 := am qB178
         have HB := am qHB
         have hc0_ : w'.cell? ⟨gb178, 0, none⟩ = some (.bool a1_0) := bc BK178 0
         have hc1_ : w'.cell? ⟨gb178, 1, none⟩ = some (.bool a1_1) := bc BK178 1
         have hc2_ : w'.cell? ⟨gb178, 2, none⟩ = some (.int .i64 a1_2) := bc BK178 2
         have hc3_ : w'.cell? ⟨gb178, 3, none⟩ = some (.int .i64 a1_3) := bc BK178 3
         refine value_ (w1 := w') (v := .agg #[.bool a1_0, .bool a1_1, .int .i64 a1_2, .int .i64 a1_3]) (by rfl) rfl ?_ ?_
         ·go_simp
          (try simp only [i64_w])
          try rfl
         refine hK.out _ _ ⟨v184, gb191, m8_, (by rw [ha.out]; exact putSel_upk 1 hb_ rfl rfl rfl), qB177, qB178, qHB, qHO185, qB191, qW191, qE191, q177_191, q191_177, q178_191, q191_178, fun h0_ => absurd ((hoff 9 kk).symm.trans h0_) (by decide), Q_X8_⟩
        refine steps_cons ?_ ?_
        ·rintro b a w' ⟨v184, gb191, m8_, ha, qB177, qB178, qHB, qHO185, qB191, qW191, qE191, q177_191, q191_177, q178_191, q191_178, qB191_e9, Q_X8_⟩ hb_ hon hoff
         refine ⟨_, rfl, fun K hK => ?_⟩
         have e54 : a.tmps[54]? = some (.slice A2 l2.length c2) := by rw [ha]; exact (putSel_off rfl).trans rfl
         replace ha := am ha
         have BK177 := am qB177
         have BK178 := am qB178
         have HB := am qHB
         refine goes_ Tryd.func41 kk rfl #[.slice A2 l2.length c2] (by rfl) rfl rfl (by first | (simp only [List.map_toArray, List.map_cons, List.map_nil, Act.eval, Array.getD_eq_getD_getElem?, Option.getD_some, e54]; done) | (simp only [List.map_toArray, List.map_cons, List.map_nil, Act.eval, Array.getD_eq_getD_getElem?, Option.getD_some, e54]; rfl)) ?_
         with_reducible refine (L2_ints.calls _ _ l2 t183 _ ?side1 ?side2 A27.out).mono ?_
         (case side1 => repeat (first | exact (Kd.C_below HR2.out HB.out) | (with_reducible refine Kd.C_alloc ?_ _) | (with_reducible refine Kd.C_drewN ?_ _) | (with_reducible refine Kd.C_drew ?_)))
         (case side2 => exact HC2.out)
         rintro e w32 ⟨v184, rfl, ho0, hb⟩
         refine ⟨_, rfl, ?_⟩
         have n0_ := am (Kd.R_lower ho0 (below_size pw))
         have n1_ := bb BK177 hb
         have n2_ := bb BK178 hb
         have n3_ := am (below_step pw hb)
         have z_BK191 := fun (h0_ : b 8 = true) (h1_ : b 9 = false) => (show w32.heap[gb191]? = some (.cells #[.bool false, .bool false, .int .i64 0, .int .i64 0] 23 (0, 0)) from by first | exact (blk_below (g := gb191) (o := .cells #[.bool false, .bool false, .int .i64 0, .int .i64 0] 23 (0, 0)) (by (with_reducible repeat (first | refine blk_drewN ?_ _ | refine blk_drew ?_ | refine blk_alloc ?_ _)); exact (qB191 h0_ h1_)) hb))
         clear BK177 BK178 HB
         revert n0_ n1_ n2_ n3_
         intro HO185 BK177 BK178 HB
         (try clear hb)
         (try clear hb2)
         (try clear hk)
         (try clear hi)
         (try clear ho0)
         refine hK.out _ _ ⟨v184, gb191, m8_, (by rw [ha.out]; exact putSel_upk 2 hb_ rfl rfl rfl), pk, pk, pw, fun _ => (by (with_reducible repeat (first | apply Kd.R_alloc | apply Kd.R_drewN | apply Kd.R_drew)); exact HO185.out), z_BK191, qW191, qE191, q177_191, q191_177, q178_191, q191_178, fun h0_ => absurd ((hoff 9 kk).symm.trans h0_) (by decide), Q_X8_⟩
        refine steps_cons ?_ ?_
        ·rintro b a w' ⟨v184, gb191, m8_, ha, qB177, qB178, qHB, qHO185, qB191, qW191, qE191, q177_191, q191_177, q178_191, q191_178, qB191_e9, Q_X8_⟩ hb_ hon hoff
         refine ⟨_, rfl, fun K hK => ?_⟩
         have e52 : a.tmps[52]? = some (.agg #[.bool a0_0, .bool a0_1, .int .i64 a0_2, .int .i64 a0_3]) := by rw [ha]; exact putSel_on (e := (0, 52, .agg #[.bool a0_0, .bool a0_1, .int .i64 a0_2, .int .i64 a0_3])) 0 rfl rfl (hon 0 kk) rfl
         have e53 : a.tmps[53]? = some (.agg #[.bool a1_0, .bool a1_1, .int .i64 a1_2, .int .i64 a1_3]) := by rw [ha]; exact putSel_on (e := (1, 53, .agg #[.bool a1_0, .bool a1_1, .int .i64 a1_2, .int .i64 a1_3])) 1 rfl rfl (hon 1 kk) rfl
         have e55 : a.tmps[55]? = some (v184) := by rw [ha]; exact putSel_on (e := (3, 55, v184)) 2 rfl rfl (hon 3 kk) rfl
         replace ha := am ha
         have BK177 := am qB177
         have BK178 := am qB178
         have HB := am qHB
         have HO185 := am (qHO185 (hon 3 kk))
         obtain ⟨Ao34, co34, eo34⟩ := Kd.R_slice HO185.out
         (first | subst eo34 | (injection eo34 with f1_ f2_ f3_; have f4_ := f1_.symm; have f5_ := f3_.symm; clear f1_ f2_ f3_; subst f4_; subst f5_))
         refine goes_ Tryd.func40 kk rfl #[.agg #[.bool a0_0, .bool a0_1, .int .i64 a0_2, .int .i64 a0_3], .agg #[.bool a1_0, .bool a1_1, .int .i64 a1_2, .int .i64 a1_3], .slice Ao34 t183.length co34] (by rfl) rfl rfl (by first | (simp only [List.map_toArray, List.map_cons, List.map_nil, Act.eval, Array.getD_eq_getD_getElem?, Option.getD_some, e52, e53, e55]; done) | (simp only [List.map_toArray, List.map_cons, List.map_nil, Act.eval, Array.getD_eq_getD_getElem?, Option.getD_some, e52, e53, e55]; rfl)) ?_
         with_reducible refine (interval_Widen.calls kj19 a0_0 a0_1 a0_2 a0_3 a1_0 a1_1 a1_2 a1_3 _ _ t183 t186 t187 t188 t189 t190 _ ?side1 ?side2 A28.out (am (ErrAt.below hE2.out pw)).out (am (ErrAt.below hE3.out pw)).out).mono ?_
         (case side1 => repeat (first | exact (Kd.R_reads' HO185.out).2.2 | (with_reducible refine Kd.C_alloc ?_ _) | (with_reducible refine Kd.C_drewN ?_ _) | (with_reducible refine Kd.C_drew ?_)))
         (case side2 => exact (Kd.R_reads' HO185.out).2.1)
         rintro e w35 ⟨rfl, hb⟩
         refine ⟨_, rfl, ?_⟩
         have n0_ := am (Kd.R_below (by (with_reducible repeat (first | apply Kd.R_alloc | apply Kd.R_drewN | apply Kd.R_drew)); exact HO185.out) hb)
         have n1_ := bb BK177 hb
         have n2_ := bb BK178 hb
         have n3_ := am (below_step pw hb)
         have z_BK191 := fun (h0_ : b 8 = true) (h1_ : b 9 = false) => (show w35.heap[gb191]? = some (.cells #[.bool false, .bool false, .int .i64 0, .int .i64 0] 23 (0, 0)) from by first | exact (blk_below (g := gb191) (o := .cells #[.bool false, .bool false, .int .i64 0, .int .i64 0] 23 (0, 0)) (by (with_reducible repeat (first | refine blk_drewN ?_ _ | refine blk_drew ?_ | refine blk_alloc ?_ _)); exact (qB191 h0_ h1_)) hb))
         clear HO185 BK177 BK178 HB
         revert n0_ n1_ n2_ n3_
         intro HO185 BK177 BK178 HB
         (try clear hb)
         (try clear hb2)
         (try clear hk)
         (try clear hi)
         (try simp only [errW_none, errW_some])
         refine hK.out _ _ ⟨.slice Ao34 t183.length co34, gb191, m8_, (by rw [ha.out]; exact putSel_upk 3 hb_ rfl rfl rfl), pk, pk, pw, fun _ => (by (with_reducible repeat (first | apply Kd.R_alloc | apply Kd.R_drewN | apply Kd.R_drew)); exact HO185.out), z_BK191, qW191, qE191, q177_191, q191_177, q178_191, q191_178, fun h0_ => absurd ((hoff 9 kk).symm.trans h0_) (by decide), Q_X8_⟩
        refine steps_cons ?_ ?_
        ·rintro b a w' ⟨v184, gb191, m8_, ha, qB177, qB178, qHB, qHO185, qB191, qW191, qE191, q177_191, q191_177, q178_191, q191_178, qB191_e9, Q_X8_⟩ hb_ hon hoff
         refine ⟨_, rfl, fun K hK => ?_⟩
         have e56 : a.tmps[56]? = some (.tuple #[.agg #[.bool t186, .bool t187, .int .i64 t188, .int .i64 t189], errW t190]) := by rw [ha]; exact putSel_on (e := (4, 56, .tuple #[.agg #[.bool t186, .bool t187, .int .i64 t188, .int .i64 t189], errW t190])) 3 rfl rfl (hon 4 kk) rfl
         replace ha := am ha
         have BK177 := am qB177
         have BK178 := am qB178
         have HB := am qHB
         have HO185 := am (qHO185 (hon 3 kk))
         refine value_ (w1 := w') (v := .tuple #[.agg #[.bool t186, .bool t187, .int .i64 t188, .int .i64 t189], errW t190]) (by rfl) rfl ?_ ?_
         ·go_simp
          (try simp only [i64_w])
          try rfl
         refine hK.out _ _ ⟨v184, gb191, m8_, (by rw [ha.out]; exact putSel_upk 4 hb_ rfl rfl rfl), qB177, qB178, qHB, qHO185, qB191, qW191, qE191, q177_191, q191_177, q178_191, q191_178, fun h0_ => absurd ((hoff 9 kk).symm.trans h0_) (by decide), Q_X8_⟩
        refine steps_cons ?_ ?_
        ·rintro b a w' ⟨v184, gb191, m8_, ha, qB177, qB178, qHB, qHO185, qB191, qW191, qE191, q177_191, q191_177, q178_191, q191_178, qB191_e9, Q_X8_⟩ hb_ hon hoff
         refine ⟨_, rfl, fun K hK => ?_⟩
         have e51 : a.tmps[51]? = some (.tuple #[.agg #[.bool t186, .bool t187, .int .i64 t188, .int .i64 t189], errW t190]) := by rw [ha]; exact putSel_on (e := (5, 51, .tuple #[.agg #[.bool t186, .bool t187, .int .i64 t188, .int .i64 t189], errW t190])) 4 rfl rfl (hon 5 kk) rfl
         replace ha := am ha
         have BK177 := am qB177
         have BK178 := am qB178
         have HB := am qHB
         have HO185 := am (qHO185 (hon 3 kk))
         refine value_ (w1 := w') (v := .agg #[.bool t186, .bool t187, .int .i64 t188, .int .i64 t189]) (by rfl) rfl ?_ ?_
         ·go_simp
          (try simp only [i64_w])
          try rfl
         refine hK.out _ _ ⟨v184, gb191, m8_, (by rw [ha.out]; exact putSel_upk 5 hb_ rfl rfl rfl), qB177, qB178, qHB, qHO185, qB191, qW191, qE191, q177_191, q191_177, q178_191, q191_178, fun h0_ => absurd ((hoff 9 kk).symm.trans h0_) (by decide), Q_X8_⟩
        refine steps_cons ?_ ?_
        ·rintro b a w' ⟨v184, gb191, m8_, ha, qB177, qB178, qHB, qHO185, qB191, qW191, qE191, q177_191, q191_177, q178_191, q191_178, qB191_e9, Q_X8_⟩ hb_ hon hoff
         refine ⟨_, rfl, fun K hK => ?_⟩
         have e51 : a.tmps[51]? = some (.tuple #[.agg #[.bool t186, .bool t187, .int .i64 t188, .int .i64 t189], errW t190]) := by rw [ha]; exact putSel_on (e := (5, 51, .tuple #[.agg #[.bool t186, .bool t187, .int .i64 t188, .int .i64 t189], errW t190])) 4 rfl rfl (hon 5 kk) rfl
         replace ha := am ha
         have BK177 := am qB177
         have BK178 := am qB178
         have HB := am qHB
         have HO185 := am (qHO185 (hon 3 kk))
         refine value_ (w1 := w') (v := errW t190) (by rfl) rfl ?_ ?_
         ·go_simp
          (try simp only [i64_w])
          try rfl
         refine hK.out _ _ ⟨v184, gb191, m8_, (by rw [ha.out]; exact putSel_upk 6 hb_ rfl rfl rfl), qB177, qB178, qHB, qHO185, qB191, qW191, qE191, q177_191, q191_177, q178_191, q191_178, qB191_e9, Q_X8_⟩
        refine steps_cons ?_ ?_
        ·rintro b a w' ⟨v184, gb191, m8_, ha, qB177, qB178, qHB, qHO185, qB191, qW191, qE191, q177_191, q191_177, q178_191, q191_178, qB191_e9, Q_X8_⟩ hb_ hon hoff
         refine ⟨_, rfl, fun K hK => ?_⟩
         replace ha := am ha
         have BK177 := am qB177
         have BK178 := am qB178
         have HB := am qHB
         refine box_step ?hg (N := 11) ?hd (cs := #[.bool false, .bool false, .int .i64 0, .int .i64 0]) (t := 23) ?hr ?_; (case hd => rfl); (case hg => rfl); (case hr => first | (go_simp; done) | (go_simp; rfl))
         intro gb191 hg w32 hbox hb
         have n0_ := bb BK177 hb
         have n1_ := bb BK178 hb
         have n2_ := am (below_step pw hb)
         have n3_ := am (hbox)
         have n4_ := am ((by rw [hg]; exact (below_size pw) : w.heap.size ≤ gb191))
         have n5_ := am ((by rw [hg]; exact (below_size pw) : w.heap.size ≤ gb191))
         have n6_ := am ((by rw [hg]; exact Nat.ne_of_lt (blk_lt pk) : gb177 ≠ gb191))
         have n7_ := am ((by rw [hg]; exact Nat.ne_of_gt (blk_lt pk) : gb191 ≠ gb177))
         have n8_ := am ((by rw [hg]; exact Nat.ne_of_lt (blk_lt pk) : gb178 ≠ gb191))
         have n9_ := am ((by rw [hg]; exact Nat.ne_of_gt (blk_lt pk) : gb191 ≠ gb178))
         have z_HO185 := fun (h0_ : b 3 = true) => (show Kd.R (Kd.int .i64) 3 w32 w.heap.size (fun _ => True) v184 t183 from by first | exact (Kd.R_below (by (with_reducible repeat (first | apply Kd.R_alloc | apply Kd.R_drewN | apply Kd.R_drew)); exact (qHO185 h0_)) hb) | exact Kd.R_mono (Kd.R_below (by (with_reducible repeat (first | apply Kd.R_alloc | apply Kd.R_drewN | apply Kd.R_drew)); exact (qHO185 h0_)) hb) (fun _ h_ => by first | trivial | exact h_ | exact h_.1))
         clear BK177 BK178 HB
         revert n0_ n1_ n2_ n3_ n4_ n5_ n6_ n7_ n8_ n9_
         intro BK177 BK178 HB BK191 GW191 GE191 NB177_191 NB191_177 NB178_191 NB191_178
         clear hb hbox hg
         refine hK.out _ _ ⟨v184, gb191, (.pointer (some ⟨gb191, 0, none⟩)), (by rw [ha.out]; exact putSel_upk 7 hb_ rfl rfl rfl), pk, pk, pw, z_HO185, fun _ _ => pk, fun _ => GW191.out, fun _ => GE191.out, fun _ => NB177_191.out, fun _ => NB191_177.out, fun _ => NB178_191.out, fun _ => NB191_178.out, fun h0_ => absurd ((hoff 9 kk).symm.trans h0_) (by decide), fun _ => rfl⟩
        refine steps_cons ?_ ?_
        ·rintro b a w' ⟨v184, gb191, m8_, ha, qB177, qB178, qHB, qHO185, qB191, qW191, qE191, q177_191, q191_177, q178_191, q191_178, qB191_e9, Q_X8_⟩ hb_ hon hoff
         refine ⟨_, rfl, fun K hK => ?_⟩
         have e11 : a.tmps[11]? = some (m8_) := by rw [ha]; exact putSel_on (e := (8, 11, m8_)) 7 rfl rfl (hon 8 kk) rfl
         rw [Q_X8_ (hon 8 kk)] at e11
         have e57 : a.tmps[57]? = some (.agg #[.bool t186, .bool t187, .int .i64 t188, .int .i64 t189]) := by rw [ha]; exact putSel_on (e := (6, 57, .agg #[.bool t186, .bool t187, .int .i64 t188, .int .i64 t189])) 5 rfl rfl (hon 6 kk) rfl
         replace ha := am ha
         have BK177 := am qB177
         have BK178 := am qB178
         have HB := am qHB
         have HO185 := am (qHO185 (hon 3 kk))
         have BK191 := am (qB191 (hon 8 kk) hb_)
         have GW191 := am (qW191 (hon 8 kk))
         have GE191 := am (qE191 (hon 8 kk))
         have NB177_191 := am (q177_191 (hon 8 kk))
         have NB191_177 := am (q191_177 (hon 8 kk))
         have NB178_191 := am (q178_191 (hon 8 kk))
         have NB191_178 := am (q191_178 (hon 8 kk))
         have hs37 : w'.cell? ⟨gb191, 0, none⟩ = some (.bool false) := bc BK191 0
         have hfs37 := blk_frozen BK191.out 0
         have hns37_0 := NB177_191.out
         have hns37_1 := NB178_191.out
         have hms37_0 := NB191_177.out
         have hms37_1 := NB191_178.out
         have hs38 : w'.cell? ⟨gb191, 1, none⟩ = some (.bool false) := bc BK191 1
         have hfs38 := blk_frozen BK191.out 1
         have hns38_0 := NB177_191.out
         have hns38_1 := NB178_191.out
         have hms38_0 := NB191_177.out
         have hms38_1 := NB191_178.out
         have hs39 : w'.cell? ⟨gb191, 2, none⟩ = some (.int .i64 0) := bc BK191 2
         have hfs39 := blk_frozen BK191.out 2
         have hns39_0 := NB177_191.out
         have hns39_1 := NB178_191.out
         have hms39_0 := NB191_177.out
         have hms39_1 := NB191_178.out
         have hs40 : w'.cell? ⟨gb191, 3, none⟩ = some (.int .i64 0) := bc BK191 3
         have hfs40 := blk_frozen BK191.out 3
         have hns40_0 := NB177_191.out
         have hns40_1 := NB178_191.out
         have hms40_0 := NB191_177.out
         have hms40_1 := NB191_178.out
         refine skip_ (w1 := ?_) (by rfl) rfl ?_ ?_
         rotate_left
         ·go_simp
          rfl
         refine hK.out _ _ ⟨v184, gb191, m8_, (by rw [ha.out]; exact putSel_none (v := undef) rfl), (by (with_reducible repeat (first | refine blk_drewN ?_ _ | refine blk_drew ?_ | refine blk_alloc ?_ _)); refine blk_far ?_ NB177_191.out _; (with_reducible repeat (first | refine blk_drewN ?_ _ | refine blk_drew ?_ | refine blk_alloc ?_ _)); refine blk_far ?_ NB177_191.out _; (with_reducible repeat (first | refine blk_drewN ?_ _ | refine blk_drew ?_ | refine blk_alloc ?_ _)); refine blk_far ?_ NB177_191.out _; (with_reducible repeat (first | refine blk_drewN ?_ _ | refine blk_drew ?_ | refine blk_alloc ?_ _)); refine blk_far ?_ NB177_191.out _; (with_reducible repeat (first | refine blk_drewN ?_ _ | refine blk_drew ?_ | refine blk_alloc ?_ _)); exact BK177.out), (by (with_reducible repeat (first | refine blk_drewN ?_ _ | refine blk_drew ?_ | refine blk_alloc ?_ _)); refine blk_far ?_ NB178_191.out _; (with_reducible repeat (first | refine blk_drewN ?_ _ | refine blk_drew ?_ | refine blk_alloc ?_ _)); refine blk_far ?_ NB178_191.out _; (with_reducible repeat (first | refine blk_drewN ?_ _ | refine blk_drew ?_ | refine blk_alloc ?_ _)); refine blk_far ?_ NB178_191.out _; (with_reducible repeat (first | refine blk_drewN ?_ _ | refine blk_drew ?_ | refine blk_alloc ?_ _)); refine blk_far ?_ NB178_191.out _; (with_reducible repeat (first | refine blk_drewN ?_ _ | refine blk_drew ?_ | refine blk_alloc ?_ _)); exact BK178.out), pw, fun _ => (by (with_reducible repeat (first | apply Kd.R_alloc | apply Kd.R_drewN | apply Kd.R_drew)); exact Kd.R_mono (Kd.R_far (p := ⟨gb191, 3, none⟩) (Kd.R_far (p := ⟨gb191, 2, none⟩) (Kd.R_far (p := ⟨gb191, 1, none⟩) (Kd.R_far (p := ⟨gb191, 0, none⟩) (Kd.R_types HO185.out BK191.out (by decide)) (fun _ hk => hk.2) (.bool t186)) (fun _ hk => hk.2) (.bool t187)) (fun _ hk => hk.2) (.int .i64 t188)) (fun _ hk => hk.2) (.int .i64 t189)) (fun _ hk => trivial)), fun _ h1_ => absurd ((up_self b 9).symm.trans h1_) (by decide), fun _ => GW191.out, fun _ => GE191.out, fun _ => NB177_191.out, fun _ => NB191_177.out, fun _ => NB178_191.out, fun _ => NB191_178.out, fun _ => (by (with_reducible repeat (first | refine blk_drewN ?_ _ | refine blk_drew ?_ | refine blk_alloc ?_ _)); refine blk_put (cs := #[.bool t186, .bool t187, .int .i64 t188, .int .i64 0]) ?_ 3 _ rfl; (with_reducible repeat (first | refine blk_drewN ?_ _ | refine blk_drew ?_ | refine blk_alloc ?_ _)); refine blk_put (cs := #[.bool t186, .bool t187, .int .i64 0, .int .i64 0]) ?_ 2 _ rfl; (with_reducible repeat (first | refine blk_drewN ?_ _ | refine blk_drew ?_ | refine blk_alloc ?_ _)); refine blk_put (cs := #[.bool t186, .bool false, .int .i64 0, .int .i64 0]) ?_ 1 _ rfl; (with_reducible repeat (first | refine blk_drewN ?_ _ | refine blk_drew ?_ | refine blk_alloc ?_ _)); refine blk_put (cs := #[.bool false, .bool false, .int .i64 0, .int .i64 0]) ?_ 0 _ rfl; (with_reducible repeat (first | refine blk_drewN ?_ _ | refine blk_drew ?_ | refine blk_alloc ?_ _)); exact BK191.out), Q_X8_⟩
        refine steps_cons ?_ ?_
        ·rintro b a w' ⟨v184, gb191, m8_, ha, qB177, qB178, qHB, qHO185, qB191, qW191, qE191, q177_191, q191_177, q178_191, q191_178, qB191_e9, Q_X8_⟩ hb_ hon hoff
         refine ⟨_, rfl, fun K hK => ?_⟩
         have e58 : a.tmps[58]? = some (errW t190) := by rw [ha]; exact putSel_on (e := (7, 58, errW t190)) 6 rfl rfl (hon 7 kk) rfl
         replace ha := am ha
         have BK177 := am qB177
         have BK178 := am qB178
         have HB := am qHB
         have HO185 := am (qHO185 (hon 3 kk))
         have GW191 := am (qW191 (hon 8 kk))
         have GE191 := am (qE191 (hon 8 kk))
         have NB177_191 := am (q177_191 (hon 8 kk))
         have NB191_177 := am (q191_177 (hon 8 kk))
         have NB178_191 := am (q178_191 (hon 8 kk))
         have NB191_178 := am (q191_178 (hon 8 kk))
         have BK191 := am (qB191_e9 (hon 9 kk))
         refine value_ (w1 := w') (v := errW t190) (by rfl) rfl ?_ ?_
         ·go_simp
          (try simp only [i64_w])
          try rfl
         refine hK.out _ _ ⟨v184, gb191, m8_, (by rw [ha.out]; exact putSel_upk 8 hb_ rfl rfl rfl), qB177, qB178, qHB, qHO185, fun _ h1_ => absurd ((hon 9 kk).symm.trans h1_) (by decide), qW191, qE191, q177_191, q191_177, q178_191, q191_178, qB191_e9, Q_X8_⟩
        exact steps_nil
       rintro b a w40 hall ⟨v184, gb191, m8_, ha, qB177, qB178, qHB, qHO185, qB191, qW191, qE191, q177_191, q191_177, q178_191, q191_178, qB191_e9, Q_X8_⟩
       clear BK177 BK178 HB
       have hb0_ := hall 0 kk
       have hb1_ := hall 1 kk
       have hb3_ := hall 3 kk
       have hb4_ := hall 4 kk
       have hb5_ := hall 5 kk
       have hb6_ := hall 6 kk
       have hb7_ := hall 7 kk
       have hb8_ := hall 8 kk
       have hb9_ := hall 9 kk
       have hb10_ := hall 10 kk
       subst ha
       obtain rfl := Q_X8_ hb8_
       simp only [putSel, hb0_, hb1_, hb3_, hb4_, hb5_, hb6_, hb7_, hb8_, hb9_, hb10_, if_true, Act.put, List.setIfInBounds_toArray, List.set_cons_zero, List.set_cons_succ]
       have BK177 := am qB177
       clear qB177
       have BK178 := am qB178
       clear qB178
       have HB := am qHB
       clear qHB
       have HO185 := am (qHO185 hb3_)
       clear qHO185
       clear qB191
       have GW191 := am (qW191 hb8_)
       clear qW191
       have GE191 := am (qE191 hb8_)
       clear qE191
       have NB177_191 := am (q177_191 hb8_)
       clear q177_191
       have NB191_177 := am (q191_177 hb8_)
       clear q191_177
       have NB178_191 := am (q178_191 hb8_)
       clear q178_191
       have NB191_178 := am (q191_178 hb8_)
       clear q191_178
       have BK191 := am (qB191_e9 hb9_)
       clear qB191_e9
       clear hall hb0_ hb1_ hb3_ hb4_ hb5_ hb6_ hb7_ hb8_ hb9_ hb10_
       have hnb41 := NB177_178.out
       have hnc41 := NB178_177.out
       have hnb42 := NB177_191.out
       have hnc42 := NB191_177.out
       have hcz43_0 : w40.cell? ⟨gb177, 0, none⟩ = some (.bool a0_0) := bc BK177 0
       have hcz43_1 : w40.cell? ⟨gb177, 1, none⟩ = some (.bool a0_1) := bc BK177 1
       have hcz43_2 : w40.cell? ⟨gb177, 2, none⟩ = some (.int .i64 a0_2) := bc BK177 2
       have hcz43_3 : w40.cell? ⟨gb177, 3, none⟩ = some (.int .i64 a0_3) := bc BK177 3
       have hfz43_0 := blk_frozen BK177.out 0
       have hfz43_1 := blk_frozen BK177.out 1
       have hfz43_2 := blk_frozen BK177.out 2
       have hfz43_3 := blk_frozen BK177.out 3
       have hnb44 := NB178_191.out
       have hnc44 := NB191_178.out
       have hcz45_0 : w40.cell? ⟨gb178, 0, none⟩ = some (.bool a1_0) := bc BK178 0
       have hcz45_1 : w40.cell? ⟨gb178, 1, none⟩ = some (.bool a1_1) := bc BK178 1
       have hcz45_2 : w40.cell? ⟨gb178, 2, none⟩ = some (.int .i64 a1_2) := bc BK178 2
       have hcz45_3 : w40.cell? ⟨gb178, 3, none⟩ = some (.int .i64 a1_3) := bc BK178 3
       have hfz45_0 := blk_frozen BK178.out 0
       have hfz45_1 := blk_frozen BK178.out 1
       have hfz45_2 := blk_frozen BK178.out 2
       have hfz45_3 := blk_frozen BK178.out 3
       go_upto_if 67 with (first | ((with_reducible refine gate_callee (f := 42) rfl ?_); refine goesL_ (some 62) rfl rfl Tryd.func42 kk rfl #[.agg #[.bool a0_0, .bool a0_1, .int .i64 a0_2, .int .i64 a0_3], .agg #[.bool a1_0, .bool a1_1, .int .i64 a1_2, .int .i64 a1_3]] rfl (by (try simp only [List.map_toArray, List.map_cons, List.map_nil]); first | done | rfl | (simp only [List.length_drop, List.length_take]; rfl)) ?_; (with_reducible refine (interval_Narrow.calls kj19 a0_0 a0_1 a0_2 a0_3 a1_0 a1_1 a1_2 a1_3 t192 t193 t194 t195 t196 _ A29.out (am (ErrAt.below hE2.out pw)).out (am (ErrAt.below hE3.out pw)).out (am (ErrAt.below hE4.out pw)).out).mono ?_); rintro e w46 ⟨rfl, hb⟩; refine ⟨_, rfl, ?_⟩; have n0_ := am (Kd.R_below (by (with_reducible repeat (first | apply Kd.R_alloc | apply Kd.R_drewN | apply Kd.R_drew)); exact HO185.out) hb); have n1_ := bb BK177 hb; have n2_ := bb BK178 hb; have n3_ := bb BK191 hb; have n4_ := am (below_step pw hb); clear HO185; clear BK177; clear BK178; clear BK191; clear HB; have HO185 := n0_; have BK177 := n1_; have BK178 := n2_; have BK191 := n3_; have HB := n4_; clear n0_ n1_ n2_ n3_ n4_; (try clear hb); (try clear hb2); (try clear hk); (try clear hi); (try simp only [errW_none, errW_some])) | ((with_reducible refine gate_dst (N := 13) rfl ?_); (try (refine gate_guard (by rfl) ?_; dsimp only)); refine box_event ?hg (N := 13) ?hd (cs := #[.bool false, .bool false, .int .i64 0, .int .i64 0]) (t := 23) ?hr ?_; (case hd => rfl); (case hg => rfl); (case hr => first | (go_simp; done) | (go_simp; rfl)); intro gb197 hg w47 hbox hb; have n0_ := am (Kd.R_below (by (with_reducible repeat (first | apply Kd.R_alloc | apply Kd.R_drewN | apply Kd.R_drew)); exact HO185.out) hb); have n1_ := bb BK177 hb; have n2_ := bb BK178 hb; have n3_ := bb BK191 hb; have n4_ := am (below_step pw hb); have n5_ := am (hbox); have n6_ := am ((by rw [hg]; exact (below_size pw) : w.heap.size ≤ gb197)); have n7_ := am ((by rw [hg]; exact (below_size pw) : w.heap.size ≤ gb197)); have n8_ := am ((by rw [hg]; exact Nat.ne_of_lt (blk_lt pk) : gb177 ≠ gb197)); have n9_ := am ((by rw [hg]; exact Nat.ne_of_gt (blk_lt pk) : gb197 ≠ gb177)); have n10_ := am ((by rw [hg]; exact Nat.ne_of_lt (blk_lt pk) : gb178 ≠ gb197)); have n11_ := am ((by rw [hg]; exact Nat.ne_of_gt (blk_lt pk) : gb197 ≠ gb178)); have n12_ := am ((by rw [hg]; exact Nat.ne_of_lt (blk_lt pk) : gb191 ≠ gb197)); have n13_ := am ((by rw [hg]; exact Nat.ne_of_gt (blk_lt pk) : gb197 ≠ gb191)); clear HO185; clear BK177; clear BK178; clear BK191; clear HB; have HO185 := n0_; have BK177 := n1_; have BK178 := n2_; have BK191 := n3_; have HB := n4_; have BK197 := n5_; have GW197 := n6_; have GE197 := n7_; have NB177_197 := n8_; have NB197_177 := n9_; have NB178_197 := n10_; have NB197_178 := n11_; have NB191_197 := n12_; have NB197_191 := n13_; clear n0_ n1_ n2_ n3_ n4_ n5_ n6_ n7_ n8_ n9_ n10_ n11_ n12_ n13_; clear hb hbox hg; have hnb48 := NB197_177.out; have hnc48 := NB177_197.out; have hnb49 := NB197_178.out; have hnc49 := NB178_197.out; have hnb50 := NB197_191.out; have hnc50 := NB191_197.out; have hcz51_0 : w47.cell? ⟨gb197, 0, none⟩ = some (.bool false) := bc BK197 0; have hcz51_1 : w47.cell? ⟨gb197, 1, none⟩ = some (.bool false) := bc BK197 1; have hcz51_2 : w47.cell? ⟨gb197, 2, none⟩ = some (.int .i64 0) := bc BK197 2; have hcz51_3 : w47.cell? ⟨gb197, 3, none⟩ = some (.int .i64 0) := bc BK197 3; have hfz51_0 := blk_frozen BK197.out 0; have hfz51_1 := blk_frozen BK197.out 1; have hfz51_2 := blk_frozen BK197.out 2; have hfz51_3 := blk_frozen BK197.out 3; have hcz52_0 : w47.cell? ⟨gb177, 0, none⟩ = some (.bool a0_0) := bc BK177 0; have hcz52_1 : w47.cell? ⟨gb177, 1, none⟩ = some (.bool a0_1) := bc BK177 1; have hcz52_2 : w47.cell? ⟨gb177, 2, none⟩ = some (.int .i64 a0_2) := bc BK177 2; have hcz52_3 : w47.cell? ⟨gb177, 3, none⟩ = some (.int .i64 a0_3) := bc BK177 3; have hfz52_0 := blk_frozen BK177.out 0; have hfz52_1 := blk_frozen BK177.out 1; have hfz52_2 := blk_frozen BK177.out 2; have hfz52_3 := blk_frozen BK177.out 3) | ((with_reducible refine gate_dst (N := 15) rfl ?_); (try (refine gate_guard (by rfl) ?_; dsimp only)); refine box_event ?hg (N := 15) ?hd (cs := #[.bool false, .bool false, .int .i64 0, .int .i64 0]) (t := 23) ?hr ?_; (case hd => rfl); (case hg => rfl); (case hr => first | (go_simp; done) | (go_simp; rfl)); intro gb198 hg w53 hbox hb; have n0_ := am (Kd.R_below (by (with_reducible repeat (first | apply Kd.R_alloc | apply Kd.R_drewN | apply Kd.R_drew)); exact (Kd.R_mono (Kd.R_far (p := ⟨gb197, 3, none⟩) (Kd.R_far (p := ⟨gb197, 2, none⟩) (Kd.R_far (p := ⟨gb197, 1, none⟩) (Kd.R_far (p := ⟨gb197, 0, none⟩) (Kd.R_types HO185.out BK197.out (by decide)) (fun _ hk => hk.2) (.bool t192)) (fun _ hk => hk.2) (.bool t193)) (fun _ hk => hk.2) (.int .i64 t194)) (fun _ hk => hk.2) (.int .i64 t195)) (fun _ h_ => h_.1))) hb); have n1_ := am (blk_below (g := gb177) (o := .cells #[.bool a0_0, .bool a0_1, .int .i64 a0_2, .int .i64 a0_3] 23 (0, 0)) (by (with_reducible repeat (first | refine blk_drewN ?_ _ | refine blk_drew ?_ | refine blk_alloc ?_ _)); refine blk_far ?_ NB177_197.out _; (with_reducible repeat (first | refine blk_drewN ?_ _ | refine blk_drew ?_ | refine blk_alloc ?_ _)); refine blk_far ?_ NB177_197.out _; (with_reducible repeat (first | refine blk_drewN ?_ _ | refine blk_drew ?_ | refine blk_alloc ?_ _)); refine blk_far ?_ NB177_197.out _; (with_reducible repeat (first | refine blk_drewN ?_ _ | refine blk_drew ?_ | refine blk_alloc ?_ _)); refine blk_far ?_ NB177_197.out _; (with_reducible repeat (first | refine blk_drewN ?_ _ | refine blk_drew ?_ | refine blk_alloc ?_ _)); exact BK177.out) hb); have n2_ := am (blk_below (g := gb178) (o := .cells #[.bool a1_0, .bool a1_1, .int .i64 a1_2, .int .i64 a1_3] 23 (0, 0)) (by (with_reducible repeat (first | refine blk_drewN ?_ _ | refine blk_drew ?_ | refine blk_alloc ?_ _)); refine blk_far ?_ NB178_197.out _; (with_reducible repeat (first | refine blk_drewN ?_ _ | refine blk_drew ?_ | refine blk_alloc ?_ _)); refine blk_far ?_ NB178_197.out _; (with_reducible repeat (first | refine blk_drewN ?_ _ | refine blk_drew ?_ | refine blk_alloc ?_ _)); refine blk_far ?_ NB178_197.out _; (with_reducible repeat (first | refine blk_drewN ?_ _ | refine blk_drew ?_ | refine blk_alloc ?_ _)); refine blk_far ?_ NB178_197.out _; (with_reducible repeat (first | refine blk_drewN ?_ _ | refine blk_drew ?_ | refine blk_alloc ?_ _)); exact BK178.out) hb); have n3_ := am (blk_below (g := gb191) (o := .cells #[.bool t186, .bool t187, .int .i64 t188, .int .i64 t189] 23 (0, 0)) (by (with_reducible repeat (first | refine blk_drewN ?_ _ | refine blk_drew ?_ | refine blk_alloc ?_ _)); refine blk_far ?_ NB191_197.out _; (with_reducible repeat (first | refine blk_drewN ?_ _ | refine blk_drew ?_ | refine blk_alloc ?_ _)); refine blk_far ?_ NB191_197.out _; (with_reducible repeat (first | refine blk_drewN ?_ _ | refine blk_drew ?_ | refine blk_alloc ?_ _)); refine blk_far ?_ NB191_197.out _; (with_reducible repeat (first | refine blk_drewN ?_ _ | refine blk_drew ?_ | refine blk_alloc ?_ _)); refine blk_far ?_ NB191_197.out _; (with_reducible repeat (first | refine blk_drewN ?_ _ | refine blk_drew ?_ | refine blk_alloc ?_ _)); exact BK191.out) hb); have n4_ := am (blk_below (g := gb197) (o := .cells #[.bool t192, .bool t193, .int .i64 t194, .int .i64 t195] 23 (0, 0)) (by (with_reducible repeat (first | refine blk_drewN ?_ _ | refine blk_drew ?_ | refine blk_alloc ?_ _)); refine blk_put (cs := #[.bool t192, .bool t193, .int .i64 t194, .int .i64 0]) ?_ 3 _ rfl; (with_reducible repeat (first | refine blk_drewN ?_ _ | refine blk_drew ?_ | refine blk_alloc ?_ _)); refine blk_put (cs := #[.bool t192, .bool t193, .int .i64 0, .int .i64 0]) ?_ 2 _ rfl; (with_reducible repeat (first | refine blk_drewN ?_ _ | refine blk_drew ?_ | refine blk_alloc ?_ _)); refine blk_put (cs := #[.bool t192, .bool false, .int .i64 0, .int .i64 0]) ?_ 1 _ rfl; (with_reducible repeat (first | refine blk_drewN ?_ _ | refine blk_drew ?_ | refine blk_alloc ?_ _)); refine blk_put (cs := #[.bool false, .bool false, .int .i64 0, .int .i64 0]) ?_ 0 _ rfl; (with_reducible repeat (first | refine blk_drewN ?_ _ | refine blk_drew ?_ | refine blk_alloc ?_ _)); exact BK197.out) hb); have n5_ := am (below_step pw hb); have n6_ := am (hbox); have n7_ := am ((by rw [hg]; exact (below_size pw) : w.heap.size ≤ gb198)); have n8_ := am ((by rw [hg]; exact (below_size pw) : w.heap.size ≤ gb198)); have n9_ := am ((by rw [hg]; exact Nat.ne_of_lt (blk_lt (g := gb177) (o := .cells #[.bool a0_0, .bool a0_1, .int .i64 a0_2, .int .i64 a0_3] 23 (0, 0)) (by (with_reducible repeat (first | refine blk_drewN ?_ _ | refine blk_drew ?_ | refine blk_alloc ?_ _)); refine blk_far ?_ NB177_197.out _; (with_reducible repeat (first | refine blk_drewN ?_ _ | refine blk_drew ?_ | refine blk_alloc ?_ _)); refine blk_far ?_ NB177_197.out _; (with_reducible repeat (first | refine blk_drewN ?_ _ | refine blk_drew ?_ | refine blk_alloc ?_ _)); refine blk_far ?_ NB177_197.out _; (with_reducible repeat (first | refine blk_drewN ?_ _ | refine blk_drew ?_ | refine blk_alloc ?_ _)); refine blk_far ?_ NB177_197.out _; (with_reducible repeat (first | refine blk_drewN ?_ _ | refine blk_drew ?_ | refine blk_alloc ?_ _)); exact BK177.out)) : gb177 ≠ gb198)); have n10_ := am ((by rw [hg]; exact Nat.ne_of_gt (blk_lt (g := gb177) (o := .cells #[.bool a0_0, .bool a0_1, .int .i64 a0_2, .int .i64 a0_3] 23 (0, 0)) (by (with_reducible repeat (first | refine blk_drewN ?_ _ | refine blk_drew ?_ | refine blk_alloc ?_ _)); refine blk_far ?_ NB177_197.out _; (with_reducible repeat (first | refine blk_drewN ?_ _ | refine blk_drew ?_ | refine blk_alloc ?_ _)); refine blk_far ?_ NB177_197.out _; (with_reducible repeat (first | refine blk_drewN ?_ _ | refine blk_drew ?_ | refine blk_alloc ?_ _)); refine blk_far ?_ NB177_197.out _; (with_reducible repeat (first | refine blk_drewN ?_ _ | refine blk_drew ?_ | refine blk_alloc ?_ _)); refine blk_far ?_ NB177_197.out _; (with_reducible repeat (first | refine blk_drewN ?_ _ | refine blk_drew ?_ | refine blk_alloc ?_ _)); exact BK177.out)) : gb198 ≠ gb177)); have n11_ := am ((by rw [hg]; exact Nat.ne_of_lt (blk_lt (g := gb178) (o := .cells #[.bool a1_0, .bool a1_1, .int .i64 a1_2, .int .i64 a1_3] 23 (0, 0)) (by (with_reducible repeat (first | refine blk_drewN ?_ _ | refine blk_drew ?_ | refine blk_alloc ?_ _)); refine blk_far ?_ NB178_197.out _; (with_reducible repeat (first | refine blk_drewN ?_ _ | refine blk_drew ?_ | refine blk_alloc ?_ _)); refine blk_far ?_ NB178_197.out _; (with_reducible repeat (first | refine blk_drewN ?_ _ | refine blk_drew ?_ | refine blk_alloc ?_ _)); refine blk_far ?_ NB178_197.out _; (with_reducible repeat (first | refine blk_drewN ?_ _ | refine blk_drew ?_ | refine blk_alloc ?_ _)); refine blk_far ?_ NB178_197.out _; (with_reducible repeat (first | refine blk_drewN ?_ _ | refine blk_drew ?_ | refine blk_alloc ?_ _)); exact BK178.out)) : gb178 ≠ gb198)); have n12_ := am ((by rw [hg]; exact Nat.ne_of_gt (blk_lt (g := gb178) (o := .cells #[.bool a1_0, .bool a1_1, .int .i64 a1_2, .int .i64 a1_3] 23 (0, 0)) (by (with_reducible repeat (first | refine blk_drewN ?_ _ | refine blk_drew ?_ | refine blk_alloc ?_ _)); refine blk_far ?_ NB178_197.out _; (with_reducible repeat (first | refine blk_drewN ?_ _ | refine blk_drew ?_ | refine blk_alloc ?_ _)); refine blk_far ?_ NB178_197.out _; (with_reducible repeat (first | refine blk_drewN ?_ _ | refine blk_drew ?_ | refine blk_alloc ?_ _)); refine blk_far ?_ NB178_197.out _; (with_reducible repeat (first | refine blk_drewN ?_ _ | refine blk_drew ?_ | refine blk_alloc ?_ _)); refine blk_far ?_ NB178_197.out _; (with_reducible repeat (first | refine blk_drewN ?_ _ | refine blk_drew ?_ | refine blk_alloc ?_ _)); exact BK178.out)) : gb198 ≠ gb178)); have n13_ := am ((by rw [hg]; exact Nat.ne_of_lt (blk_lt (g := gb191) (o := .cells #[.bool t186, .bool t187, .int .i64 t188, .int .i64 t189] 23 (0, 0)) (by (with_reducible repeat (first | refine blk_drewN ?_ _ | refine blk_drew ?_ | refine blk_alloc ?_ _)); refine blk_far ?_ NB191_197.out _; (with_reducible repeat (first | refine blk_drewN ?_ _ | refine blk_drew ?_ | refine blk_alloc ?_ _)); refine blk_far ?_ NB191_197.out _; (with_reducible repeat (first | refine blk_drewN ?_ _ | refine blk_drew ?_ | refine blk_alloc ?_ _)); refine blk_far ?_ NB191_197.out _; (with_reducible repeat (first | refine blk_drewN ?_ _ | refine blk_drew ?_ | refine blk_alloc ?_ _)); refine blk_far ?_ NB191_197.out _; (with_reducible repeat (first | refine blk_drewN ?_ _ | refine blk_drew ?_ | refine blk_alloc ?_ _)); exact BK191.out)) : gb191 ≠ gb198)); have n14_ := am ((by rw [hg]; exact Nat.ne_of_gt (blk_lt (g := gb191) (o := .cells #[.bool t186, .bool t187, .int .i64 t188, .int .i64 t189] 23 (0, 0)) (by (with_reducible repeat (first | refine blk_drewN ?_ _ | refine blk_drew ?_ | refine blk_alloc ?_ _)); refine blk_far ?_ NB191_197.out _; (with_reducible repeat (first | refine blk_drewN ?_ _ | refine blk_drew ?_ | refine blk_alloc ?_ _)); refine blk_far ?_ NB191_197.out _; (with_reducible repeat (first | refine blk_drewN ?_ _ | refine blk_drew ?_ | refine blk_alloc ?_ _)); refine blk_far ?_ NB191_197.out _; (with_reducible repeat (first | refine blk_drewN ?_ _ | refine blk_drew ?_ | refine blk_alloc ?_ _)); refine blk_far ?_ NB191_197.out _; (with_reducible repeat (first | refine blk_drewN ?_ _ | refine blk_drew ?_ | refine blk_alloc ?_ _)); exact BK191.out)) : gb198 ≠ gb191)); have n15_ := am ((by rw [hg]; exact Nat.ne_of_lt (blk_lt (g := gb197) (o := .cells #[.bool t192, .bool t193, .int .i64 t194, .int .i64 t195] 23 (0, 0)) (by (with_reducible repeat (first | refine blk_drewN ?_ _ | refine blk_drew ?_ | refine blk_alloc ?_ _)); refine blk_put (cs := #[.bool t192, .bool t193, .int .i64 t194, .int .i64 0]) ?_ 3 _ rfl; (with_reducible repeat (first | refine blk_drewN ?_ _ | refine blk_drew ?_ | refine blk_alloc ?_ _)); refine blk_put (cs := #[.bool t192, .bool t193, .int .i64 0, .int .i64 0]) ?_ 2 _ rfl; (with_reducible repeat (first | refine blk_drewN ?_ _ | refine blk_drew ?_ | refine blk_alloc ?_ _)); refine blk_put (cs := #[.bool t192, .bool false, .int .i64 0, .int .i64 0]) ?_ 1 _ rfl; (with_reducible repeat (first | refine blk_drewN ?_ _ | refine blk_drew ?_ | refine blk_alloc ?_ _)); refine blk_put (cs := #[.bool false, .bool false, .int .i64 0, .int .i64 0]) ?_ 0 _ rfl; (with_reducible repeat (first | refine blk_drewN ?_ _ | refine blk_drew ?_ | refine blk_alloc ?_ _)); exact BK197.out)) : gb197 ≠ gb198)); have n16_ := am ((by rw [hg]; exact Nat.ne_of_gt (blk_lt (g := gb197) (o := .cells #[.bool t192, .bool t193, .int .i64 t194, .int .i64 t195] 23 (0, 0)) (by (with_reducible repeat (first | refine blk_drewN ?_ _ | refine blk_drew ?_ | refine blk_alloc ?_ _)); refine blk_put (cs := #[.bool t192, .bool t193, .int .i64 t194, .int .i64 0]) ?_ 3 _ rfl; (with_reducible repeat (first | refine blk_drewN ?_ _ | refine blk_drew ?_ | refine blk_alloc ?_ _)); refine blk_put (cs := #[.bool t192, .bool t193, .int .i64 0, .int .i64 0]) ?_ 2 _ rfl; (with_reducible repeat (first | refine blk_drewN ?_ _ | refine blk_drew ?_ | refine blk_alloc ?_ _)); refine blk_put (cs := #[.bool t192, .bool false, .int .i64 0, .int .i64 0]) ?_ 1 _ rfl; (with_reducible repeat (first | refine blk_drewN ?_ _ | refine blk_drew ?_ | refine blk_alloc ?_ _)); refine blk_put (cs := #[.bool false, .bool false, .int .i64 0, .int .i64 0]) ?_ 0 _ rfl; (with_reducible repeat (first | refine blk_drewN ?_ _ | refine blk_drew ?_ | refine blk_alloc ?_ _)); exact BK197.out)) : gb198 ≠ gb197)); clear HO185; clear BK177; clear BK178; clear BK191; clear BK197; clear HB; have HO185 := n0_; have BK177 := n1_; have BK178 := n2_; have BK191 := n3_; have BK197 := n4_; have HB := n5_; have BK198 := n6_; have GW198 := n7_; have GE198 := n8_; have NB177_198 := n9_; have NB198_177 := n10_; have NB178_198 := n11_; have NB198_178 := n12_; have NB191_198 := n13_; have NB198_191 := n14_; have NB197_198 := n15_; have NB198_197 := n16_; clear n0_ n1_ n2_ n3_ n4_ n5_ n6_ n7_ n8_ n9_ n10_ n11_ n12_ n13_ n14_ n15_ n16_; clear hb hbox hg; have hnb54 := NB198_177.out; have hnc54 := NB177_198.out; have hnb55 := NB198_178.out; have hnc55 := NB178_198.out; have hnb56 := NB198_191.out; have hnc56 := NB191_198.out; have hnb57 := NB198_197.out; have hnc57 := NB197_198.out; have hcz58_0 : w53.cell? ⟨gb198, 0, none⟩ = some (.bool false) := bc BK198 0; have hcz58_1 : w53.cell? ⟨gb198, 1, none⟩ = some (.bool false) := bc BK198 1; have hcz58_2 : w53.cell? ⟨gb198, 2, none⟩ = some (.int .i64 0) := bc BK198 2; have hcz58_3 : w53.cell? ⟨gb198, 3, none⟩ = some (.int .i64 0) := bc BK198 3; have hfz58_0 := blk_frozen BK198.out 0; have hfz58_1 := blk_frozen BK198.out 1; have hfz58_2 := blk_frozen BK198.out 2; have hfz58_3 := blk_frozen BK198.out 3))
       (try simp only [Act.put, List.setIfInBounds_toArray, List.set_cons_zero, List.set_cons_succ])
       go_cut [9] (fun v9 wc => ∃ (kq : Nat) (x9_29 : Int) (x199000_29 : Bool) (x199001_29 : Bool) (x199002_29 : Int) (x199003_29 : Int), v9 = .int .i64 x9_29 ∧ Aside0 (L2_IntervalWiden.j6 kq l2 x8_4 x9_29 t190 t196 a0_0 a0_1 a0_2 a0_3 a1_0 a1_1 a1_2 a1_3 t186 t187 t188 t189 t192 t193 t194 t195 x199000_29 x199001_29 x199002_29 x199003_29 = some r) ∧ Aside0 (kq ≤ kj19) ∧ Aside0 (wc.heap[gb177]? = some (.cells #[.bool a0_0, .bool a0_1, .int .i64 a0_2, .int .i64 a0_3] 23 (0, 0))) ∧ Aside0 (wc.heap[gb178]? = some (.cells #[.bool a1_0, .bool a1_1, .int .i64 a1_2, .int .i64 a1_3] 23 (0, 0))) ∧ Aside0 (wc.heap[gb191]? = some (.cells #[.bool t186, .bool t187, .int .i64 t188, .int .i64 t189] 23 (0, 0))) ∧ Aside0 (wc.heap[gb197]? = some (.cells #[.bool t192, .bool t193, .int .i64 t194, .int .i64 t195] 23 (0, 0))) ∧ Aside0 (wc.heap[gb198]? = some (.cells #[.bool x199000_29, .bool x199001_29, .int .i64 x199002_29, .int .i64 x199003_29] 23 (0, 0))) ∧ Aside0 (Below w.heap.size w wc))
       case first =>
        have H := HC30.out
        clear HC30
        by_cases c59 : t180 = 0
        ·rw [if_pos c59] at H
         have c59b0 : (t180 == 0) = true := beq_iff_eq.mpr c59
         have c59b1 : (t180 != 0) = false := bne_eq_false_iff_eq.mpr c59
         clear c59
         (first | rw [c59b0] | (simp only [i64_w, i32_w]; rw [c59b0]) | skip)
         have HC60 := am H
         clear H
         have hnb61 := NB177_178.out
         have hnc61 := NB178_177.out
         have hnb62 := NB177_191.out
         have hnc62 := NB191_177.out
         have hnb63 := NB177_197.out
         have hnc63 := NB197_177.out
         have hnb64 := NB177_198.out
         have hnc64 := NB198_177.out
         have hcz65_0 : w53.cell? ⟨gb177, 0, none⟩ = some (.bool a0_0) := bc BK177 0
         have hcz65_1 : w53.cell? ⟨gb177, 1, none⟩ = some (.bool a0_1) := bc BK177 1
         have hcz65_2 : w53.cell? ⟨gb177, 2, none⟩ = some (.int .i64 a0_2) := bc BK177 2
         have hcz65_3 : w53.cell? ⟨gb177, 3, none⟩ = some (.int .i64 a0_3) := bc BK177 3
         have hfz65_0 := blk_frozen BK177.out 0
         have hfz65_1 := blk_frozen BK177.out 1
         have hfz65_2 := blk_frozen BK177.out 2
         have hfz65_3 := blk_frozen BK177.out 3
         go_upto_if 69 with (fail)
         go_cut [] (fun wc => ∃ (kq : Nat) (x199000_59 : Bool) (x199002_59 : Int), Aside0 (L2_IntervalWiden.j5 kq l2 x8_4 t180 t190 t196 a0_0 a0_1 a0_2 a0_3 a1_0 a1_1 a1_2 a1_3 t186 t187 t188 t189 t192 t193 t194 t195 x199000_59 a0_1 x199002_59 a0_3 = some r) ∧ Aside0 (kq ≤ kj19) ∧ Aside0 (wc.heap[gb177]? = some (.cells #[.bool a0_0, .bool a0_1, .int .i64 a0_2, .int .i64 a0_3] 23 (0, 0))) ∧ Aside0 (wc.heap[gb178]? = some (.cells #[.bool a1_0, .bool a1_1, .int .i64 a1_2, .int .i64 a1_3] 23 (0, 0))) ∧ Aside0 (wc.heap[gb191]? = some (.cells #[.bool t186, .bool t187, .int .i64 t188, .int .i64 t189] 23 (0, 0))) ∧ Aside0 (wc.heap[gb197]? = some (.cells #[.bool t192, .bool t193, .int .i64 t194, .int .i64 t195] 23 (0, 0))) ∧ Aside0 (wc.heap[gb198]? = some (.cells #[.bool x199000_59, .bool a0_1, .int .i64 x199002_59, .int .i64 a0_3] 23 (0, 0))) ∧ Aside0 (Below w.heap.size w wc))
         case first =>
          have H := HC60.out
          clear HC60
          by_cases c66 : a0_0 = true
          ·subst c66
           have H1 : (L2_IntervalWiden.j5 kj19 l2 x8_4 t180 t190 t196 true a0_1 a0_2 a0_3 a1_0 a1_1 a1_2 a1_3 t186 t187 t188 t189 t192 t193 t194 t195 a1_0 a0_1 a1_2 a0_3) = some r := by rw [if_pos rfl] at H; exact H
           clear H
           have H := H1
           clear H1
           have H' := am H
           clear H
           have hnb67 := NB178_177.out
           have hnc67 := NB177_178.out
           have hnb68 := NB178_191.out
           have hnc68 := NB191_178.out
           have hnb69 := NB178_197.out
           have hnc69 := NB197_178.out
           have hnb70 := NB178_198.out
           have hnc70 := NB198_178.out
           have hcz71_0 : w53.cell? ⟨gb178, 0, none⟩ = some (.bool a1_0) := bc BK178 0
           have hcz71_1 : w53.cell? ⟨gb178, 1, none⟩ = some (.bool a1_1) := bc BK178 1
           have hcz71_2 : w53.cell? ⟨gb178, 2, none⟩ = some (.int .i64 a1_2) := bc BK178 2
           have hcz71_3 : w53.cell? ⟨gb178, 3, none⟩ = some (.int .i64 a1_3) := bc BK178 3
           have hfz71_0 := blk_frozen BK178.out 0
           have hfz71_1 := blk_frozen BK178.out 1
           have hfz71_2 := blk_frozen BK178.out 2
           have hfz71_3 := blk_frozen BK178.out 3
           have hnb72 := NB198_177.out
           have hnc72 := NB177_198.out
           have hnb73 := NB198_191.out
           have hnc73 := NB191_198.out
           have hnb74 := NB198_197.out
           have hnc74 := NB197_198.out
           have hcz75_0 : w53.cell? ⟨gb198, 0, none⟩ = some (.bool false) := bc BK198 0
           have hcz75_1 : w53.cell? ⟨gb198, 1, none⟩ = some (.bool false) := bc BK198 1
           have hcz75_2 : w53.cell? ⟨gb198, 2, none⟩ = some (.int .i64 0) := bc BK198 2
           have hcz75_3 : w53.cell? ⟨gb198, 3, none⟩ = some (.int .i64 0) := bc BK198 3
           have hfz75_0 := blk_frozen BK198.out 0
           have hfz75_1 := blk_frozen BK198.out 1
           have hfz75_2 := blk_frozen BK198.out 2
           have hfz75_3 := blk_frozen BK198.out 3
           go_wp2
           go_meet
           case rel => exact ⟨_, (a1_0), (a1_2), H', ⟨by have := HJ4.out; have := HJ11.out; have := HJ17.out; have := HK4.out; have := HJ19.out; first | omega | exact Nat.le_refl _⟩, ⟨by (with_reducible repeat (first | refine blk_drewN ?_ _ | refine blk_drew ?_ | refine blk_alloc ?_ _)); refine blk_far ?_ NB177_198.out _; (with_reducible repeat (first | refine blk_drewN ?_ _ | refine blk_drew ?_ | refine blk_alloc ?_ _)); refine blk_far ?_ NB177_198.out _; (with_reducible repeat (first | refine blk_drewN ?_ _ | refine blk_drew ?_ | refine blk_alloc ?_ _)); refine blk_far ?_ NB177_198.out _; (with_reducible repeat (first | refine blk_drewN ?_ _ | refine blk_drew ?_ | refine blk_alloc ?_ _)); refine blk_far ?_ NB177_198.out _; (with_reducible repeat (first | refine blk_drewN ?_ _ | refine blk_drew ?_ | refine blk_alloc ?_ _)); refine blk_far ?_ NB177_198.out _; (with_reducible repeat (first | refine blk_drewN ?_ _ | refine blk_drew ?_ | refine blk_alloc ?_ _)); refine blk_far ?_ NB177_198.out _; (with_reducible repeat (first | refine blk_drewN ?_ _ | refine blk_drew ?_ | refine blk_alloc ?_ _)); exact BK177.out⟩, ⟨by (with_reducible repeat (first | refine blk_drewN ?_ _ | refine blk_drew ?_ | refine blk_alloc ?_ _)); refine blk_far ?_ NB178_198.out _; (with_reducible repeat (first | refine blk_drewN ?_ _ | refine blk_drew ?_ | refine blk_alloc ?_ _)); refine blk_far ?_ NB178_198.out _; (with_reducible repeat (first | refine blk_drewN ?_ _ | refine blk_drew ?_ | refine blk_alloc ?_ _)); refine blk_far ?_ NB178_198.out _; (with_reducible repeat (first | refine blk_drewN ?_ _ | refine blk_drew ?_ | refine blk_alloc ?_ _)); refine blk_far ?_ NB178_198.out _; (with_reducible repeat (first | refine blk_drewN ?_ _ | refine blk_drew ?_ | refine blk_alloc ?_ _)); refine blk_far ?_ NB178_198.out _; (with_reducible repeat (first | refine blk_drewN ?_ _ | refine blk_drew ?_ | refine blk_alloc ?_ _)); refine blk_far ?_ NB178_198.out _; (with_reducible repeat (first | refine blk_drewN ?_ _ | refine blk_drew ?_ | refine blk_alloc ?_ _)); exact BK178.out⟩, ⟨by (with_reducible repeat (first | refine blk_drewN ?_ _ | refine blk_drew ?_ | refine blk_alloc ?_ _)); refine blk_far ?_ NB191_198.out _; (with_reducible repeat (first | refine blk_drewN ?_ _ | refine blk_drew ?_ | refine blk_alloc ?_ _)); refine blk_far ?_ NB191_198.out _; (with_reducible repeat (first | refine blk_drewN ?_ _ | refine blk_drew ?_ | refine blk_alloc ?_ _)); refine blk_far ?_ NB191_198.out _; (with_reducible repeat (first | refine blk_drewN ?_ _ | refine blk_drew ?_ | refine blk_alloc ?_ _)); refine blk_far ?_ NB191_198.out _; (with_reducible repeat (first | refine blk_drewN ?_ _ | refine blk_drew ?_ | refine blk_alloc ?_ _)); refine blk_far ?_ NB191_198.out _; (with_reducible repeat (first | refine blk_drewN ?_ _ | refine blk_drew ?_ | refine blk_alloc ?_ _)); refine blk_far ?_ NB191_198.out _; (with_reducible repeat (first | refine blk_drewN ?_ _ | refine blk_drew ?_ | refine blk_alloc ?_ _)); exact BK191.out⟩, ⟨by (with_reducible repeat (first | refine blk_drewN ?_ _ | refine blk_drew ?_ | refine blk_alloc ?_ _)); refine blk_far ?_ NB197_198.out _; (with_reducible repeat (first | refine blk_drewN ?_ _ | refine blk_drew ?_ | refine blk_alloc ?_ _)); refine blk_far ?_ NB197_198.out _; (with_reducible repeat (first | refine blk_drewN ?_ _ | refine blk_drew ?_ | refine blk_alloc ?_ _)); refine blk_far ?_ NB197_198.out _; (with_reducible repeat (first | refine blk_drewN ?_ _ | refine blk_drew ?_ | refine blk_alloc ?_ _)); refine blk_far ?_ NB197_198.out _; (with_reducible repeat (first | refine blk_drewN ?_ _ | refine blk_drew ?_ | refine blk_alloc ?_ _)); refine blk_far ?_ NB197_198.out _; (with_reducible repeat (first | refine blk_drewN ?_ _ | refine blk_drew ?_ | refine blk_alloc ?_ _)); refine blk_far ?_ NB197_198.out _; (with_reducible repeat (first | refine blk_drewN ?_ _ | refine blk_drew ?_ | refine blk_alloc ?_ _)); exact BK197.out⟩, ⟨by (with_reducible repeat (first | refine blk_drewN ?_ _ | refine blk_drew ?_ | refine blk_alloc ?_ _)); refine blk_put (cs := #[.bool a1_0, .bool a0_1, .int .i64 a0_2, .int .i64 a0_3]) ?_ 2 _ rfl; (with_reducible repeat (first | refine blk_drewN ?_ _ | refine blk_drew ?_ | refine blk_alloc ?_ _)); refine blk_put (cs := #[.bool true, .bool a0_1, .int .i64 a0_2, .int .i64 a0_3]) ?_ 0 _ rfl; (with_reducible repeat (first | refine blk_drewN ?_ _ | refine blk_drew ?_ | refine blk_alloc ?_ _)); refine blk_put (cs := #[.bool true, .bool a0_1, .int .i64 a0_2, .int .i64 0]) ?_ 3 _ rfl; (with_reducible repeat (first | refine blk_drewN ?_ _ | refine blk_drew ?_ | refine blk_alloc ?_ _)); refine blk_put (cs := #[.bool true, .bool a0_1, .int .i64 0, .int .i64 0]) ?_ 2 _ rfl; (with_reducible repeat (first | refine blk_drewN ?_ _ | refine blk_drew ?_ | refine blk_alloc ?_ _)); refine blk_put (cs := #[.bool true, .bool false, .int .i64 0, .int .i64 0]) ?_ 1 _ rfl; (with_reducible repeat (first | refine blk_drewN ?_ _ | refine blk_drew ?_ | refine blk_alloc ?_ _)); refine blk_put (cs := #[.bool false, .bool false, .int .i64 0, .int .i64 0]) ?_ 0 _ rfl; (with_reducible repeat (first | refine blk_drewN ?_ _ | refine blk_drew ?_ | refine blk_alloc ?_ _)); exact BK198.out⟩, ⟨pw⟩⟩
          replace c66 := Bool.eq_false_iff.mpr c66
          subst c66
          have H1 : (L2_IntervalWiden.j5 kj19 l2 x8_4 t180 t190 t196 false a0_1 a0_2 a0_3 a1_0 a1_1 a1_2 a1_3 t186 t187 t188 t189 t192 t193 t194 t195 false a0_1 a0_2 a0_3) = some r := by rw [if_neg (show ¬ (false = true) by decide)] at H; exact H
          clear H
          have H := H1
          clear H1
          have H' := am H
          clear H
          go_wp2
          go_meet
          case rel => exact ⟨_, (false), (a0_2), H', ⟨by have := HJ4.out; have := HJ11.out; have := HJ17.out; have := HK4.out; have := HJ19.out; first | omega | exact Nat.le_refl _⟩, ⟨by (with_reducible repeat (first | refine blk_drewN ?_ _ | refine blk_drew ?_ | refine blk_alloc ?_ _)); refine blk_far ?_ NB177_198.out _; (with_reducible repeat (first | refine blk_drewN ?_ _ | refine blk_drew ?_ | refine blk_alloc ?_ _)); refine blk_far ?_ NB177_198.out _; (with_reducible repeat (first | refine blk_drewN ?_ _ | refine blk_drew ?_ | refine blk_alloc ?_ _)); refine blk_far ?_ NB177_198.out _; (with_reducible repeat (first | refine blk_drewN ?_ _ | refine blk_drew ?_ | refine blk_alloc ?_ _)); refine blk_far ?_ NB177_198.out _; (with_reducible repeat (first | refine blk_drewN ?_ _ | refine blk_drew ?_ | refine blk_alloc ?_ _)); exact BK177.out⟩, ⟨by (with_reducible repeat (first | refine blk_drewN ?_ _ | refine blk_drew ?_ | refine blk_alloc ?_ _)); refine blk_far ?_ NB178_198.out _; (with_reducible repeat (first | refine blk_drewN ?_ _ | refine blk_drew ?_ | refine blk_alloc ?_ _)); refine blk_far ?_ NB178_198.out _; (with_reducible repeat (first | refine blk_drewN ?_ _ | refine blk_drew ?_ | refine blk_alloc ?_ _)); refine blk_far ?_ NB178_198.out _; (with_reducible repeat (first | refine blk_drewN ?_ _ | refine blk_drew ?_ | refine blk_alloc ?_ _)); refine blk_far ?_ NB178_198.out _; (with_reducible repeat (first | refine blk_drewN ?_ _ | refine blk_drew ?_ | refine blk_alloc ?_ _)); exact BK178.out⟩, ⟨by (with_reducible repeat (first | refine blk_drewN ?_ _ | refine blk_drew ?_ | refine blk_alloc ?_ _)); refine blk_far ?_ NB191_198.out _; (with_reducible repeat (first | refine blk_drewN ?_ _ | refine blk_drew ?_ | refine blk_alloc ?_ _)); refine blk_far ?_ NB191_198.out _; (with_reducible repeat (first | refine blk_drewN ?_ _ | refine blk_drew ?_ | refine blk_alloc ?_ _)); refine blk_far ?_ NB191_198.out _; (with_reducible repeat (first | refine blk_drewN ?_ _ | refine blk_drew ?_ | refine blk_alloc ?_ _)); refine blk_far ?_ NB191_198.out _; (with_reducible repeat (first | refine blk_drewN ?_ _ | refine blk_drew ?_ | refine blk_alloc ?_ _)); exact BK191.out⟩, ⟨by (with_reducible repeat (first | refine blk_drewN ?_ _ | refine blk_drew ?_ | refine blk_alloc ?_ _)); refine blk_far ?_ NB197_198.out _; (with_reducible repeat (first | refine blk_drewN ?_ _ | refine blk_drew ?_ | refine blk_alloc ?_ _)); refine blk_far ?_ NB197_198.out _; (with_reducible repeat (first | refine blk_drewN ?_ _ | refine blk_drew ?_ | refine blk_alloc ?_ _)); refine blk_far ?_ NB197_198.out _; (with_reducible repeat (first | refine blk_drewN ?_ _ | refine blk_drew ?_ | refine blk_alloc ?_ _)); refine blk_far ?_ NB197_198.out _; (with_reducible repeat (first | refine blk_drewN ?_ _ | refine blk_drew ?_ | refine blk_alloc ?_ _)); exact BK197.out⟩, ⟨by (with_reducible repeat (first | refine blk_drewN ?_ _ | refine blk_drew ?_ | refine blk_alloc ?_ _)); refine blk_put (cs := #[.bool false, .bool a0_1, .int .i64 a0_2, .int .i64 0]) ?_ 3 _ rfl; (with_reducible repeat (first | refine blk_drewN ?_ _ | refine blk_drew ?_ | refine blk_alloc ?_ _)); refine blk_put (cs := #[.bool false, .bool a0_1, .int .i64 0, .int .i64 0]) ?_ 2 _ rfl; (with_reducible repeat (first | refine blk_drewN ?_ _ | refine blk_drew ?_ | refine blk_alloc ?_ _)); refine blk_put (cs := #[.bool false, .bool false, .int .i64 0, .int .i64 0]) ?_ 1 _ rfl; (with_reducible repeat (first | refine blk_drewN ?_ _ | refine blk_drew ?_ | refine blk_alloc ?_ _)); refine blk_put (cs := #[.bool false, .bool false, .int .i64 0, .int .i64 0]) ?_ 0 _ rfl; (with_reducible repeat (first | refine blk_drewN ?_ _ | refine blk_drew ?_ | refine blk_alloc ?_ _)); exact BK198.out⟩, ⟨pw⟩⟩
         clear HC60
         try clear c1
         try clear p1
         try clear q1
         try clear hx1
         try clear c2
         try clear p2
         try clear c3
         try clear c4
         try clear c5
         try clear c6
         try clear p6
         try clear c7
         try clear c8
         try clear c9
         try clear c10
         try clear c12
         try clear c13
         try clear c17
         try clear c17b0
         try clear c17b1
         try clear p18
         try clear q18
         try clear hx18
         try clear c19
         try clear c21
         try clear c21b0
         try clear c22
         try clear c23
         try clear c23b0
         try clear c24
         try clear c24b0
         try clear c26
         try clear c27
         try clear c40
         try clear c41
         try clear c42
         try clear c44
         try clear c48
         try clear c49
         try clear c50
         try clear c54
         try clear c55
         try clear c56
         try clear c57
         try clear c59
         try clear c59b0
         try clear c59b1
         try clear c61
         try clear c62
         try clear c63
         try clear c64
         try clear p64
         try clear c66
         try clear c67
         try clear c68
         try clear c69
         try clear c70
         try clear c72
         try clear c73
         try clear c74
         try clear hcz14_0
         try clear hcz14_1
         try clear hcz14_2
         try clear hcz14_3
         try clear hcz15_0
         try clear hcz15_1
         try clear hcz15_2
         try clear hcz15_3
         try clear hcz43_0
         try clear hcz43_1
         try clear hcz43_2
         try clear hcz43_3
         try clear hcz45_0
         try clear hcz45_1
         try clear hcz45_2
         try clear hcz45_3
         try clear hcz51_0
         try clear hcz51_1
         try clear hcz51_2
         try clear hcz51_3
         try clear hcz52_0
         try clear hcz52_1
         try clear hcz52_2
         try clear hcz52_3
         try clear hcz58_0
         try clear hcz58_1
         try clear hcz58_2
         try clear hcz58_3
         try clear hcz65_0
         try clear hcz65_1
         try clear hcz65_2
         try clear hcz65_3
         try clear hcz71_0
         try clear hcz71_1
         try clear hcz71_2
         try clear hcz71_3
         try clear hcz75_0
         try clear hcz75_1
         try clear hcz75_2
         try clear hcz75_3
         try clear hfz14_0
         try clear hfz14_1
         try clear hfz14_2
         try clear hfz14_3
         try clear hfz15_0
         try clear hfz15_1
         try clear hfz15_2
         try clear hfz15_3
         try clear hfz43_0
         try clear hfz43_1
         try clear hfz43_2
         try clear hfz43_3
         try clear hfz45_0
         try clear hfz45_1
         try clear hfz45_2
         try clear hfz45_3
         try clear hfz51_0
         try clear hfz51_1
         try clear hfz51_2
         try clear hfz51_3
         try clear hfz52_0
         try clear hfz52_1
         try clear hfz52_2
         try clear hfz52_3
         try clear hfz58_0
         try clear hfz58_1
         try clear hfz58_2
         try clear hfz58_3
         try clear hfz65_0
         try clear hfz65_1
         try clear hfz65_2
         try clear hfz65_3
         try clear hfz71_0
         try clear hfz71_1
         try clear hfz71_2
         try clear hfz71_3
         try clear hfz75_0
         try clear hfz75_1
         try clear hfz75_2
         try clear hfz75_3
         try clear hx181_0
         try clear p181
         try clear p2
         try clear q181
         obtain ⟨kq, x199000_59, x199002_59, HA, HJ59, BK177, BK178, BK191, BK197, BK198, HB⟩ := hcut
         cases kq with
         | zero => exact absurd HA.out (by simp [L2_IntervalWiden.j5])
         | succ kj59 =>
          have H := HA.out
          clear HA
          simp only [L2_IntervalWiden.j5] at H
          by_cases c76 : a0_1 = true
          ·subst c76
           have H1 : (if x199000_59 = true then (L2_IntervalWiden.j6 kj59 l2 x8_4 t180 t190 t196 a0_0 true a0_2 a0_3 a1_0 a1_1 a1_2 a1_3 t186 t187 t188 t189 t192 t193 t194 t195 x199000_59 a1_1 x199002_59 a1_3) else (if a1_1 = true then (L2_IntervalWiden.j6 kj59 l2 x8_4 t180 t190 t196 a0_0 true a0_2 a0_3 a1_0 a1_1 a1_2 a1_3 t186 t187 t188 t189 t192 t193 t194 t195 x199000_59 a1_1 x199002_59 a1_3) else (if x199002_59 > a1_3 then (L2_IntervalWiden.j6 kj59 l2 x8_4 4 t190 t196 a0_0 true a0_2 a0_3 a1_0 a1_1 a1_2 a1_3 t186 t187 t188 t189 t192 t193 t194 t195 x199000_59 a1_1 x199002_59 a1_3) else (L2_IntervalWiden.j6 kj59 l2 x8_4 t180 t190 t196 a0_0 true a0_2 a0_3 a1_0 a1_1 a1_2 a1_3 t186 t187 t188 t189 t192 t193 t194 t195 x199000_59 a1_1 x199002_59 a1_3)))) = some r := by rw [if_pos rfl] at H; exact H
           clear H
           have H := H1
           clear H1
           by_cases c77 : x199000_59 = true
           ·subst c77
            have H1 : (L2_IntervalWiden.j6 kj59 l2 x8_4 t180 t190 t196 a0_0 true a0_2 a0_3 a1_0 a1_1 a1_2 a1_3 t186 t187 t188 t189 t192 t193 t194 t195 true a1_1 x199002_59 a1_3) = some r := by rw [if_pos rfl] at H; exact H
            clear H
            have H := H1
            clear H1
            have H' := am H
            clear H
            have hnb78 := NB177_178.out
            have hnc78 := NB178_177.out
            have hnb79 := NB177_191.out
            have hnc79 := NB191_177.out
            have hnb80 := NB177_197.out
            have hnc80 := NB197_177.out
            have hnb81 := NB177_198.out
            have hnc81 := NB198_177.out
            have hcz82_0 : wc.cell? ⟨gb177, 0, none⟩ = some (.bool a0_0) := bc BK177 0
            have hcz82_1 : wc.cell? ⟨gb177, 1, none⟩ = some (.bool true) := bc BK177 1
            have hcz82_2 : wc.cell? ⟨gb177, 2, none⟩ = some (.int .i64 a0_2) := bc BK177 2
            have hcz82_3 : wc.cell? ⟨gb177, 3, none⟩ = some (.int .i64 a0_3) := bc BK177 3
            have hfz82_0 := blk_frozen BK177.out 0
            have hfz82_1 := blk_frozen BK177.out 1
            have hfz82_2 := blk_frozen BK177.out 2
            have hfz82_3 := blk_frozen BK177.out 3
            have hnb83 := NB178_191.out
            have hnc83 := NB191_178.out
            have hnb84 := NB178_197.out
            have hnc84 := NB197_178.out
            have hnb85 := NB178_198.out
            have hnc85 := NB198_178.out
            have hcz86_0 : wc.cell? ⟨gb178, 0, none⟩ = some (.bool a1_0) := bc BK178 0
            have hcz86_1 : wc.cell? ⟨gb178, 1, none⟩ = some (.bool a1_1) := bc BK178 1
            have hcz86_2 : wc.cell? ⟨gb178, 2, none⟩ = some (.int .i64 a1_2) := bc BK178 2
            have hcz86_3 : wc.cell? ⟨gb178, 3, none⟩ = some (.int .i64 a1_3) := bc BK178 3
            have hfz86_0 := blk_frozen BK178.out 0
            have hfz86_1 := blk_frozen BK178.out 1
            have hfz86_2 := blk_frozen BK178.out 2
            have hfz86_3 := blk_frozen BK178.out 3
            have hnb87 := NB198_191.out
            have hnc87 := NB191_198.out
            have hnb88 := NB198_197.out
            have hnc88 := NB197_198.out
            have hcz89_0 : wc.cell? ⟨gb198, 0, none⟩ = some (.bool true) := bc BK198 0
            have hcz89_1 : wc.cell? ⟨gb198, 1, none⟩ = some (.bool true) := bc BK198 1
            have hcz89_2 : wc.cell? ⟨gb198, 2, none⟩ = some (.int .i64 x199002_59) := bc BK198 2
            have hcz89_3 : wc.cell? ⟨gb198, 3, none⟩ = some (.int .i64 a0_3) := bc BK198 3
            have hfz89_0 := blk_frozen BK198.out 0
            have hfz89_1 := blk_frozen BK198.out 1
            have hfz89_2 := blk_frozen BK198.out 2
            have hfz89_3 := blk_frozen BK198.out 3
            go_wp2
            go_meet
            case rel => exact ⟨_, (t180), (true), (a1_1), (x199002_59), (a1_3), pr, H', ⟨by have := HJ4.out; have := HJ11.out; have := HJ17.out; have := HK4.out; have := HJ19.out; have := HJ59.out; first | omega | exact Nat.le_refl _⟩, ⟨by (with_reducible repeat (first | refine blk_drewN ?_ _ | refine blk_drew ?_ | refine blk_alloc ?_ _)); refine blk_far ?_ NB177_198.out _; (with_reducible repeat (first | refine blk_drewN ?_ _ | refine blk_drew ?_ | refine blk_alloc ?_ _)); refine blk_far ?_ NB177_198.out _; (with_reducible repeat (first | refine blk_drewN ?_ _ | refine blk_drew ?_ | refine blk_alloc ?_ _)); exact BK177.out⟩, ⟨by (with_reducible repeat (first | refine blk_drewN ?_ _ | refine blk_drew ?_ | refine blk_alloc ?_ _)); refine blk_far ?_ NB178_198.out _; (with_reducible repeat (first | refine blk_drewN ?_ _ | refine blk_drew ?_ | refine blk_alloc ?_ _)); refine blk_far ?_ NB178_198.out _; (with_reducible repeat (first | refine blk_drewN ?_ _ | refine blk_drew ?_ | refine blk_alloc ?_ _)); exact BK178.out⟩, ⟨by (with_reducible repeat (first | refine blk_drewN ?_ _ | refine blk_drew ?_ | refine blk_alloc ?_ _)); refine blk_far ?_ NB191_198.out _; (with_reducible repeat (first | refine blk_drewN ?_ _ | refine blk_drew ?_ | refine blk_alloc ?_ _)); refine blk_far ?_ NB191_198.out _; (with_reducible repeat (first | refine blk_drewN ?_ _ | refine blk_drew ?_ | refine blk_alloc ?_ _)); exact BK191.out⟩, ⟨by (with_reducible repeat (first | refine blk_drewN ?_ _ | refine blk_drew ?_ | refine blk_alloc ?_ _)); refine blk_far ?_ NB197_198.out _; (with_reducible repeat (first | refine blk_drewN ?_ _ | refine blk_drew ?_ | refine blk_alloc ?_ _)); refine blk_far ?_ NB197_198.out _; (with_reducible repeat (first | refine blk_drewN ?_ _ | refine blk_drew ?_ | refine blk_alloc ?_ _)); exact BK197.out⟩, ⟨by (with_reducible repeat (first | refine blk_drewN ?_ _ | refine blk_drew ?_ | refine blk_alloc ?_ _)); refine blk_put (cs := #[.bool true, .bool a1_1, .int .i64 x199002_59, .int .i64 a0_3]) ?_ 3 _ rfl; (with_reducible repeat (first | refine blk_drewN ?_ _ | refine blk_drew ?_ | refine blk_alloc ?_ _)); refine blk_put (cs := #[.bool true, .bool true, .int .i64 x199002_59, .int .i64 a0_3]) ?_ 1 _ rfl; (with_reducible repeat (first | refine blk_drewN ?_ _ | refine blk_drew ?_ | refine blk_alloc ?_ _)); exact BK198.out⟩, ⟨pw⟩⟩
           replace c77 := Bool.eq_false_iff.mpr c77
           subst c77
           have H1 : (if a1_1 = true then (L2_IntervalWiden.j6 kj59 l2 x8_4 t180 t190 t196 a0_0 true a0_2 a0_3 a1_0 a1_1 a1_2 a1_3 t186 t187 t188 t189 t192 t193 t194 t195 false a1_1 x199002_59 a1_3) else (if x199002_59 > a1_3 then (L2_IntervalWiden.j6 kj59 l2 x8_4 4 t190 t196 a0_0 true a0_2 a0_3 a1_0 a1_1 a1_2 a1_3 t186 t187 t188 t189 t192 t193 t194 t195 false a1_1 x199002_59 a1_3) else (L2_IntervalWiden.j6 kj59 l2 x8_4 t180 t190 t196 a0_0 true a0_2 a0_3 a1_0 a1_1 a1_2 a1_3 t186 t187 t188 t189 t192 t193 t194 t195 false a1_1 x199002_59 a1_3))) = some r := by rw [if_neg (show ¬ (false = true) by decide)] at H; exact H
           clear H
           have H := H1
           clear H1
           by_cases c90 : a1_1 = true
           ·subst c90
            have H1 : (L2_IntervalWiden.j6 kj59 l2 x8_4 t180 t190 t196 a0_0 true a0_2 a0_3 a1_0 true a1_2 a1_3 t186 t187 t188 t189 t192 t193 t194 t195 false true x199002_59 a1_3) = some r := by rw [if_pos rfl] at H; exact H
            clear H
            have H := H1
            clear H1
            have H' := am H
            clear H
            have hnb91 := NB177_178.out
            have hnc91 := NB178_177.out
            have hnb92 := NB177_191.out
            have hnc92 := NB191_177.out
            have hnb93 := NB177_197.out
            have hnc93 := NB197_177.out
            have hnb94 := NB177_198.out
            have hnc94 := NB198_177.out
            have hcz95_0 : wc.cell? ⟨gb177, 0, none⟩ = some (.bool a0_0) := bc BK177 0
            have hcz95_1 : wc.cell? ⟨gb177, 1, none⟩ = some (.bool true) := bc BK177 1
            have hcz95_2 : wc.cell? ⟨gb177, 2, none⟩ = some (.int .i64 a0_2) := bc BK177 2
            have hcz95_3 : wc.cell? ⟨gb177, 3, none⟩ = some (.int .i64 a0_3) := bc BK177 3
            have hfz95_0 := blk_frozen BK177.out 0
            have hfz95_1 := blk_frozen BK177.out 1
            have hfz95_2 := blk_frozen BK177.out 2
            have hfz95_3 := blk_frozen BK177.out 3
            have hnb96 := NB178_191.out
            have hnc96 := NB191_178.out
            have hnb97 := NB178_197.out
            have hnc97 := NB197_178.out
            have hnb98 := NB178_198.out
            have hnc98 := NB198_178.out
            have hcz99_0 : wc.cell? ⟨gb178, 0, none⟩ = some (.bool a1_0) := bc BK178 0
            have hcz99_1 : wc.cell? ⟨gb178, 1, none⟩ = some (.bool true) := bc BK178 1
            have hcz99_2 : wc.cell? ⟨gb178, 2, none⟩ = some (.int .i64 a1_2) := bc BK178 2
            have hcz99_3 : wc.cell? ⟨gb178, 3, none⟩ = some (.int .i64 a1_3) := bc BK178 3
            have hfz99_0 := blk_frozen BK178.out 0
            have hfz99_1 := blk_frozen BK178.out 1
            have hfz99_2 := blk_frozen BK178.out 2
            have hfz99_3 := blk_frozen BK178.out 3
            have hnb100 := NB198_191.out
            have hnc100 := NB191_198.out
            have hnb101 := NB198_197.out
            have hnc101 := NB197_198.out
            have hcz102_0 : wc.cell? ⟨gb198, 0, none⟩ = some (.bool false) := bc BK198 0
            have hcz102_1 : wc.cell? ⟨gb198, 1, none⟩ = some (.bool true) := bc BK198 1
            have hcz102_2 : wc.cell? ⟨gb198, 2, none⟩ = some (.int .i64 x199002_59) := bc BK198 2
            have hcz102_3 : wc.cell? ⟨gb198, 3, none⟩ = some (.int .i64 a0_3) := bc BK198 3
            have hfz102_0 := blk_frozen BK198.out 0
            have hfz102_1 := blk_frozen BK198.out 1
            have hfz102_2 := blk_frozen BK198.out 2
            have hfz102_3 := blk_frozen BK198.out 3
            go_wp2
            go_meet
            case rel => exact ⟨_, (t180), (false), (true), (x199002_59), (a1_3), pr, H', ⟨by have := HJ4.out; have := HJ11.out; have := HJ17.out; have := HK4.out; have := HJ19.out; have := HJ59.out; first | omega | exact Nat.le_refl _⟩, ⟨by (with_reducible repeat (first | refine blk_drewN ?_ _ | refine blk_drew ?_ | refine blk_alloc ?_ _)); refine blk_far ?_ NB177_198.out _; (with_reducible repeat (first | refine blk_drewN ?_ _ | refine blk_drew ?_ | refine blk_alloc ?_ _)); refine blk_far ?_ NB177_198.out _; (with_reducible repeat (first | refine blk_drewN ?_ _ | refine blk_drew ?_ | refine blk_alloc ?_ _)); exact BK177.out⟩, ⟨by (with_reducible repeat (first | refine blk_drewN ?_ _ | refine blk_drew ?_ | refine blk_alloc ?_ _)); refine blk_far ?_ NB178_198.out _; (with_reducible repeat (first | refine blk_drewN ?_ _ | refine blk_drew ?_ | refine blk_alloc ?_ _)); refine blk_far ?_ NB178_198.out _; (with_reducible repeat (first | refine blk_drewN ?_ _ | refine blk_drew ?_ | refine blk_alloc ?_ _)); exact BK178.out⟩, ⟨by (with_reducible repeat (first | refine blk_drewN ?_ _ | refine blk_drew ?_ | refine blk_alloc ?_ _)); refine blk_far ?_ NB191_198.out _; (with_reducible repeat (first | refine blk_drewN ?_ _ | refine blk_drew ?_ | refine blk_alloc ?_ _)); refine blk_far ?_ NB191_198.out _; (with_reducible repeat (first | refine blk_drewN ?_ _ | refine blk_drew ?_ | refine blk_alloc ?_ _)); exact BK191.out⟩, ⟨by (with_reducible repeat (first | refine blk_drewN ?_ _ | refine blk_drew ?_ | refine blk_alloc ?_ _)); refine blk_far ?_ NB197_198.out _; (with_reducible repeat (first | refine blk_drewN ?_ _ | refine blk_drew ?_ | refine blk_alloc ?_ _)); refine blk_far ?_ NB197_198.out _; (with_reducible repeat (first | refine blk_drewN ?_ _ | refine blk_drew ?_ | refine blk_alloc ?_ _)); exact BK197.out⟩, ⟨by (with_reducible repeat (first | refine blk_drewN ?_ _ | refine blk_drew ?_ | refine blk_alloc ?_ _)); refine blk_put (cs := #[.bool false, .bool true, .int .i64 x199002_59, .int .i64 a0_3]) ?_ 3 _ rfl; (with_reducible repeat (first | refine blk_drewN ?_ _ | refine blk_drew ?_ | refine blk_alloc ?_ _)); refine blk_put (cs := #[.bool false, .bool true, .int .i64 x199002_59, .int .i64 a0_3]) ?_ 1 _ rfl; (with_reducible repeat (first | refine blk_drewN ?_ _ | refine blk_drew ?_ | refine blk_alloc ?_ _)); exact BK198.out⟩, ⟨pw⟩⟩
           replace c90 := Bool.eq_false_iff.mpr c90
           subst c90
           have H1 : (if x199002_59 > a1_3 then (L2_IntervalWiden.j6 kj59 l2 x8_4 4 t190 t196 a0_0 true a0_2 a0_3 a1_0 false a1_2 a1_3 t186 t187 t188 t189 t192 t193 t194 t195 false false x199002_59 a1_3) else (L2_IntervalWiden.j6 kj59 l2 x8_4 t180 t190 t196 a0_0 true a0_2 a0_3 a1_0 false a1_2 a1_3 t186 t187 t188 t189 t192 t193 t194 t195 false false x199002_59 a1_3)) = some r := by rw [if_neg (show ¬ (false = true) by decide)] at H; exact H
           clear H
           have H := H1
           clear H1
           by_cases c103 : x199002_59 > a1_3
           ·rw [if_pos c103] at H
            have c103b0 : decide (a1_3 < x199002_59) = true := decide_eq_true c103
            clear c103
            have H' := am H
            clear H
            have hnb104 := NB177_178.out
            have hnc104 := NB178_177.out
            have hnb105 := NB177_191.out
            have hnc105 := NB191_177.out
            have hnb106 := NB177_197.out
            have hnc106 := NB197_177.out
            have hnb107 := NB177_198.out
            have hnc107 := NB198_177.out
            have hcz108_0 : wc.cell? ⟨gb177, 0, none⟩ = some (.bool a0_0) := bc BK177 0
            have hcz108_1 : wc.cell? ⟨gb177, 1, none⟩ = some (.bool true) := bc BK177 1
            have hcz108_2 : wc.cell? ⟨gb177, 2, none⟩ = some (.int .i64 a0_2) := bc BK177 2
            have hcz108_3 : wc.cell? ⟨gb177, 3, none⟩ = some (.int .i64 a0_3) := bc BK177 3
            have hfz108_0 := blk_frozen BK177.out 0
            have hfz108_1 := blk_frozen BK177.out 1
            have hfz108_2 := blk_frozen BK177.out 2
            have hfz108_3 := blk_frozen BK177.out 3
            have hnb109 := NB178_191.out
            have hnc109 := NB191_178.out
            have hnb110 := NB178_197.out
            have hnc110 := NB197_178.out
            have hnb111 := NB178_198.out
            have hnc111 := NB198_178.out
            have hcz112_0 : wc.cell? ⟨gb178, 0, none⟩ = some (.bool a1_0) := bc BK178 0
            have hcz112_1 : wc.cell? ⟨gb178, 1, none⟩ = some (.bool false) := bc BK178 1
            have hcz112_2 : wc.cell? ⟨gb178, 2, none⟩ = some (.int .i64 a1_2) := bc BK178 2
            have hcz112_3 : wc.cell? ⟨gb178, 3, none⟩ = some (.int .i64 a1_3) := bc BK178 3
            have hfz112_0 := blk_frozen BK178.out 0
            have hfz112_1 := blk_frozen BK178.out 1
            have hfz112_2 := blk_frozen BK178.out 2
            have hfz112_3 := blk_frozen BK178.out 3
            have hnb113 := NB198_191.out
            have hnc113 := NB191_198.out
            have hnb114 := NB198_197.out
            have hnc114 := NB197_198.out
            have hcz115_0 : wc.cell? ⟨gb198, 0, none⟩ = some (.bool false) := bc BK198 0
            have hcz115_1 : wc.cell? ⟨gb198, 1, none⟩ = some (.bool true) := bc BK198 1
            have hcz115_2 : wc.cell? ⟨gb198, 2, none⟩ = some (.int .i64 x199002_59) := bc BK198 2
            have hcz115_3 : wc.cell? ⟨gb198, 3, none⟩ = some (.int .i64 a0_3) := bc BK198 3
            have hfz115_0 := blk_frozen BK198.out 0
            have hfz115_1 := blk_frozen BK198.out 1
            have hfz115_2 := blk_frozen BK198.out 2
            have hfz115_3 := blk_frozen BK198.out 3
            go_wp2
            go_meet
            case rel => exact ⟨_, (4), (false), (false), (x199002_59), (a1_3), pr, H', ⟨by have := HJ4.out; have := HJ11.out; have := HJ17.out; have := HK4.out; have := HJ19.out; have := HJ59.out; first | omega | exact Nat.le_refl _⟩, ⟨by (with_reducible repeat (first | refine blk_drewN ?_ _ | refine blk_drew ?_ | refine blk_alloc ?_ _)); refine blk_far ?_ NB177_198.out _; (with_reducible repeat (first | refine blk_drewN ?_ _ | refine blk_drew ?_ | refine blk_alloc ?_ _)); refine blk_far ?_ NB177_198.out _; (with_reducible repeat (first | refine blk_drewN ?_ _ | refine blk_drew ?_ | refine blk_alloc ?_ _)); exact BK177.out⟩, ⟨by (with_reducible repeat (first | refine blk_drewN ?_ _ | refine blk_drew ?_ | refine blk_alloc ?_ _)); refine blk_far ?_ NB178_198.out _; (with_reducible repeat (first | refine blk_drewN ?_ _ | refine blk_drew ?_ | refine blk_alloc ?_ _)); refine blk_far ?_ NB178_198.out _; (with_reducible repeat (first | refine blk_drewN ?_ _ | refine blk_drew ?_ | refine blk_alloc ?_ _)); exact BK178.out⟩, ⟨by (with_reducible repeat (first | refine blk_drewN ?_ _ | refine blk_drew ?_ | refine blk_alloc ?_ _)); refine blk_far ?_ NB191_198.out _; (with_reducible repeat (first | refine blk_drewN ?_ _ | refine blk_drew ?_ | refine blk_alloc ?_ _)); refine blk_far ?_ NB191_198.out _; (with_reducible repeat (first | refine blk_drewN ?_ _ | refine blk_drew ?_ | refine blk_alloc ?_ _)); exact BK191.out⟩, ⟨by (with_reducible repeat (first | refine blk_drewN ?_ _ | refine blk_drew ?_ | refine blk_alloc ?_ _)); refine blk_far ?_ NB197_198.out _; (with_reducible repeat (first | refine blk_drewN ?_ _ | refine blk_drew ?_ | refine blk_alloc ?_ _)); refine blk_far ?_ NB197_198.out _; (with_reducible repeat (first | refine blk_drewN ?_ _ | refine blk_drew ?_ | refine blk_alloc ?_ _)); exact BK197.out⟩, ⟨by (with_reducible repeat (first | refine blk_drewN ?_ _ | refine blk_drew ?_ | refine blk_alloc ?_ _)); refine blk_put (cs := #[.bool false, .bool false, .int .i64 x199002_59, .int .i64 a0_3]) ?_ 3 _ rfl; (with_reducible repeat (first | refine blk_drewN ?_ _ | refine blk_drew ?_ | refine blk_alloc ?_ _)); refine blk_put (cs := #[.bool false, .bool true, .int .i64 x199002_59, .int .i64 a0_3]) ?_ 1 _ rfl; (with_reducible repeat (first | refine blk_drewN ?_ _ | refine blk_drew ?_ | refine blk_alloc ?_ _)); exact BK198.out⟩, ⟨pw⟩⟩
           rw [if_neg c103] at H
           have c103b0 : decide (a1_3 < x199002_59) = false := decide_eq_false c103
           clear c103
           have H' := am H
           clear H
           have hnb116 := NB177_178.out
           have hnc116 := NB178_177.out
           have hnb117 := NB177_191.out
           have hnc117 := NB191_177.out
           have hnb118 := NB177_197.out
           have hnc118 := NB197_177.out
           have hnb119 := NB177_198.out
           have hnc119 := NB198_177.out
           have hcz120_0 : wc.cell? ⟨gb177, 0, none⟩ = some (.bool a0_0) := bc BK177 0
           have hcz120_1 : wc.cell? ⟨gb177, 1, none⟩ = some (.bool true) := bc BK177 1
           have hcz120_2 : wc.cell? ⟨gb177, 2, none⟩ = some (.int .i64 a0_2) := bc BK177 2
           have hcz120_3 : wc.cell? ⟨gb177, 3, none⟩ = some (.int .i64 a0_3) := bc BK177 3
           have hfz120_0 := blk_frozen BK177.out 0
           have hfz120_1 := blk_frozen BK177.out 1
           have hfz120_2 := blk_frozen BK177.out 2
           have hfz120_3 := blk_frozen BK177.out 3
           have hnb121 := NB178_191.out
           have hnc121 := NB191_178.out
           have hnb122 := NB178_197.out
           have hnc122 := NB197_178.out
           have hnb123 := NB178_198.out
           have hnc123 := NB198_178.out
           have hcz124_0 : wc.cell? ⟨gb178, 0, none⟩ = some (.bool a1_0) := bc BK178 0
           have hcz124_1 : wc.cell? ⟨gb178, 1, none⟩ = some (.bool false) := bc BK178 1
           have hcz124_2 : wc.cell? ⟨gb178, 2, none⟩ = some (.int .i64 a1_2) := bc BK178 2
           have hcz124_3 : wc.cell? ⟨gb178, 3, none⟩ = some (.int .i64 a1_3) := bc BK178 3
           have hfz124_0 := blk_frozen BK178.out 0
           have hfz124_1 := blk_frozen BK178.out 1
           have hfz124_2 := blk_frozen BK178.out 2
           have hfz124_3 := blk_frozen BK178.out 3
           have hnb125 := NB198_191.out
           have hnc125 := NB191_198.out
           have hnb126 := NB198_197.out
           have hnc126 := NB197_198.out
           have hcz127_0 : wc.cell? ⟨gb198, 0, none⟩ = some (.bool false) := bc BK198 0
           have hcz127_1 : wc.cell? ⟨gb198, 1, none⟩ = some (.bool true) := bc BK198 1
           have hcz127_2 : wc.cell? ⟨gb198, 2, none⟩ = some (.int .i64 x199002_59) := bc BK198 2
           have hcz127_3 : wc.cell? ⟨gb198, 3, none⟩ = some (.int .i64 a0_3) := bc BK198 3
           have hfz127_0 := blk_frozen BK198.out 0
           have hfz127_1 := blk_frozen BK198.out 1
           have hfz127_2 := blk_frozen BK198.out 2
           have hfz127_3 := blk_frozen BK198.out 3
           go_wp2
           go_meet
           case rel => exact ⟨_, (t180), (false), (false), (x199002_59), (a1_3), pr, H', ⟨by have := HJ4.out; have := HJ11.out; have := HJ17.out; have := HK4.out; have := HJ19.out; have := HJ59.out; first | omega | exact Nat.le_refl _⟩, ⟨by (with_reducible repeat (first | refine blk_drewN ?_ _ | refine blk_drew ?_ | refine blk_alloc ?_ _)); refine blk_far ?_ NB177_198.out _; (with_reducible repeat (first | refine blk_drewN ?_ _ | refine blk_drew ?_ | refine blk_alloc ?_ _)); refine blk_far ?_ NB177_198.out _; (with_reducible repeat (first | refine blk_drewN ?_ _ | refine blk_drew ?_ | refine blk_alloc ?_ _)); exact BK177.out⟩, ⟨by (with_reducible repeat (first | refine blk_drewN ?_ _ | refine blk_drew ?_ | refine blk_alloc ?_ _)); refine blk_far ?_ NB178_198.out _; (with_reducible repeat (first | refine blk_drewN ?_ _ | refine blk_drew ?_ | refine blk_alloc ?_ _)); refine blk_far ?_ NB178_198.out _; (with_reducible repeat (first | refine blk_drewN ?_ _ | refine blk_drew ?_ | refine blk_alloc ?_ _)); exact BK178.out⟩, ⟨by (with_reducible repeat (first | refine blk_drewN ?_ _ | refine blk_drew ?_ | refine blk_alloc ?_ _)); refine blk_far ?_ NB191_198.out _; (with_reducible repeat (first | refine blk_drewN ?_ _ | refine blk_drew ?_ | refine blk_alloc ?_ _)); refine blk_far ?_ NB191_198.out _; (with_reducible repeat (first | refine blk_drewN ?_ _ | refine blk_drew ?_ | refine blk_alloc ?_ _)); exact BK191.out⟩, ⟨by (with_reducible repeat (first | refine blk_drewN ?_ _ | refine blk_drew ?_ | refine blk_alloc ?_ _)); refine blk_far ?_ NB197_198.out _; (with_reducible repeat (first | refine blk_drewN ?_ _ | refine blk_drew ?_ | refine blk_alloc ?_ _)); refine blk_far ?_ NB197_198.out _; (with_reducible repeat (first | refine blk_drewN ?_ _ | refine blk_drew ?_ | refine blk_alloc ?_ _)); exact BK197.out⟩, ⟨by (with_reducible repeat (first | refine blk_drewN ?_ _ | refine blk_drew ?_ | refine blk_alloc ?_ _)); refine blk_put (cs := #[.bool false, .bool false, .int .i64 x199002_59, .int .i64 a0_3]) ?_ 3 _ rfl; (with_reducible repeat (first | refine blk_drewN ?_ _ | refine blk_drew ?_ | refine blk_alloc ?_ _)); refine blk_put (cs := #[.bool false, .bool true, .int .i64 x199002_59, .int .i64 a0_3]) ?_ 1 _ rfl; (with_reducible repeat (first | refine blk_drewN ?_ _ | refine blk_drew ?_ | refine blk_alloc ?_ _)); exact BK198.out⟩, ⟨pw⟩⟩
          replace c76 := Bool.eq_false_iff.mpr c76
          subst c76
          have H1 : (if x199000_59 = true then (L2_IntervalWiden.j6 kj59 l2 x8_4 t180 t190 t196 a0_0 false a0_2 a0_3 a1_0 a1_1 a1_2 a1_3 t186 t187 t188 t189 t192 t193 t194 t195 x199000_59 false x199002_59 a0_3) else (if false = true then (L2_IntervalWiden.j6 kj59 l2 x8_4 t180 t190 t196 a0_0 false a0_2 a0_3 a1_0 a1_1 a1_2 a1_3 t186 t187 t188 t189 t192 t193 t194 t195 x199000_59 false x199002_59 a0_3) else (if x199002_59 > a0_3 then (L2_IntervalWiden.j6 kj59 l2 x8_4 4 t190 t196 a0_0 false a0_2 a0_3 a1_0 a1_1 a1_2 a1_3 t186 t187 t188 t189 t192 t193 t194 t195 x199000_59 false x199002_59 a0_3) else (L2_IntervalWiden.j6 kj59 l2 x8_4 t180 t190 t196 a0_0 false a0_2 a0_3 a1_0 a1_1 a1_2 a1_3 t186 t187 t188 t189 t192 t193 t194 t195 x199000_59 false x199002_59 a0_3)))) = some r := by rw [if_neg (show ¬ (false = true) by decide)] at H; exact H
          clear H
          have H := H1
          clear H1
          by_cases c128 : x199000_59 = true
          ·subst c128
           have H1 : (L2_IntervalWiden.j6 kj59 l2 x8_4 t180 t190 t196 a0_0 false a0_2 a0_3 a1_0 a1_1 a1_2 a1_3 t186 t187 t188 t189 t192 t193 t194 t195 true false x199002_59 a0_3) = some r := by rw [if_pos rfl] at H; exact H
           clear H
           have H := H1
           clear H1
           have H' := am H
           clear H
           have hnb129 := NB177_178.out
           have hnc129 := NB178_177.out
           have hnb130 := NB177_191.out
           have hnc130 := NB191_177.out
           have hnb131 := NB177_197.out
           have hnc131 := NB197_177.out
           have hnb132 := NB177_198.out
           have hnc132 := NB198_177.out
           have hcz133_0 : wc.cell? ⟨gb177, 0, none⟩ = some (.bool a0_0) := bc BK177 0
           have hcz133_1 : wc.cell? ⟨gb177, 1, none⟩ = some (.bool false) := bc BK177 1
           have hcz133_2 : wc.cell? ⟨gb177, 2, none⟩ = some (.int .i64 a0_2) := bc BK177 2
           have hcz133_3 : wc.cell? ⟨gb177, 3, none⟩ = some (.int .i64 a0_3) := bc BK177 3
           have hfz133_0 := blk_frozen BK177.out 0
           have hfz133_1 := blk_frozen BK177.out 1
           have hfz133_2 := blk_frozen BK177.out 2
           have hfz133_3 := blk_frozen BK177.out 3
           have hnb134 := NB198_178.out
           have hnc134 := NB178_198.out
           have hnb135 := NB198_191.out
           have hnc135 := NB191_198.out
           have hnb136 := NB198_197.out
           have hnc136 := NB197_198.out
           have hcz137_0 : wc.cell? ⟨gb198, 0, none⟩ = some (.bool true) := bc BK198 0
           have hcz137_1 : wc.cell? ⟨gb198, 1, none⟩ = some (.bool false) := bc BK198 1
           have hcz137_2 : wc.cell? ⟨gb198, 2, none⟩ = some (.int .i64 x199002_59) := bc BK198 2
           have hcz137_3 : wc.cell? ⟨gb198, 3, none⟩ = some (.int .i64 a0_3) := bc BK198 3
           have hfz137_0 := blk_frozen BK198.out 0
           have hfz137_1 := blk_frozen BK198.out 1
           have hfz137_2 := blk_frozen BK198.out 2
           have hfz137_3 := blk_frozen BK198.out 3
           go_wp2
           go_meet
           case rel => exact ⟨_, (t180), (true), (false), (x199002_59), (a0_3), pr, H', ⟨by have := HJ4.out; have := HJ11.out; have := HJ17.out; have := HK4.out; have := HJ19.out; have := HJ59.out; first | omega | exact Nat.le_refl _⟩, ⟨pk⟩, ⟨pk⟩, ⟨pk⟩, ⟨pk⟩, ⟨pk⟩, ⟨pw⟩⟩
          replace c128 := Bool.eq_false_iff.mpr c128
          subst c128
          have H1 : (if false = true then (L2_IntervalWiden.j6 kj59 l2 x8_4 t180 t190 t196 a0_0 false a0_2 a0_3 a1_0 a1_1 a1_2 a1_3 t186 t187 t188 t189 t192 t193 t194 t195 false false x199002_59 a0_3) else (if x199002_59 > a0_3 then (L2_IntervalWiden.j6 kj59 l2 x8_4 4 t190 t196 a0_0 false a0_2 a0_3 a1_0 a1_1 a1_2 a1_3 t186 t187 t188 t189 t192 t193 t194 t195 false false x199002_59 a0_3) else (L2_IntervalWiden.j6 kj59 l2 x8_4 t180 t190 t196 a0_0 false a0_2 a0_3 a1_0 a1_1 a1_2 a1_3 t186 t187 t188 t189 t192 t193 t194 t195 false false x199002_59 a0_3))) = some r := by rw [if_neg (show ¬ (false = true) by decide)] at H; exact H
          clear H
          have H := H1
          clear H1
          have H1 : (if x199002_59 > a0_3 then (L2_IntervalWiden.j6 kj59 l2 x8_4 4 t190 t196 a0_0 false a0_2 a0_3 a1_0 a1_1 a1_2 a1_3 t186 t187 t188 t189 t192 t193 t194 t195 false false x199002_59 a0_3) else (L2_IntervalWiden.j6 kj59 l2 x8_4 t180 t190 t196 a0_0 false a0_2 a0_3 a1_0 a1_1 a1_2 a1_3 t186 t187 t188 t189 t192 t193 t194 t195 false false x199002_59 a0_3)) = some r := by rw [if_neg (show ¬ (false = true) by decide)] at H; exact H
          clear H
          have H := H1
          clear H1
          by_cases c138 : x199002_59 > a0_3
          ·rw [if_pos c138] at H
           have c138b0 : decide (a0_3 < x199002_59) = true := decide_eq_true c138
           clear c138
           have H' := am H
           clear H
           have hnb139 := NB177_178.out
           have hnc139 := NB178_177.out
           have hnb140 := NB177_191.out
           have hnc140 := NB191_177.out
           have hnb141 := NB177_197.out
           have hnc141 := NB197_177.out
           have hnb142 := NB177_198.out
           have hnc142 := NB198_177.out
           have hcz143_0 : wc.cell? ⟨gb177, 0, none⟩ = some (.bool a0_0) := bc BK177 0
           have hcz143_1 : wc.cell? ⟨gb177, 1, none⟩ = some (.bool false) := bc BK177 1
           have hcz143_2 : wc.cell? ⟨gb177, 2, none⟩ = some (.int .i64 a0_2) := bc BK177 2
           have hcz143_3 : wc.cell? ⟨gb177, 3, none⟩ = some (.int .i64 a0_3) := bc BK177 3
           have hfz143_0 := blk_frozen BK177.out 0
           have hfz143_1 := blk_frozen BK177.out 1
           have hfz143_2 := blk_frozen BK177.out 2
           have hfz143_3 := blk_frozen BK177.out 3
           have hnb144 := NB198_178.out
           have hnc144 := NB178_198.out
           have hnb145 := NB198_191.out
           have hnc145 := NB191_198.out
           have hnb146 := NB198_197.out
           have hnc146 := NB197_198.out
           have hcz147_0 : wc.cell? ⟨gb198, 0, none⟩ = some (.bool false) := bc BK198 0
           have hcz147_1 : wc.cell? ⟨gb198, 1, none⟩ = some (.bool false) := bc BK198 1
           have hcz147_2 : wc.cell? ⟨gb198, 2, none⟩ = some (.int .i64 x199002_59) := bc BK198 2
           have hcz147_3 : wc.cell? ⟨gb198, 3, none⟩ = some (.int .i64 a0_3) := bc BK198 3
           have hfz147_0 := blk_frozen BK198.out 0
           have hfz147_1 := blk_frozen BK198.out 1
           have hfz147_2 := blk_frozen BK198.out 2
           have hfz147_3 := blk_frozen BK198.out 3
           go_wp2
           go_meet
           case rel => exact ⟨_, (4), (false), (false), (x199002_59), (a0_3), pr, H', ⟨by have := HJ4.out; have := HJ11.out; have := HJ17.out; have := HK4.out; have := HJ19.out; have := HJ59.out; first | omega | exact Nat.le_refl _⟩, ⟨pk⟩, ⟨pk⟩, ⟨pk⟩, ⟨pk⟩, ⟨pk⟩, ⟨pw⟩⟩
          rw [if_neg c138] at H
          have c138b0 : decide (a0_3 < x199002_59) = false := decide_eq_false c138
          clear c138
          have H' := am H
          clear H
          have hnb148 := NB177_178.out
          have hnc148 := NB178_177.out
          have hnb149 := NB177_191.out
          have hnc149 := NB191_177.out
          have hnb150 := NB177_197.out
          have hnc150 := NB197_177.out
          have hnb151 := NB177_198.out
          have hnc151 := NB198_177.out
          have hcz152_0 : wc.cell? ⟨gb177, 0, none⟩ = some (.bool a0_0) := bc BK177 0
          have hcz152_1 : wc.cell? ⟨gb177, 1, none⟩ = some (.bool false) := bc BK177 1
          have hcz152_2 : wc.cell? ⟨gb177, 2, none⟩ = some (.int .i64 a0_2) := bc BK177 2
          have hcz152_3 : wc.cell? ⟨gb177, 3, none⟩ = some (.int .i64 a0_3) := bc BK177 3
          have hfz152_0 := blk_frozen BK177.out 0
          have hfz152_1 := blk_frozen BK177.out 1
          have hfz152_2 := blk_frozen BK177.out 2
          have hfz152_3 := blk_frozen BK177.out 3
          have hnb153 := NB198_178.out
          have hnc153 := NB178_198.out
          have hnb154 := NB198_191.out
          have hnc154 := NB191_198.out
          have hnb155 := NB198_197.out
          have hnc155 := NB197_198.out
          have hcz156_0 : wc.cell? ⟨gb198, 0, none⟩ = some (.bool false) := bc BK198 0
          have hcz156_1 : wc.cell? ⟨gb198, 1, none⟩ = some (.bool false) := bc BK198 1
          have hcz156_2 : wc.cell? ⟨gb198, 2, none⟩ = some (.int .i64 x199002_59) := bc BK198 2
          have hcz156_3 : wc.cell? ⟨gb198, 3, none⟩ = some (.int .i64 a0_3) := bc BK198 3
          have hfz156_0 := blk_frozen BK198.out 0
          have hfz156_1 := blk_frozen BK198.out 1
          have hfz156_2 := blk_frozen BK198.out 2
          have hfz156_3 := blk_frozen BK198.out 3
          go_wp2
          go_meet
          case rel => exact ⟨_, (t180), (false), (false), (x199002_59), (a0_3), pr, H', ⟨by have := HJ4.out; have := HJ11.out; have := HJ17.out; have := HK4.out; have := HJ19.out; have := HJ59.out; first | omega | exact Nat.le_refl _⟩, ⟨pk⟩, ⟨pk⟩, ⟨pk⟩, ⟨pk⟩, ⟨pk⟩, ⟨pw⟩⟩
        rw [if_neg c59] at H
        have c59b0 : (t180 == 0) = false := beq_eq_false_iff_ne.mpr c59
        have c59b1 : (t180 != 0) = true := bne_iff_ne.mpr c59
        (first | rw [c59b0] | (simp only [i64_w, i32_w]; rw [c59b0]) | skip)
        have H' := am H
        clear H
        go_wp2
        go_meet
        case rel => exact ⟨_, (t180), (a0_0), (a0_1), (a0_2), (a0_3), pr, H', ⟨by have := HJ4.out; have := HJ11.out; have := HJ17.out; have := HK4.out; have := HJ19.out; first | omega | exact Nat.le_refl _⟩, ⟨by (with_reducible repeat (first | refine blk_drewN ?_ _ | refine blk_drew ?_ | refine blk_alloc ?_ _)); refine blk_far ?_ NB177_198.out _; (with_reducible repeat (first | refine blk_drewN ?_ _ | refine blk_drew ?_ | refine blk_alloc ?_ _)); refine blk_far ?_ NB177_198.out _; (with_reducible repeat (first | refine blk_drewN ?_ _ | refine blk_drew ?_ | refine blk_alloc ?_ _)); refine blk_far ?_ NB177_198.out _; (with_reducible repeat (first | refine blk_drewN ?_ _ | refine blk_drew ?_ | refine blk_alloc ?_ _)); refine blk_far ?_ NB177_198.out _; (with_reducible repeat (first | refine blk_drewN ?_ _ | refine blk_drew ?_ | refine blk_alloc ?_ _)); exact BK177.out⟩, ⟨by (with_reducible repeat (first | refine blk_drewN ?_ _ | refine blk_drew ?_ | refine blk_alloc ?_ _)); refine blk_far ?_ NB178_198.out _; (with_reducible repeat (first | refine blk_drewN ?_ _ | refine blk_drew ?_ | refine blk_alloc ?_ _)); refine blk_far ?_ NB178_198.out _; (with_reducible repeat (first | refine blk_drewN ?_ _ | refine blk_drew ?_ | refine blk_alloc ?_ _)); refine blk_far ?_ NB178_198.out _; (with_reducible repeat (first | refine blk_drewN ?_ _ | refine blk_drew ?_ | refine blk_alloc ?_ _)); refine blk_far ?_ NB178_198.out _; (with_reducible repeat (first | refine blk_drewN ?_ _ | refine blk_drew ?_ | refine blk_alloc ?_ _)); exact BK178.out⟩, ⟨by (with_reducible repeat (first | refine blk_drewN ?_ _ | refine blk_drew ?_ | refine blk_alloc ?_ _)); refine blk_far ?_ NB191_198.out _; (with_reducible repeat (first | refine blk_drewN ?_ _ | refine blk_drew ?_ | refine blk_alloc ?_ _)); refine blk_far ?_ NB191_198.out _; (with_reducible repeat (first | refine blk_drewN ?_ _ | refine blk_drew ?_ | refine blk_alloc ?_ _)); refine blk_far ?_ NB191_198.out _; (with_reducible repeat (first | refine blk_drewN ?_ _ | refine blk_drew ?_ | refine blk_alloc ?_ _)); refine blk_far ?_ NB191_198.out _; (with_reducible repeat (first | refine blk_drewN ?_ _ | refine blk_drew ?_ | refine blk_alloc ?_ _)); exact BK191.out⟩, ⟨by (with_reducible repeat (first | refine blk_drewN ?_ _ | refine blk_drew ?_ | refine blk_alloc ?_ _)); refine blk_far ?_ NB197_198.out _; (with_reducible repeat (first | refine blk_drewN ?_ _ | refine blk_drew ?_ | refine blk_alloc ?_ _)); refine blk_far ?_ NB197_198.out _; (with_reducible repeat (first | refine blk_drewN ?_ _ | refine blk_drew ?_ | refine blk_alloc ?_ _)); refine blk_far ?_ NB197_198.out _; (with_reducible repeat (first | refine blk_drewN ?_ _ | refine blk_drew ?_ | refine blk_alloc ?_ _)); refine blk_far ?_ NB197_198.out _; (with_reducible repeat (first | refine blk_drewN ?_ _ | refine blk_drew ?_ | refine blk_alloc ?_ _)); exact BK197.out⟩, ⟨by (with_reducible repeat (first | refine blk_drewN ?_ _ | refine blk_drew ?_ | refine blk_alloc ?_ _)); refine blk_put (cs := #[.bool a0_0, .bool a0_1, .int .i64 a0_2, .int .i64 0]) ?_ 3 _ rfl; (with_reducible repeat (first | refine blk_drewN ?_ _ | refine blk_drew ?_ | refine blk_alloc ?_ _)); refine blk_put (cs := #[.bool a0_0, .bool a0_1, .int .i64 0, .int .i64 0]) ?_ 2 _ rfl; (with_reducible repeat (first | refine blk_drewN ?_ _ | refine blk_drew ?_ | refine blk_alloc ?_ _)); refine blk_put (cs := #[.bool a0_0, .bool false, .int .i64 0, .int .i64 0]) ?_ 1 _ rfl; (with_reducible repeat (first | refine blk_drewN ?_ _ | refine blk_drew ?_ | refine blk_alloc ?_ _)); refine blk_put (cs := #[.bool false, .bool false, .int .i64 0, .int .i64 0]) ?_ 0 _ rfl; (with_reducible repeat (first | refine blk_drewN ?_ _ | refine blk_drew ?_ | refine blk_alloc ?_ _)); exact BK198.out⟩, ⟨pw⟩⟩
       clear HC30
       try clear c1
       try clear p1
       try clear q1
       try clear hx1
       try clear c2
       try clear p2
       try clear c3
       try clear c4
       try clear c5
       try clear c6
       try clear p6
       try clear c7
       try clear c8
       try clear c9
       try clear c10
       try clear c11
       try clear c12
       try clear c13
       try clear c14
       try clear c15
       try clear c17
       try clear c17b0
       try clear c17b1
       try clear p18
       try clear q18
       try clear hx18
       try clear c19
       try clear c21
       try clear c21b0
       try clear c22
       try clear c23
       try clear c23b0
       try clear c24
       try clear c24b0
       try clear c26
       try clear c27
       try clear c40
       try clear c41
       try clear c42
       try clear c44
       try clear c48
       try clear c49
       try clear c50
       try clear c54
       try clear c55
       try clear c56
       try clear c57
       try clear c59
       try clear c59b0
       try clear c59b1
       try clear c61
       try clear c62
       try clear c63
       try clear c64
       try clear p64
       try clear c66
       try clear c67
       try clear c68
       try clear c69
       try clear c70
       try clear c72
       try clear c73
       try clear c74
       try clear c76
       try clear c77
       try clear c78
       try clear c79
       try clear c80
       try clear c81
       try clear c83
       try clear c84
       try clear c85
       try clear c87
       try clear c88
       try clear c90
       try clear c91
       try clear c92
       try clear c93
       try clear c94
       try clear c96
       try clear c97
       try clear c98
       try clear c100
       try clear c101
       try clear c103
       try clear c103b0
       try clear c104
       try clear c105
       try clear c106
       try clear c107
       try clear c109
       try clear c110
       try clear c111
       try clear c113
       try clear c114
       try clear c116
       try clear c117
       try clear c118
       try clear c119
       try clear c121
       try clear c122
       try clear c123
       try clear c125
       try clear c126
       try clear c128
       try clear c129
       try clear c130
       try clear c131
       try clear c132
       try clear c134
       try clear c135
       try clear c136
       try clear c138
       try clear c138b0
       try clear c139
       try clear c140
       try clear c141
       try clear c142
       try clear c144
       try clear c145
       try clear c146
       try clear c148
       try clear c149
       try clear c150
       try clear c151
       try clear c153
       try clear c154
       try clear c155
       try clear hcz102_0
       try clear hcz102_1
       try clear hcz102_2
       try clear hcz102_3
       try clear hcz108_0
       try clear hcz108_1
       try clear hcz108_2
       try clear hcz108_3
       try clear hcz112_0
       try clear hcz112_1
       try clear hcz112_2
       try clear hcz112_3
       try clear hcz115_0
       try clear hcz115_1
       try clear hcz115_2
       try clear hcz115_3
       try clear hcz120_0
       try clear hcz120_1
       try clear hcz120_2
       try clear hcz120_3
       try clear hcz124_0
       try clear hcz124_1
       try clear hcz124_2
       try clear hcz124_3
       try clear hcz127_0
       try clear hcz127_1
       try clear hcz127_2
       try clear hcz127_3
       try clear hcz133_0
       try clear hcz133_1
       try clear hcz133_2
       try clear hcz133_3
       try clear hcz137_0
       try clear hcz137_1
       try clear hcz137_2
       try clear hcz137_3
       try clear hcz143_0
       try clear hcz143_1
       try clear hcz143_2
       try clear hcz143_3
       try clear hcz147_0
       try clear hcz147_1
       try clear hcz147_2
       try clear hcz147_3
       try clear hcz14_0
       try clear hcz14_1
       try clear hcz14_2
       try clear hcz14_3
       try clear hcz152_0
       try clear hcz152_1
       try clear hcz152_2
       try clear hcz152_3
       try clear hcz156_0
       try clear hcz156_1
       try clear hcz156_2
       try clear hcz156_3
       try clear hcz15_0
       try clear hcz15_1
       try clear hcz15_2
       try clear hcz15_3
       try clear hcz43_0
       try clear hcz43_1
       try clear hcz43_2
       try clear hcz43_3
       try clear hcz45_0
       try clear hcz45_1
       try clear hcz45_2
       try clear hcz45_3
       try clear hcz51_0
       try clear hcz51_1
       try clear hcz51_2
       try clear hcz51_3
       try clear hcz52_0
       try clear hcz52_1
       try clear hcz52_2
       try clear hcz52_3
       try clear hcz58_0
       try clear hcz58_1
       try clear hcz58_2
       try clear hcz58_3
       try clear hcz65_0
       try clear hcz65_1
       try clear hcz65_2
       try clear hcz65_3
       try clear hcz71_0
       try clear hcz71_1
       try clear hcz71_2
       try clear hcz71_3
       try clear hcz75_0
       try clear hcz75_1
       try clear hcz75_2
       try clear hcz75_3
       try clear hcz82_0
       try clear hcz82_1
       try clear hcz82_2
       try clear hcz82_3
       try clear hcz86_0
       try clear hcz86_1
       try clear hcz86_2
       try clear hcz86_3
       try clear hcz89_0
       try clear hcz89_1
       try clear hcz89_2
       try clear hcz89_3
       try clear hcz95_0
       try clear hcz95_1
       try clear hcz95_2
       try clear hcz95_3
       try clear hcz99_0
       try clear hcz99_1
       try clear hcz99_2
       try clear hcz99_3
       try clear hfz102_0
       try clear hfz102_1
       try clear hfz102_2
       try clear hfz102_3
       try clear hfz108_0
       try clear hfz108_1
       try clear hfz108_2
       try clear hfz108_3
       try clear hfz112_0
       try clear hfz112_1
       try clear hfz112_2
       try clear hfz112_3
       try clear hfz115_0
       try clear hfz115_1
       try clear hfz115_2
       try clear hfz115_3
       try clear hfz120_0
       try clear hfz120_1
       try clear hfz120_2
       try clear hfz120_3
       try clear hfz124_0
       try clear hfz124_1
       try clear hfz124_2
       try clear hfz124_3
       try clear hfz127_0
       try clear hfz127_1
       try clear hfz127_2
       try clear hfz127_3
       try clear hfz133_0
       try clear hfz133_1
       try clear hfz133_2
       try clear hfz133_3
       try clear hfz137_0
       try clear hfz137_1
       try clear hfz137_2
       try clear hfz137_3
       try clear hfz143_0
       try clear hfz143_1
       try clear hfz143_2
       try clear hfz143_3
       try clear hfz147_0
       try clear hfz147_1
       try clear hfz147_2
       try clear hfz147_3
       try clear hfz14_0
       try clear hfz14_1
       try clear hfz14_2
       try clear hfz14_3
       try clear hfz152_0
       try clear hfz152_1
       try clear hfz152_2
       try clear hfz152_3
       try clear hfz156_0
       try clear hfz156_1
       try clear hfz156_2
       try clear hfz156_3
       try clear hfz15_0
       try clear hfz15_1
       try clear hfz15_2
       try clear hfz15_3
       try clear hfz43_0
       try clear hfz43_1
       try clear hfz43_2
       try clear hfz43_3
       try clear hfz45_0
       try clear hfz45_1
       try clear hfz45_2
       try clear hfz45_3
       try clear hfz51_0
       try clear hfz51_1
       try clear hfz51_2
       try clear hfz51_3
       try clear hfz52_0
       try clear hfz52_1
       try clear hfz52_2
       try clear hfz52_3
       try clear hfz58_0
       try clear hfz58_1
       try clear hfz58_2
       try clear hfz58_3
       try clear hfz65_0
       try clear hfz65_1
       try clear hfz65_2
       try clear hfz65_3
       try clear hfz71_0
       try clear hfz71_1
       try clear hfz71_2
       try clear hfz71_3
       try clear hfz75_0
       try clear hfz75_1
       try clear hfz75_2
       try clear hfz75_3
       try clear hfz82_0
       try clear hfz82_1
       try clear hfz82_2
       try clear hfz82_3
       try clear hfz86_0
       try clear hfz86_1
       try clear hfz86_2
       try clear hfz86_3
       try clear hfz89_0
       try clear hfz89_1
       try clear hfz89_2
       try clear hfz89_3
       try clear hfz95_0
       try clear hfz95_1
       try clear hfz95_2
       try clear hfz95_3
       try clear hfz99_0
       try clear hfz99_1
       try clear hfz99_2
       try clear hfz99_3
       try clear hx181_0
       try clear p1
       try clear p18
       try clear p181
       try clear p2
       try clear p6
       try clear p64
       try clear q1
       try clear q18
       try clear q181
       obtain ⟨kq, x9_29, x199000_29, x199001_29, x199002_29, x199003_29, rfl, HA, HJ29, BK177, BK178, BK191, BK197, BK198, HB⟩ := hcut
       cases kq with
       | zero => exact absurd HA.out (by simp [L2_IntervalWiden.j6])
       | succ kj29 =>
        have H := HA.out
        clear HA
        simp only [L2_IntervalWiden.j6] at H
        replace H := Option.bind_eq_some_iff.mp H
        obtain ⟨t199, A1570, H⟩ := H
        replace H : (if t199 = true then (if x8_4 > 0 then ((L2_isSpan.f t186 t187 t188 t189 t190 t186 t187 t188 t189 x8_4).bind fun t200 => (some t200)) else ((R2_WidenedOf.f kj29 a0_0 a0_1 a0_2 a0_3 a1_0 a1_1 a1_2 a1_3 l2).bind fun bt201 => ((L2_isSpan.f t186 t187 t188 t189 t190 bt201.1 bt201.2.1 bt201.2.2.1 bt201.2.2.2 0).bind fun t205 => (if t205 = true then ((R2_InsideOf.f kj29 a0_0 a0_1 a0_2 a0_3 t186 t187 t188 t189).bind fun t206 => (some t206)) else (none))))) else (none)) = some r := H
        have A157 := am A1570
        clear A1570
        by_cases c158 : t199 = true
        ·subst c158
         have H1 : (if x8_4 > 0 then ((L2_isSpan.f t186 t187 t188 t189 t190 t186 t187 t188 t189 x8_4).bind fun t200 => (some t200)) else ((R2_WidenedOf.f kj29 a0_0 a0_1 a0_2 a0_3 a1_0 a1_1 a1_2 a1_3 l2).bind fun bt201 => ((L2_isSpan.f t186 t187 t188 t189 t190 bt201.1 bt201.2.1 bt201.2.2.1 bt201.2.2.2 0).bind fun t205 => (if t205 = true then ((R2_InsideOf.f kj29 a0_0 a0_1 a0_2 a0_3 t186 t187 t188 t189).bind fun t206 => (some t206)) else (none))))) = some r := by rw [if_pos rfl] at H; exact H
         clear H
         have H := H1
         clear H1
         by_cases c159 : x8_4 > 0
         ·rw [if_pos c159] at H
          have c159b0 : decide (0 < x8_4) = true := decide_eq_true c159
          clear c159
          replace H := Option.bind_eq_some_iff.mp H
          obtain ⟨t200, A1600, H⟩ := H
          replace H : (some t200) = some r := H
          have A160 := am A1600
          clear A1600
          obtain rfl := Option.some.inj H
          have hnb161 := NB197_177.out
          have hnc161 := NB177_197.out
          have hnb162 := NB197_178.out
          have hnc162 := NB178_197.out
          have hnb163 := NB197_191.out
          have hnc163 := NB191_197.out
          have hnb164 := NB197_198.out
          have hnc164 := NB198_197.out
          have hcz165_0 : wc.cell? ⟨gb197, 0, none⟩ = some (.bool t192) := bc BK197 0
          have hcz165_1 : wc.cell? ⟨gb197, 1, none⟩ = some (.bool t193) := bc BK197 1
          have hcz165_2 : wc.cell? ⟨gb197, 2, none⟩ = some (.int .i64 t194) := bc BK197 2
          have hcz165_3 : wc.cell? ⟨gb197, 3, none⟩ = some (.int .i64 t195) := bc BK197 3
          have hfz165_0 := blk_frozen BK197.out 0
          have hfz165_1 := blk_frozen BK197.out 1
          have hfz165_2 := blk_frozen BK197.out 2
          have hfz165_3 := blk_frozen BK197.out 3
          have hnb166 := NB198_177.out
          have hnc166 := NB177_198.out
          have hnb167 := NB198_178.out
          have hnc167 := NB178_198.out
          have hnb168 := NB198_191.out
          have hnc168 := NB191_198.out
          have hcz169_0 : wc.cell? ⟨gb198, 0, none⟩ = some (.bool x199000_29) := bc BK198 0
          have hcz169_1 : wc.cell? ⟨gb198, 1, none⟩ = some (.bool x199001_29) := bc BK198 1
          have hcz169_2 : wc.cell? ⟨gb198, 2, none⟩ = some (.int .i64 x199002_29) := bc BK198 2
          have hcz169_3 : wc.cell? ⟨gb198, 3, none⟩ = some (.int .i64 x199003_29) := bc BK198 3
          have hfz169_0 := blk_frozen BK198.out 0
          have hfz169_1 := blk_frozen BK198.out 1
          have hfz169_2 := blk_frozen BK198.out 2
          have hfz169_3 := blk_frozen BK198.out 3
          have CA157 := fun (W : World) (hE9_ : ErrAll W) => L2_isSpan.calls t192 t193 t194 t195 t196 x199000_29 x199001_29 x199002_29 x199003_29 x9_29 true W A157.out hE9_
          try simp only [errW_none, errW_some] at CA157
          go_wp2_with (first | (go_at_call 36; (with_reducible refine (CA157 _ (ErrAll.below hE9.out pw)).mono ?_); rintro e w170 ⟨rfl, hb⟩; have n0_ := bb BK177 hb; have n1_ := bb BK178 hb; have n2_ := bb BK191 hb; have n3_ := bb BK197 hb; have n4_ := bb BK198 hb; have n5_ := am (below_step pw hb); clear BK177; clear BK178; clear BK191; clear BK197; clear BK198; clear HB; have BK177 := n0_; have BK178 := n1_; have BK191 := n2_; have BK197 := n3_; have BK198 := n4_; have HB := n5_; clear n0_ n1_ n2_ n3_ n4_ n5_; (try clear hb); (try clear hb2); (try clear hk); (try clear hi); have hnb171 := NB191_177.out; have hnc171 := NB177_191.out; have hnb172 := NB191_178.out; have hnc172 := NB178_191.out; have hcz173_0 : w170.cell? ⟨gb191, 0, none⟩ = some (.bool t186) := bc BK191 0; have hcz173_1 : w170.cell? ⟨gb191, 1, none⟩ = some (.bool t187) := bc BK191 1; have hcz173_2 : w170.cell? ⟨gb191, 2, none⟩ = some (.int .i64 t188) := bc BK191 2; have hcz173_3 : w170.cell? ⟨gb191, 3, none⟩ = some (.int .i64 t189) := bc BK191 3; have hfz173_0 := blk_frozen BK191.out 0; have hfz173_1 := blk_frozen BK191.out 1; have hfz173_2 := blk_frozen BK191.out 2; have hfz173_3 := blk_frozen BK191.out 3; have CA160 := fun (W : World) (hE9_ : ErrAll W) => L2_isSpan.calls t186 t187 t188 t189 t190 t186 t187 t188 t189 x8_4 t200 W A160.out hE9_; try simp only [errW_none, errW_some] at CA160) | (go_at_call 36; (with_reducible refine (CA160 _ (ErrAll.below hE9.out pw)).mono ?_); rintro e w174 ⟨rfl, hb⟩; have n0_ := bb BK177 hb; have n1_ := bb BK178 hb; have n2_ := bb BK191 hb; have n3_ := bb BK197 hb; have n4_ := bb BK198 hb; have n5_ := am (below_step pw hb); clear BK177; clear BK178; clear BK191; clear BK197; clear BK198; clear HB; have BK177 := n0_; have BK178 := n1_; have BK191 := n2_; have BK197 := n3_; have BK198 := n4_; have HB := n5_; clear n0_ n1_ n2_ n3_ n4_ n5_; (try clear hb); (try clear hb2); (try clear hk); (try clear hi)))
          go_ret
          exact ⟨pe, pw⟩
         rw [if_neg c159] at H
         have c159b0 : decide (0 < x8_4) = false := decide_eq_false c159
         clear c159
         replace H := Option.bind_eq_some_iff.mp H
         obtain ⟨⟨t201, t202, t203, t204⟩, A1750, H⟩ := H
         replace H : ((L2_isSpan.f t186 t187 t188 t189 t190 t201 t202 t203 t204 0).bind fun t205 => (if t205 = true then ((R2_InsideOf.f kj29 a0_0 a0_1 a0_2 a0_3 t186 t187 t188 t189).bind fun t206 => (some t206)) else (none))) = some r := H
         have A175 := am A1750
         clear A1750
         replace H := Option.bind_eq_some_iff.mp H
         obtain ⟨t205, A1760, H⟩ := H
         replace H : (if t205 = true then ((R2_InsideOf.f kj29 a0_0 a0_1 a0_2 a0_3 t186 t187 t188 t189).bind fun t206 => (some t206)) else (none)) = some r := H
         have A176 := am A1760
         clear A1760
         by_cases c177 : t205 = true
         ·subst c177
          have H1 : ((R2_InsideOf.f kj29 a0_0 a0_1 a0_2 a0_3 t186 t187 t188 t189).bind fun t206 => (some t206)) = some r := by rw [if_pos rfl] at H; exact H
          clear H
          have H := H1
          clear H1
          replace H := Option.bind_eq_some_iff.mp H
          obtain ⟨t206, A1780, H⟩ := H
          replace H : (some t206) = some r := H
          have A178 := am A1780
          clear A1780
          obtain rfl := Option.some.inj H
          have hnb179 := NB197_177.out
          have hnc179 := NB177_197.out
          have hnb180 := NB197_178.out
          have hnc180 := NB178_197.out
          have hnb181 := NB197_191.out
          have hnc181 := NB191_197.out
          have hnb182 := NB197_198.out
          have hnc182 := NB198_197.out
          have hcz183_0 : wc.cell? ⟨gb197, 0, none⟩ = some (.bool t192) := bc BK197 0
          have hcz183_1 : wc.cell? ⟨gb197, 1, none⟩ = some (.bool t193) := bc BK197 1
          have hcz183_2 : wc.cell? ⟨gb197, 2, none⟩ = some (.int .i64 t194) := bc BK197 2
          have hcz183_3 : wc.cell? ⟨gb197, 3, none⟩ = some (.int .i64 t195) := bc BK197 3
          have hfz183_0 := blk_frozen BK197.out 0
          have hfz183_1 := blk_frozen BK197.out 1
          have hfz183_2 := blk_frozen BK197.out 2
          have hfz183_3 := blk_frozen BK197.out 3
          have hnb184 := NB198_177.out
          have hnc184 := NB177_198.out
          have hnb185 := NB198_178.out
          have hnc185 := NB178_198.out
          have hnb186 := NB198_191.out
          have hnc186 := NB191_198.out
          have hcz187_0 : wc.cell? ⟨gb198, 0, none⟩ = some (.bool x199000_29) := bc BK198 0
          have hcz187_1 : wc.cell? ⟨gb198, 1, none⟩ = some (.bool x199001_29) := bc BK198 1
          have hcz187_2 : wc.cell? ⟨gb198, 2, none⟩ = some (.int .i64 x199002_29) := bc BK198 2
          have hcz187_3 : wc.cell? ⟨gb198, 3, none⟩ = some (.int .i64 x199003_29) := bc BK198 3
          have hfz187_0 := blk_frozen BK198.out 0
          have hfz187_1 := blk_frozen BK198.out 1
          have hfz187_2 := blk_frozen BK198.out 2
          have hfz187_3 := blk_frozen BK198.out 3
          have CA157 := fun (W : World) (hE9_ : ErrAll W) => L2_isSpan.calls t192 t193 t194 t195 t196 x199000_29 x199001_29 x199002_29 x199003_29 x9_29 true W A157.out hE9_
          try simp only [errW_none, errW_some] at CA157
          try go_wp2_with (first | (go_at_call 36; (with_reducible refine (CA157 _ (ErrAll.below hE9.out pw)).mono ?_); rintro e w188 ⟨rfl, hb⟩; have n0_ := bb BK177 hb; have n1_ := bb BK178 hb; have n2_ := bb BK191 hb; have n3_ := bb BK197 hb; have n4_ := bb BK198 hb; have n5_ := am (below_step pw hb); clear BK177; clear BK178; clear BK191; clear BK197; clear BK198; clear HB; have BK177 := n0_; have BK178 := n1_; have BK191 := n2_; have BK197 := n3_; have BK198 := n4_; have HB := n5_; clear n0_ n1_ n2_ n3_ n4_ n5_; (try clear hb); (try clear hb2); (try clear hk); (try clear hi)))
          have n0_ := am (blk_drew BK177.out)
          have n1_ := am (blk_drew BK178.out)
          have n2_ := am (blk_drew BK191.out)
          have n3_ := am (blk_drew BK197.out)
          have n4_ := am (blk_drew BK198.out)
          have n5_ := am (below_drew1 HB.out)
          clear BK177 BK178 BK191 BK197 BK198 HB
          revert n0_ n1_ n2_ n3_ n4_ n5_
          intro BK177 BK178 BK191 BK197 BK198 HB
          refine start_ (n := 13) (S := fun w' => w'.cell? ⟨gb191, 0, none⟩ = some (.bool t186) ∧ w'.cell? ⟨gb191, 1, none⟩ = some (.bool t187) ∧ w'.cell? ⟨gb191, 2, none⟩ = some (.int .i64 t188) ∧ w'.cell? ⟨gb191, 3, none⟩ = some (.int .i64 t189) ∧ w'.cell? ⟨gb177, 0, none⟩ = some (.bool a0_0) ∧ w'.cell? ⟨gb177, 1, none⟩ = some (.bool a0_1) ∧ w'.cell? ⟨gb177, 2, none⟩ = some (.int .i64 a0_2) ∧ w'.cell? ⟨gb177, 3, none⟩ = some (.int .i64 a0_3) ∧ w'.cell? ⟨gb178, 0, none⟩ = some (.bool a1_0) ∧ w'.cell? ⟨gb178, 1, none⟩ = some (.bool a1_1) ∧ w'.cell? ⟨gb178, 2, none⟩ = some (.int .i64 a1_2) ∧ w'.cell? ⟨gb178, 3, none⟩ = some (.int .i64 a1_3)) (ds := []) #[false, false, false, false, false, false, false, false, false, false, false, false, false] kk rfl rfl ⟨bc BK191 0, bc BK191 1, bc BK191 2, bc BK191 3, bc BK177 0, bc BK177 1, bc BK177 2, bc BK177 3, bc BK178 0, bc BK178 1, bc BK178 2, bc BK178 3⟩ (fun hHeld => ?_); refine with_tabW L2_IntervalWiden.tab29 L2_IntervalWiden.bits29 (fun HT_ HW_ => ?_)
          generalize w188.drew = w189 at BK177 BK178 BK191 BK197 BK198 HB hHeld ⊢
          refine pure_ (i := 1) (N := some 113) (v := ?_) (a' := ?_) #[false, true, false, false, false, false, false, false, false, false, false, false, false] rfl rfl (any_of HT_.out kk) (fun _ _ _ h => h) (Or.inl ⟨by rfl, ?_⟩) ?_ ?_
          rotate_left
          ·intro w'
           go_simp
           with_reducible rfl
          rotate_left
          ·simp only [Act.put, List.setIfInBounds_toArray, List.set_cons_zero, List.set_cons_succ, i64_w, i32_w]
           rfl
          refine pure_ (i := 4) (N := some 116) (v := ?_) (a' := ?_) #[false, true, false, false, true, false, false, false, false, false, false, false, false] rfl rfl (any_of HT_.out kk) (fun _ _ _ h => h) (Or.inl ⟨by rfl, ?_⟩) ?_ ?_
          rotate_left
          ·intro w'
           go_simp
           with_reducible rfl
          rotate_left
          ·simp only [Act.put, List.setIfInBounds_toArray, List.set_cons_zero, List.set_cons_succ, i64_w, i32_w]
           rfl
          refine take_ (i := 0) (N := some 112) (v := ?_) (a' := ?_) #[true, true, false, false, true, false, false, false, false, false, false, false, false] rfl rfl (take_ofW HT_.out HW_.out kk) (fun _ _ _ h => h) (Or.inl ⟨by rfl, ?_⟩) hHeld ?_ ?_
          rotate_left
          ·rintro w' ⟨s0, s1, s2, s3, s4, s5, s6, s7, s8, s9, s10, s11⟩
           go_simp
           with_reducible rfl
          rotate_left
          ·simp only [Act.put, List.setIfInBounds_toArray, List.set_cons_zero, List.set_cons_succ, i64_w, i32_w]
           rfl
          refine take_ (i := 2) (N := some 114) (v := ?_) (a' := ?_) #[true, true, true, false, true, false, false, false, false, false, false, false, false] rfl rfl (take_ofW HT_.out HW_.out kk) (fun _ _ _ h => h) (Or.inl ⟨by rfl, ?_⟩) hHeld ?_ ?_
          rotate_left
          ·rintro w' ⟨s0, s1, s2, s3, s4, s5, s6, s7, s8, s9, s10, s11⟩
           go_simp
           with_reducible rfl
          rotate_left
          ·simp only [Act.put, List.setIfInBounds_toArray, List.set_cons_zero, List.set_cons_succ, i64_w, i32_w]
           rfl
          refine take_ (i := 3) (N := some 115) (v := ?_) (a' := ?_) #[true, true, true, true, true, false, false, false, false, false, false, false, false] rfl rfl (take_ofW HT_.out HW_.out kk) (fun _ _ _ h => h) (Or.inl ⟨by rfl, ?_⟩) hHeld ?_ ?_
          rotate_left
          ·rintro w' ⟨s0, s1, s2, s3, s4, s5, s6, s7, s8, s9, s10, s11⟩
           go_simp
           with_reducible rfl
          rotate_left
          ·simp only [Act.put, List.setIfInBounds_toArray, List.set_cons_zero, List.set_cons_succ, i64_w, i32_w]
           rfl
          refine one_ (i := 5) (N := some 117) #[true, true, true, true, true, true, false, false, false, false, false, false, false] rfl rfl (one_of HT_.out kk) (by decide) (fun K hK => ?_)
          refine goes_ Tryd.func43 kk rfl #[.agg #[.bool a0_0, .bool a0_1, .int .i64 a0_2, .int .i64 a0_3], .agg #[.bool a1_0, .bool a1_1, .int .i64 a1_2, .int .i64 a1_3], .slice A2 l2.length c2] (by rfl) rfl rfl (by (try simp only [List.map_toArray, List.map_cons, List.map_nil]); first | done | rfl | (simp only [List.length_drop, List.length_take]; rfl)) ?_
          with_reducible refine (R2_WidenedOf.calls kj29 a0_0 a0_1 a0_2 a0_3 a1_0 a1_1 a1_2 a1_3 _ _ l2 t201 t202 t203 t204 _ ?side1 ?side2 A175.out).mono ?_
          (case side1 => repeat (first | exact (Kd.C_below HR2.out HB.out) | (with_reducible refine Kd.C_alloc ?_ _) | (with_reducible refine Kd.C_drewN ?_ _) | (with_reducible refine Kd.C_drew ?_)))
          (case side2 => exact HC2.out)
          rintro e w190 ⟨rfl, hb⟩
          refine ⟨_, rfl, ?_⟩
          have n0_ := bb BK177 hb
          have n1_ := bb BK178 hb
          have n2_ := bb BK191 hb
          have n3_ := bb BK197 hb
          have n4_ := bb BK198 hb
          have n5_ := am (below_step pw hb)
          clear BK177 BK178 BK191 BK197 BK198 HB
          revert n0_ n1_ n2_ n3_ n4_ n5_
          intro BK177 BK178 BK191 BK197 BK198 HB
          (try clear hb)
          (try clear hb2)
          (try clear hk)
          (try clear hi)
          have CA176 := fun (W : World) (hE9_ : ErrAll W) => L2_isSpan.calls t186 t187 t188 t189 t190 t201 t202 t203 t204 0 true W A176.out hE9_
          try simp only [errW_none, errW_some] at CA176
          refine hK.out _ _ ⟨bc BK191 0, bc BK191 1, bc BK191 2, bc BK191 3, bc BK177 0, bc BK177 1, bc BK177 2, bc BK177 3, bc BK178 0, bc BK178 1, bc BK178 2, bc BK178 3⟩ (fun hHeld => ?_)
          clear hK K
          refine norm_ (a' := ?_) ?_ ?_
          rotate_left
          ·show Act.put _ (some 117) _ = _
           simp only [Act.put, List.setIfInBounds_toArray, List.set_cons_zero, List.set_cons_succ, i64_w, i32_w]
           rfl
          refine one_ (i := 6) (N := some 118) #[true, true, true, true, true, true, true, false, false, false, false, false, false] rfl rfl (one_of HT_.out kk) (by decide) (fun K hK => ?_)
          refine goes_ Tryd.func36 kk rfl #[.agg #[.bool t186, .bool t187, .int .i64 t188, .int .i64 t189], errW t190, .agg #[.bool t201, .bool t202, .int .i64 t203, .int .i64 t204], .int .i64 0] (by rfl) rfl rfl (by (try simp only [List.map_toArray, List.map_cons, List.map_nil]); first | done | rfl | (simp only [List.length_drop, List.length_take]; rfl)) ?_
          with_reducible refine (CA176 _ (ErrAll.below hE9.out pw)).mono ?_
          rintro e w191 ⟨rfl, hb⟩
          refine ⟨_, rfl, ?_⟩
          have n0_ := bb BK177 hb
          have n1_ := bb BK178 hb
          have n2_ := bb BK191 hb
          have n3_ := bb BK197 hb
          have n4_ := bb BK198 hb
          have n5_ := am (below_step pw hb)
          clear BK177 BK178 BK191 BK197 BK198 HB
          revert n0_ n1_ n2_ n3_ n4_ n5_
          intro BK177 BK178 BK191 BK197 BK198 HB
          (try clear hb)
          (try clear hb2)
          (try clear hk)
          (try clear hi)
          refine hK.out _ _ ⟨bc BK191 0, bc BK191 1, bc BK191 2, bc BK191 3, bc BK177 0, bc BK177 1, bc BK177 2, bc BK177 3, bc BK178 0, bc BK178 1, bc BK178 2, bc BK178 3⟩ (fun hHeld => ?_)
          clear hK K
          refine norm_ (a' := ?_) ?_ ?_
          rotate_left
          ·show Act.put _ (some 118) _ = _
           simp only [Act.put, List.setIfInBounds_toArray, List.set_cons_zero, List.set_cons_succ, i64_w, i32_w]
           rfl
          refine pure_ (i := 7) (N := some 119) (v := ?_) (a' := ?_) #[true, true, true, true, true, true, true, true, false, false, false, false, false] rfl rfl (any_of HT_.out kk) (fun _ _ _ h => h) (Or.inl ⟨by rfl, ?_⟩) ?_ ?_
          rotate_left
          ·intro w'
           go_simp
           with_reducible rfl
          rotate_left
          ·simp only [Act.put, List.setIfInBounds_toArray, List.set_cons_zero, List.set_cons_succ, i64_w, i32_w]
           rfl
          refine take_ (i := 8) (N := some 120) (v := ?_) (a' := ?_) #[true, true, true, true, true, true, true, true, true, false, false, false, false] rfl rfl (take_ofW HT_.out HW_.out kk) (fun _ _ _ h => h) (Or.inl ⟨by rfl, ?_⟩) hHeld ?_ ?_
          rotate_left
          ·rintro w' ⟨s0, s1, s2, s3, s4, s5, s6, s7, s8, s9, s10, s11⟩
           go_simp
           with_reducible rfl
          rotate_left
          ·simp only [Act.put, List.setIfInBounds_toArray, List.set_cons_zero, List.set_cons_succ, i64_w, i32_w]
           rfl
          refine take_ (i := 9) (N := some 121) (v := ?_) (a' := ?_) #[true, true, true, true, true, true, true, true, true, true, false, false, false] rfl rfl (take_ofW HT_.out HW_.out kk) (fun _ _ _ h => h) (Or.inl ⟨by rfl, ?_⟩) hHeld ?_ ?_
          rotate_left
          ·rintro w' ⟨s0, s1, s2, s3, s4, s5, s6, s7, s8, s9, s10, s11⟩
           go_simp
           with_reducible rfl
          rotate_left
          ·simp only [Act.put, List.setIfInBounds_toArray, List.set_cons_zero, List.set_cons_succ, i64_w, i32_w]
           rfl
          refine one_ (i := 10) (N := some 122) #[true, true, true, true, true, true, true, true, true, true, true, false, false] rfl rfl (one_of HT_.out kk) (by decide) (fun K hK => ?_)
          refine goes_ Tryd.func39 kk rfl #[.agg #[.bool a0_0, .bool a0_1, .int .i64 a0_2, .int .i64 a0_3], .agg #[.bool t186, .bool t187, .int .i64 t188, .int .i64 t189]] (by rfl) rfl rfl (by (try simp only [List.map_toArray, List.map_cons, List.map_nil]); first | done | rfl | (simp only [List.length_drop, List.length_take]; rfl)) ?_
          with_reducible refine (R2_InsideOf.calls kj29 a0_0 a0_1 a0_2 a0_3 t186 t187 t188 t189 t206 _ A178.out).mono ?_
          rintro e w192 ⟨rfl, hb⟩
          refine ⟨_, rfl, ?_⟩
          have n0_ := bb BK177 hb
          have n1_ := bb BK178 hb
          have n2_ := bb BK191 hb
          have n3_ := bb BK197 hb
          have n4_ := bb BK198 hb
          have n5_ := am (below_step pw hb)
          clear BK177 BK178 BK191 BK197 BK198 HB
          revert n0_ n1_ n2_ n3_ n4_ n5_
          intro BK177 BK178 BK191 BK197 BK198 HB
          (try clear hb)
          (try clear hb2)
          (try clear hk)
          (try clear hi)
          refine hK.out _ _ ⟨bc BK191 0, bc BK191 1, bc BK191 2, bc BK191 3, bc BK177 0, bc BK177 1, bc BK177 2, bc BK177 3, bc BK178 0, bc BK178 1, bc BK178 2, bc BK178 3⟩ (fun hHeld => ?_)
          clear hK K
          refine norm_ (a' := ?_) ?_ ?_
          rotate_left
          ·show Act.put _ (some 122) _ = _
           simp only [Act.put, List.setIfInBounds_toArray, List.set_cons_zero, List.set_cons_succ, i64_w, i32_w]
           rfl
          refine pure_ (i := 11) (N := some 123) (v := ?_) (a' := ?_) #[true, true, true, true, true, true, true, true, true, true, true, true, false] rfl rfl (any_of HT_.out kk) (fun _ _ _ h => h) (Or.inl ⟨by rfl, ?_⟩) ?_ ?_
          rotate_left
          ·intro w'
           go_simp
           with_reducible rfl
          rotate_left
          ·simp only [Act.put, List.setIfInBounds_toArray, List.set_cons_zero, List.set_cons_succ, i64_w, i32_w]
           rfl
          refine pure_ (i := 12) (N := some 6) (v := ?_) (a' := ?_) #[true, true, true, true, true, true, true, true, true, true, true, true, true] rfl rfl (any_of HT_.out kk) (fun _ _ _ h => h) (Or.inl ⟨by rfl, ?_⟩) ?_ ?_
          rotate_left
          ·intro w'
           go_simp
           with_reducible rfl
          rotate_left
          ·simp only [Act.put, List.setIfInBounds_toArray, List.set_cons_zero, List.set_cons_succ, i64_w, i32_w]
           rfl
          refine done_ (done_of HT_.out kk) ?_
          try go_wp2
          go_ret
          exact ⟨pe, pw⟩
         replace c177 := Bool.eq_false_iff.mpr c177
         subst c177
         have H1 : (none) = some r := by rw [if_neg (show ¬ (false = true) by decide)] at H; exact H
         clear H
         have H := H1
         clear H1
         exact absurd H (by simp)
        replace c158 := Bool.eq_false_iff.mpr c158
        subst c158
        have H1 : (none) = some r := by rw [if_neg (show ¬ (false = true) by decide)] at H; exact H
        clear H
        have H := H1
        clear H1
        exact absurd H (by simp)

end Go.Proofs.YtimgfgambeffeaaDoor.J
