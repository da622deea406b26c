import Derived.Test.YtcalcnfppnbooaaDoorIrEb
import Derived.Test.YtcalcnfppnbooaaDoorIrR0
import Derived.Test.YtcalcnfppnbooaaDoorIrR1
import Derived.Test.YtcalcnfppnbooaaDoorIrR2
import Derived.Test.YtcalcnfppnbooaaDoorIrR3
import Derived.Test.YtcalcnfppnbooaaDoorIrR7
import Derived.Test.YtcalcnfppnbooaaDoorIrR8
import Derived.Test.YtcalcnfppnbooaaDoorIrR9
-- Written by wip/xprint.py (the session's program over the kit's print).
namespace Go.Proofs.YtcalcnfppnbooaaDoor.R
open Go.RowKit Go.Proofs.YtcalcnfppnbooaaDoorW.PrintWords Go.Proofs.YtcalcnfppnbooaaDoorW.PrintLast Go.Proofs.YtcalcnfppnbooaaDoorW.PrintMore Go.Proofs.Rcg
attribute [local go_sem] max2_int min2_int max_two min_two max_three min_three max_four min_four   -- for this text's walks alone
set_option linter.unusedVariables false
set_option linter.unusedSimpArgs false

attribute [local go_sem high] eqA49
/-! ### L2_IntervalRefine: function 4 -/
mutual
def L2_IntervalRefine.j0 : Nat → ByteArray → Bool → Bool → Bool → Bool → Int → Int → Bool → Bool → Int → Int → Option (Bool)
 | 0, _, _, _, _, _, _, _, _, _, _, _ => none
 | k + 1, x2, x7, x29, x226000, x226001, x226002, x226003, x227000, x227001, x227002, x227003 => if x29 = true then (some x7) else ((R2_TwoIntervals.f k x226000 x226001 x226002 x226003 x227000 x227001 x227002 x227003).bind fun t228 => (if x2.toList = ([60] : List UInt8) then (L2_IntervalRefine.j1 k x2 t228 true x226000 x226001 x226002 x226003 x227000 x227001 x227002 x227003) else (if x2.toList = ([60, 61] : List UInt8) then (L2_IntervalRefine.j1 k x2 t228 true x226000 x226001 x226002 x226003 x227000 x227001 x227002 x227003) else (if x2.toList = ([61] : List UInt8) then (L2_IntervalRefine.j1 k x2 t228 true x226000 x226001 x226002 x226003 x227000 x227001 x227002 x227003) else (if x2.toList = ([33, 61] : List UInt8) then (L2_IntervalRefine.j1 k x2 t228 true x226000 x226001 x226002 x226003 x227000 x227001 x227002 x227003) else (if x2.toList = ([62] : List UInt8) then (L2_IntervalRefine.j1 k x2 t228 true x226000 x226001 x226002 x226003 x227000 x227001 x227002 x227003) else (L2_IntervalRefine.j1 k x2 t228 (x2.toList == ([62, 61] : List UInt8)) x226000 x226001 x226002 x226003 x227000 x227001 x227002 x227003)))))))
def L2_IntervalRefine.j1 : Nat → ByteArray → Int → Bool → Bool → Bool → Int → Int → Bool → Bool → Int → Int → Option (Bool)
 | 0, _, _, _, _, _, _, _, _, _, _, _ => none
 | k + 1, x2, x8, x9, x226000, x226001, x226002, x226003, x227000, x227001, x227002, x227003 => if x8 = 0 then (L2_IntervalRefine.j2 k x2 x8 (!x9) x226000 x226001 x226002 x226003 x227000 x227001 x227002 x227003) else (L2_IntervalRefine.j2 k x2 x8 false x226000 x226001 x226002 x226003 x227000 x227001 x227002 x227003)
def L2_IntervalRefine.j2 : Nat → ByteArray → Int → Bool → Bool → Bool → Int → Int → Bool → Bool → Int → Int → Option (Bool)
 | 0, _, _, _, _, _, _, _, _, _, _, _ => none
 | k + 1, x2, x8, x61, x226000, x226001, x226002, x226003, x227000, x227001, x227002, x227003 => if x61 = true then (L2_IntervalRefine.j3 k x2 1 x226000 x226001 x226002 x226003 x227000 x227001 x227002 x227003) else (L2_IntervalRefine.j3 k x2 x8 x226000 x226001 x226002 x226003 x227000 x227001 x227002 x227003)
def L2_IntervalRefine.j3 : Nat → ByteArray → Int → Bool → Bool → Int → Int → Bool → Bool → Int → Int → Option (Bool)
 | 0, _, _, _, _, _, _, _, _, _, _ => none
 | k + 1, x2, x8, x226000, x226001, x226002, x226003, x227000, x227001, x227002, x227003 => (interval_Refine.f k x226000 x226001 x226002 x226003 x227000 x227001 x227002 x227003 x2).bind fun bt229 => (if x8 > 0 then ((L2_isSpan.f bt229.1 bt229.2.1 bt229.2.2.1 bt229.2.2.2.1 bt229.2.2.2.2.2.2.2.2.2 bt229.1 bt229.2.1 bt229.2.2.1 bt229.2.2.2.1 x8).bind fun t241 => (if t241 = true then (if bt229.2.2.2.2.2.2.2.2.1 = true then (none) else (some (!bt229.2.2.2.2.1 && (!bt229.2.2.2.2.2.1 && (bt229.2.2.2.2.2.2.1 == 0 && (bt229.2.2.2.2.2.2.2.1 == 0)))))) else (none))) else (if bt229.2.2.2.2.2.2.2.2.2.isNone = true then ((R2_Small.f x226000 x226001 x226002 x226003 12).bind fun t243 => (if t243 = true then ((R2_Small.f x227000 x227001 x227002 x227003 12).bind fun t244 => (L2_IntervalRefine.j4 k x2 bt229.2.2.2.2.2.2.2.2.1 (!t244) x226000 x226001 x226002 x226003 x227000 x227001 x227002 x227003 bt229.1 bt229.2.1 bt229.2.2.1 bt229.2.2.2.1 bt229.2.2.2.2.1 bt229.2.2.2.2.2.1 bt229.2.2.2.2.2.2.1 bt229.2.2.2.2.2.2.2.1)) else (L2_IntervalRefine.j4 k x2 bt229.2.2.2.2.2.2.2.2.1 true x226000 x226001 x226002 x226003 x227000 x227001 x227002 x227003 bt229.1 bt229.2.1 bt229.2.2.1 bt229.2.2.2.1 bt229.2.2.2.2.1 bt229.2.2.2.2.2.1 bt229.2.2.2.2.2.2.1 bt229.2.2.2.2.2.2.2.1))) else (none)))
def L2_IntervalRefine.j4 : Nat → ByteArray → Bool → Bool → Bool → Bool → Int → Int → Bool → Bool → Int → Int → Bool → Bool → Int → Int → Bool → Bool → Int → Int → Option (Bool)
 | 0, _, _, _, _, _, _, _, _, _, _, _, _, _, _, _, _, _, _, _ => none
 | k + 1, x2, x12, x96, x226000, x226001, x226002, x226003, x227000, x227001, x227002, x227003, x240000, x240001, x240002, x240003, x241000, x241001, x241002, x241003 => if x96 = true then ((R2_IntervalError.f k x240000 x240001 x240002 x240003).bind fun t245 => (if t245 = 0 then ((R2_IntervalError.f k x241000 x241001 x241002 x241003).bind fun t246 => (some (t246 == 0))) else (none))) else (L2_IntervalRefine.l0 k x2 x12 ([] : List Int) ([] : List Int) x226002 x226000 x226001 x226002 x226003 x227000 x227001 x227002 x227003 x240000 x240001 x240002 x240003 x241000 x241001 x241002 x241003)
def L2_IntervalRefine.l0 : Nat → ByteArray → Bool → List Int → List Int → Int → Bool → Bool → Int → Int → Bool → Bool → Int → Int → Bool → Bool → Int → Int → Bool → Bool → Int → Int → Option (Bool)
 | 0, _, _, _, _, _, _, _, _, _, _, _, _, _, _, _, _, _, _, _, _, _ => none
 | k + 1, x2, x12, x14, x15, x16, x226000, x226001, x226002, x226003, x227000, x227001, x227002, x227003, x240000, x240001, x240002, x240003, x241000, x241001, x241002, x241003 => if x16 ≤ x226003 then (L2_IntervalRefine.l1 k x2 x12 x14 x15 x16 x227002 x226000 x226001 x226002 x226003 x227000 x227001 x227002 x227003 x240000 x240001 x240002 x240003 x241000 x241001 x241002 x241003) else ((R2_SpanOf.f k x14).bind fun bt247 => ((R2_SpanOf.f k x15).bind fun bt253 => (if (x12 == bt247.2.2.2.2) = true then (if (x240000 == bt247.1 && (x240001 == bt247.2.1 && (x240002 == bt247.2.2.1 && (x240003 == bt247.2.2.2.1)))) = true then (some (x241000 == bt253.1 && (x241001 == bt253.2.1 && (x241002 == bt253.2.2.1 && (x241003 == bt253.2.2.2.1))))) else (none)) else (none))))
def L2_IntervalRefine.l1 : Nat → ByteArray → Bool → List Int → List Int → Int → Int → Bool → Bool → Int → Int → Bool → Bool → Int → Int → Bool → Bool → Int → Int → Bool → Bool → Int → Int → Option (Bool)
 | 0, _, _, _, _, _, _, _, _, _, _, _, _, _, _, _, _, _, _, _, _, _, _ => none
 | k + 1, x2, x12, x14, x15, x16, x17, x226000, x226001, x226002, x226003, x227000, x227001, x227002, x227003, x240000, x240001, x240002, x240003, x241000, x241001, x241002, x241003 => if x17 ≤ x227003 then ((R2_StandsOf.f k x16 x2 x17).bind fun t259 => (if t259 = true then (if x14.length < 17592186044416 then (if x15.length < 17592186044416 then (L2_IntervalRefine.l1 k x2 x12 (x14 ++ [x16]) (x15 ++ [x17]) x16 (wrap64 (x17 + 1)) x226000 x226001 x226002 x226003 x227000 x227001 x227002 x227003 x240000 x240001 x240002 x240003 x241000 x241001 x241002 x241003) else (none)) else (none)) else (L2_IntervalRefine.l1 k x2 x12 x14 x15 x16 (wrap64 (x17 + 1)) x226000 x226001 x226002 x226003 x227000 x227001 x227002 x227003 x240000 x240001 x240002 x240003 x241000 x241001 x241002 x241003))) else (L2_IntervalRefine.l0 k x2 x12 x14 x15 (wrap64 (x16 + 1)) x226000 x226001 x226002 x226003 x227000 x227001 x227002 x227003 x240000 x240001 x240002 x240003 x241000 x241001 x241002 x241003)
end
def L2_IntervalRefine.f (k : Nat) (a0_0 : Bool) (a0_1 : Bool) (a0_2 : Int) (a0_3 : Int) (a1_0 : Bool) (a1_1 : Bool) (a1_2 : Int) (a1_3 : Int) (a2 : ByteArray) : Option (Bool) := (L2_three.f k).bind fun t227 => (if t227 = true then (L2_IntervalRefine.j0 k a2 t227 (decide ((a2.size : Int) > 100)) a0_0 a0_1 a0_2 a0_3 a1_0 a1_1 a1_2 a1_3) else (L2_IntervalRefine.j0 k a2 t227 true a0_0 a0_1 a0_2 a0_3 a1_0 a1_1 a1_2 a1_3))
theorem L2_IntervalRefine.mono_l : ∀ k, (∀ y0 y1 y2 y3 y4 y5 y6 y7 y8 y9 y10, LeO (L2_IntervalRefine.j0 k y0 y1 y2 y3 y4 y5 y6 y7 y8 y9 y10) (L2_IntervalRefine.j0 (k + 1) y0 y1 y2 y3 y4 y5 y6 y7 y8 y9 y10)) ∧ (∀ y0 y1 y2 y3 y4 y5 y6 y7 y8 y9 y10, LeO (L2_IntervalRefine.j1 k y0 y1 y2 y3 y4 y5 y6 y7 y8 y9 y10) (L2_IntervalRefine.j1 (k + 1) y0 y1 y2 y3 y4 y5 y6 y7 y8 y9 y10)) ∧ (∀ y0 y1 y2 y3 y4 y5 y6 y7 y8 y9 y10, LeO (L2_IntervalRefine.j2 k y0 y1 y2 y3 y4 y5 y6 y7 y8 y9 y10) (L2_IntervalRefine.j2 (k + 1) y0 y1 y2 y3 y4 y5 y6 y7 y8 y9 y10)) ∧ (∀ y0 y1 y2 y3 y4 y5 y6 y7 y8 y9, LeO (L2_IntervalRefine.j3 k y0 y1 y2 y3 y4 y5 y6 y7 y8 y9) (L2_IntervalRefine.j3 (k + 1) y0 y1 y2 y3 y4 y5 y6 y7 y8 y9)) ∧ (∀ y0 y1 y2 y3 y4 y5 y6 y7 y8 y9 y10 y11 y12 y13 y14 y15 y16 y17 y18, LeO (L2_IntervalRefine.j4 k y0 y1 y2 y3 y4 y5 y6 y7 y8 y9 y10 y11 y12 y13 y14 y15 y16 y17 y18) (L2_IntervalRefine.j4 (k + 1) y0 y1 y2 y3 y4 y5 y6 y7 y8 y9 y10 y11 y12 y13 y14 y15 y16 y17 y18)) ∧ (∀ y0 y1 y2 y3 y4 y5 y6 y7 y8 y9 y10 y11 y12 y13 y14 y15 y16 y17 y18 y19 y20, LeO (L2_IntervalRefine.l0 k y0 y1 y2 y3 y4 y5 y6 y7 y8 y9 y10 y11 y12 y13 y14 y15 y16 y17 y18 y19 y20) (L2_IntervalRefine.l0 (k + 1) y0 y1 y2 y3 y4 y5 y6 y7 y8 y9 y10 y11 y12 y13 y14 y15 y16 y17 y18 y19 y20)) ∧ (∀ y0 y1 y2 y3 y4 y5 y6 y7 y8 y9 y10 y11 y12 y13 y14 y15 y16 y17 y18 y19 y20 y21, LeO (L2_IntervalRefine.l1 k y0 y1 y2 y3 y4 y5 y6 y7 y8 y9 y10 y11 y12 y13 y14 y15 y16 y17 y18 y19 y20 y21) (L2_IntervalRefine.l1 (k + 1) y0 y1 y2 y3 y4 y5 y6 y7 y8 y9 y10 y11 y12 y13 y14 y15 y16 y17 y18 y19 y20 y21))
 | 0 => ⟨fun _ _ _ _ _ _ _ _ _ _ _ r h => by simp [L2_IntervalRefine.j0] at h, fun _ _ _ _ _ _ _ _ _ _ _ r h => by simp [L2_IntervalRefine.j1] at h, fun _ _ _ _ _ _ _ _ _ _ _ r h => by simp [L2_IntervalRefine.j2] at h, fun _ _ _ _ _ _ _ _ _ _ r h => by simp [L2_IntervalRefine.j3] at h, fun _ _ _ _ _ _ _ _ _ _ _ _ _ _ _ _ _ _ _ r h => by simp [L2_IntervalRefine.j4] at h, fun _ _ _ _ _ _ _ _ _ _ _ _ _ _ _ _ _ _ _ _ _ r h => by simp [L2_IntervalRefine.l0] at h, fun _ _ _ _ _ _ _ _ _ _ _ _ _ _ _ _ _ _ _ _ _ _ r h => by simp [L2_IntervalRefine.l1] at h⟩
 | k + 1 => by
  obtain ⟨ih0, ih1, ih2, ih3, ih4, ih5, ih6⟩ := L2_IntervalRefine.mono_l k
  refine ⟨?_, ?_, ?_, ?_, ?_, ?_, ?_⟩
  ·intro y0 y1 y2 y3 y4 y5 y6 y7 y8 y9 y10
   unfold L2_IntervalRefine.j0
   repeat' first
   | (with_reducible exact ih0 _ _ _ _ _ _ _ _ _ _ _)
   | (with_reducible exact ih1 _ _ _ _ _ _ _ _ _ _ _)
   | (with_reducible exact ih2 _ _ _ _ _ _ _ _ _ _ _)
   | (with_reducible exact ih3 _ _ _ _ _ _ _ _ _ _)
   | (with_reducible exact ih4 _ _ _ _ _ _ _ _ _ _ _ _ _ _ _ _ _ _ _)
   | (with_reducible exact ih5 _ _ _ _ _ _ _ _ _ _ _ _ _ _ _ _ _ _ _ _ _)
   | (with_reducible exact ih6 _ _ _ _ _ _ _ _ _ _ _ _ _ _ _ _ _ _ _ _ _ _)
   | (with_reducible exact L2_three.mono _)
   | (with_reducible exact R2_IntervalError.mono _ _ _ _ _)
   | (with_reducible exact R2_SpanOf.mono _ _)
   | (with_reducible exact R2_StandsOf.mono _ _ _ _)
   | (with_reducible exact R2_TwoIntervals.mono _ _ _ _ _ _ _ _ _)
   | (with_reducible exact interval_Refine.mono _ _ _ _ _ _ _ _ _ _)
   | (with_reducible exact LeO.refl _)
   | (with_reducible exact LeO.none _)
   | (with_reducible refine LeO.ite ?_ ?_)
   | (with_reducible refine LeO.bind ?_ (fun _ => ?_))
   | exact ih0 _ _ _ _ _ _ _ _ _ _ _
   | exact ih1 _ _ _ _ _ _ _ _ _ _ _
   | exact ih2 _ _ _ _ _ _ _ _ _ _ _
   | exact ih3 _ _ _ _ _ _ _ _ _ _
   | exact ih4 _ _ _ _ _ _ _ _ _ _ _ _ _ _ _ _ _ _ _
   | exact ih5 _ _ _ _ _ _ _ _ _ _ _ _ _ _ _ _ _ _ _ _ _
   | exact ih6 _ _ _ _ _ _ _ _ _ _ _ _ _ _ _ _ _ _ _ _ _ _
   | exact L2_three.mono _
   | exact R2_IntervalError.mono _ _ _ _ _
   | exact R2_SpanOf.mono _ _
   | exact R2_StandsOf.mono _ _ _ _
   | exact R2_TwoIntervals.mono _ _ _ _ _ _ _ _ _
   | exact interval_Refine.mono _ _ _ _ _ _ _ _ _ _
   | exact LeO.none _
   | refine LeO.ite ?_ ?_
   | refine LeO.bind ?_ (fun _ => ?_)
  ·intro y0 y1 y2 y3 y4 y5 y6 y7 y8 y9 y10
   unfold L2_IntervalRefine.j1
   repeat' first
   | (with_reducible exact ih0 _ _ _ _ _ _ _ _ _ _ _)
   | (with_reducible exact ih1 _ _ _ _ _ _ _ _ _ _ _)
   | (with_reducible exact ih2 _ _ _ _ _ _ _ _ _ _ _)
   | (with_reducible exact ih3 _ _ _ _ _ _ _ _ _ _)
   | (with_reducible exact ih4 _ _ _ _ _ _ _ _ _ _ _ _ _ _ _ _ _ _ _)
   | (with_reducible exact ih5 _ _ _ _ _ _ _ _ _ _ _ _ _ _ _ _ _ _ _ _ _)
   | (with_reducible exact ih6 _ _ _ _ _ _ _ _ _ _ _ _ _ _ _ _ _ _ _ _ _ _)
   | (with_reducible exact L2_three.mono _)
   | (with_reducible exact R2_IntervalError.mono _ _ _ _ _)
   | (with_reducible exact R2_SpanOf.mono _ _)
   | (with_reducible exact R2_StandsOf.mono _ _ _ _)
   | (with_reducible exact R2_TwoIntervals.mono _ _ _ _ _ _ _ _ _)
   | (with_reducible exact interval_Refine.mono _ _ _ _ _ _ _ _ _ _)
   | (with_reducible exact LeO.refl _)
   | (with_reducible exact LeO.none _)
   | (with_reducible refine LeO.ite ?_ ?_)
   | (with_reducible refine LeO.bind ?_ (fun _ => ?_))
   | exact ih0 _ _ _ _ _ _ _ _ _ _ _
   | exact ih1 _ _ _ _ _ _ _ _ _ _ _
   | exact ih2 _ _ _ _ _ _ _ _ _ _ _
   | exact ih3 _ _ _ _ _ _ _ _ _ _
   | exact ih4 _ _ _ _ _ _ _ _ _ _ _ _ _ _ _ _ _ _ _
   | exact ih5 _ _ _ _ _ _ _ _ _ _ _ _ _ _ _ _ _ _ _ _ _
   | exact ih6 _ _ _ _ _ _ _ _ _ _ _ _ _ _ _ _ _ _ _ _ _ _
   | exact L2_three.mono _
   | exact R2_IntervalError.mono _ _ _ _ _
   | exact R2_SpanOf.mono _ _
   | exact R2_StandsOf.mono _ _ _ _
   | exact R2_TwoIntervals.mono _ _ _ _ _ _ _ _ _
   | exact interval_Refine.mono _ _ _ _ _ _ _ _ _ _
   | exact LeO.none _
   | refine LeO.ite ?_ ?_
   | refine LeO.bind ?_ (fun _ => ?_)
  ·intro y0 y1 y2 y3 y4 y5 y6 y7 y8 y9 y10
   unfold L2_IntervalRefine.j2
   repeat' first
   | (with_reducible exact ih0 _ _ _ _ _ _ _ _ _ _ _)
   | (with_reducible exact ih1 _ _ _ _ _ _ _ _ _ _ _)
   | (with_reducible exact ih2 _ _ _ _ _ _ _ _ _ _ _)
   | (with_reducible exact ih3 _ _ _ _ _ _ _ _ _ _)
   | (with_reducible exact ih4 _ _ _ _ _ _ _ _ _ _ _ _ _ _ _ _ _ _ _)
   | (with_reducible exact ih5 _ _ _ _ _ _ _ _ _ _ _ _ _ _ _ _ _ _ _ _ _)
   | (with_reducible exact ih6 _ _ _ _ _ _ _ _ _ _ _ _ _ _ _ _ _ _ _ _ _ _)
   | (with_reducible exact L2_three.mono _)
   | (with_reducible exact R2_IntervalError.mono _ _ _ _ _)
   | (with_reducible exact R2_SpanOf.mono _ _)
   | (with_reducible exact R2_StandsOf.mono _ _ _ _)
   | (with_reducible exact R2_TwoIntervals.mono _ _ _ _ _ _ _ _ _)
   | (with_reducible exact interval_Refine.mono _ _ _ _ _ _ _ _ _ _)
   | (with_reducible exact LeO.refl _)
   | (with_reducible exact LeO.none _)
   | (with_reducible refine LeO.ite ?_ ?_)
   | (with_reducible refine LeO.bind ?_ (fun _ => ?_))
   | exact ih0 _ _ _ _ _ _ _ _ _ _ _
   | exact ih1 _ _ _ _ _ _ _ _ _ _ _
   | exact ih2 _ _ _ _ _ _ _ _ _ _ _
   | exact ih3 _ _ _ _ _ _ _ _ _ _
   | exact ih4 _ _ _ _ _ _ _ _ _ _ _ _ _ _ _ _ _ _ _
   | exact ih5 _ _ _ _ _ _ _ _ _ _ _ _ _ _ _ _ _ _ _ _ _
   | exact ih6 _ _ _ _ _ _ _ _ _ _ _ _ _ _ _ _ _ _ _ _ _ _
   | exact L2_three.mono _
   | exact R2_IntervalError.mono _ _ _ _ _
   | exact R2_SpanOf.mono _ _
   | exact R2_StandsOf.mono _ _ _ _
   | exact R2_TwoIntervals.mono _ _ _ _ _ _ _ _ _
   | exact interval_Refine.mono _ _ _ _ _ _ _ _ _ _
   | exact LeO.none _
   | refine LeO.ite ?_ ?_
   | refine LeO.bind ?_ (fun _ => ?_)
  ·intro y0 y1 y2 y3 y4 y5 y6 y7 y8 y9
   unfold L2_IntervalRefine.j3
   repeat' first
   | (with_reducible exact ih0 _ _ _ _ _ _ _ _ _ _ _)
   | (with_reducible exact ih1 _ _ _ _ _ _ _ _ _ _ _)
   | (with_reducible exact ih2 _ _ _ _ _ _ _ _ _ _ _)
   | (with_reducible exact ih3 _ _ _ _ _ _ _ _ _ _)
   | (with_reducible exact ih4 _ _ _ _ _ _ _ _ _ _ _ _ _ _ _ _ _ _ _)
   | (with_reducible exact ih5 _ _ _ _ _ _ _ _ _ _ _ _ _ _ _ _ _ _ _ _ _)
   | (with_reducible exact ih6 _ _ _ _ _ _ _ _ _ _ _ _ _ _ _ _ _ _ _ _ _ _)
   | (with_reducible exact L2_three.mono _)
   | (with_reducible exact R2_IntervalError.mono _ _ _ _ _)
   | (with_reducible exact R2_SpanOf.mono _ _)
   | (with_reducible exact R2_StandsOf.mono _ _ _ _)
   | (with_reducible exact R2_TwoIntervals.mono _ _ _ _ _ _ _ _ _)
   | (with_reducible exact interval_Refine.mono _ _ _ _ _ _ _ _ _ _)
   | (with_reducible exact LeO.refl _)
   | (with_reducible exact LeO.none _)
   | (with_reducible refine LeO.ite ?_ ?_)
   | (with_reducible refine LeO.bind ?_ (fun _ => ?_))
   | exact ih0 _ _ _ _ _ _ _ _ _ _ _
   | exact ih1 _ _ _ _ _ _ _ _ _ _ _
   | exact ih2 _ _ _ _ _ _ _ _ _ _ _
   | exact ih3 _ _ _ _ _ _ _ _ _ _
   | exact ih4 _ _ _ _ _ _ _ _ _ _ _ _ _ _ _ _ _ _ _
   | exact ih5 _ _ _ _ _ _ _ _ _ _ _ _ _ _ _ _ _ _ _ _ _
   | exact ih6 _ _ _ _ _ _ _ _ _ _ _ _ _ _ _ _ _ _ _ _ _ _
   | exact L2_three.mono _
   | exact R2_IntervalError.mono _ _ _ _ _
   | exact R2_SpanOf.mono _ _
   | exact R2_StandsOf.mono _ _ _ _
   | exact R2_TwoIntervals.mono _ _ _ _ _ _ _ _ _
   | exact interval_Refine.mono _ _ _ _ _ _ _ _ _ _
   | exact LeO.none _
   | refine LeO.ite ?_ ?_
   | refine LeO.bind ?_ (fun _ => ?_)
  ·intro y0 y1 y2 y3 y4 y5 y6 y7 y8 y9 y10 y11 y12 y13 y14 y15 y16 y17 y18
   unfold L2_IntervalRefine.j4
   repeat' first
   | (with_reducible exact ih0 _ _ _ _ _ _ _ _ _ _ _)
   | (with_reducible exact ih1 _ _ _ _ _ _ _ _ _ _ _)
   | (with_reducible exact ih2 _ _ _ _ _ _ _ _ _ _ _)
   | (with_reducible exact ih3 _ _ _ _ _ _ _ _ _ _)
   | (with_reducible exact ih4 _ _ _ _ _ _ _ _ _ _ _ _ _ _ _ _ _ _ _)
   | (with_reducible exact ih5 _ _ _ _ _ _ _ _ _ _ _ _ _ _ _ _ _ _ _ _ _)
   | (with_reducible exact ih6 _ _ _ _ _ _ _ _ _ _ _ _ _ _ _ _ _ _ _ _ _ _)
   | (with_reducible exact L2_three.mono _)
   | (with_reducible exact R2_IntervalError.mono _ _ _ _ _)
   | (with_reducible exact R2_SpanOf.mono _ _)
   | (with_reducible exact R2_StandsOf.mono _ _ _ _)
   | (with_reducible exact R2_TwoIntervals.mono _ _ _ _ _ _ _ _ _)
   | (with_reducible exact interval_Refine.mono _ _ _ _ _ _ _ _ _ _)
   | (with_reducible exact LeO.refl _)
   | (with_reducible exact LeO.none _)
   | (with_reducible refine LeO.ite ?_ ?_)
   | (with_reducible refine LeO.bind ?_ (fun _ => ?_))
   | exact ih0 _ _ _ _ _ _ _ _ _ _ _
   | exact ih1 _ _ _ _ _ _ _ _ _ _ _
   | exact ih2 _ _ _ _ _ _ _ _ _ _ _
   | exact ih3 _ _ _ _ _ _ _ _ _ _
   | exact ih4 _ _ _ _ _ _ _ _ _ _ _ _ _ _ _ _ _ _ _
   | exact ih5 _ _ _ _ _ _ _ _ _ _ _ _ _ _ _ _ _ _ _ _ _
   | exact ih6 _ _ _ _ _ _ _ _ _ _ _ _ _ _ _ _ _ _ _ _ _ _
   | exact L2_three.mono _
   | exact R2_IntervalError.mono _ _ _ _ _
   | exact R2_SpanOf.mono _ _
   | exact R2_StandsOf.mono _ _ _ _
   | exact R2_TwoIntervals.mono _ _ _ _ _ _ _ _ _
   | exact interval_Refine.mono _ _ _ _ _ _ _ _ _ _
   | exact LeO.none _
   | refine LeO.ite ?_ ?_
   | refine LeO.bind ?_ (fun _ => ?_)
  ·intro y0 y1 y2 y3 y4 y5 y6 y7 y8 y9 y10 y11 y12 y13 y14 y15 y16 y17 y18 y19 y20
   unfold L2_IntervalRefine.l0
   repeat' first
   | (with_reducible exact ih0 _ _ _ _ _ _ _ _ _ _ _)
   | (with_reducible exact ih1 _ _ _ _ _ _ _ _ _ _ _)
   | (with_reducible exact ih2 _ _ _ _ _ _ _ _ _ _ _)
   | (with_reducible exact ih3 _ _ _ _ _ _ _ _ _ _)
   | (with_reducible exact ih4 _ _ _ _ _ _ _ _ _ _ _ _ _ _ _ _ _ _ _)
   | (with_reducible exact ih5 _ _ _ _ _ _ _ _ _ _ _ _ _ _ _ _ _ _ _ _ _)
   | (with_reducible exact ih6 _ _ _ _ _ _ _ _ _ _ _ _ _ _ _ _ _ _ _ _ _ _)
   | (with_reducible exact L2_three.mono _)
   | (with_reducible exact R2_IntervalError.mono _ _ _ _ _)
   | (with_reducible exact R2_SpanOf.mono _ _)
   | (with_reducible exact R2_StandsOf.mono _ _ _ _)
   | (with_reducible exact R2_TwoIntervals.mono _ _ _ _ _ _ _ _ _)
   | (with_reducible exact interval_Refine.mono _ _ _ _ _ _ _ _ _ _)
   | (with_reducible exact LeO.refl _)
   | (with_reducible exact LeO.none _)
   | (with_reducible refine LeO.ite ?_ ?_)
   | (with_reducible refine LeO.bind ?_ (fun _ => ?_))
   | exact ih0 _ _ _ _ _ _ _ _ _ _ _
   | exact ih1 _ _ _ _ _ _ _ _ _ _ _
   | exact ih2 _ _ _ _ _ _ _ _ _ _ _
   | exact ih3 _ _ _ _ _ _ _ _ _ _
   | exact ih4 _ _ _ _ _ _ _ _ _ _ _ _ _ _ _ _ _ _ _
   | exact ih5 _ _ _ _ _ _ _ _ _ _ _ _ _ _ _ _ _ _ _ _ _
   | exact ih6 _ _ _ _ _ _ _ _ _ _ _ _ _ _ _ _ _ _ _ _ _ _
   | exact L2_three.mono _
   | exact R2_IntervalError.mono _ _ _ _ _
   | exact R2_SpanOf.mono _ _
   | exact R2_StandsOf.mono _ _ _ _
   | exact R2_TwoIntervals.mono _ _ _ _ _ _ _ _ _
   | exact interval_Refine.mono _ _ _ _ _ _ _ _ _ _
   | exact LeO.none _
   | refine LeO.ite ?_ ?_
   | refine LeO.bind ?_ (fun _ => ?_)
  intro y0 y1 y2 y3 y4 y5 y6 y7 y8 y9 y10 y11 y12 y13 y14 y15 y16 y17 y18 y19 y20 y21
  unfold L2_IntervalRefine.l1
  repeat' first
  | (with_reducible exact ih0 _ _ _ _ _ _ _ _ _ _ _)
  | (with_reducible exact ih1 _ _ _ _ _ _ _ _ _ _ _)
  | (with_reducible exact ih2 _ _ _ _ _ _ _ _ _ _ _)
  | (with_reducible exact ih3 _ _ _ _ _ _ _ _ _ _)
  | (with_reducible exact ih4 _ _ _ _ _ _ _ _ _ _ _ _ _ _ _ _ _ _ _)
  | (with_reducible exact ih5 _ _ _ _ _ _ _ _ _ _ _ _ _ _ _ _ _ _ _ _ _)
  | (with_reducible exact ih6 _ _ _ _ _ _ _ _ _ _ _ _ _ _ _ _ _ _ _ _ _ _)
  | (with_reducible exact L2_three.mono _)
  | (with_reducible exact R2_IntervalError.mono _ _ _ _ _)
  | (with_reducible exact R2_SpanOf.mono _ _)
  | (with_reducible exact R2_StandsOf.mono _ _ _ _)
  | (with_reducible exact R2_TwoIntervals.mono _ _ _ _ _ _ _ _ _)
  | (with_reducible exact interval_Refine.mono _ _ _ _ _ _ _ _ _ _)
  | (with_reducible exact LeO.refl _)
  | (with_reducible exact LeO.none _)
  | (with_reducible refine LeO.ite ?_ ?_)
  | (with_reducible refine LeO.bind ?_ (fun _ => ?_))
  | exact ih0 _ _ _ _ _ _ _ _ _ _ _
  | exact ih1 _ _ _ _ _ _ _ _ _ _ _
  | exact ih2 _ _ _ _ _ _ _ _ _ _ _
  | exact ih3 _ _ _ _ _ _ _ _ _ _
  | exact ih4 _ _ _ _ _ _ _ _ _ _ _ _ _ _ _ _ _ _ _
  | exact ih5 _ _ _ _ _ _ _ _ _ _ _ _ _ _ _ _ _ _ _ _ _
  | exact ih6 _ _ _ _ _ _ _ _ _ _ _ _ _ _ _ _ _ _ _ _ _ _
  | exact L2_three.mono _
  | exact R2_IntervalError.mono _ _ _ _ _
  | exact R2_SpanOf.mono _ _
  | exact R2_StandsOf.mono _ _ _ _
  | exact R2_TwoIntervals.mono _ _ _ _ _ _ _ _ _
  | exact interval_Refine.mono _ _ _ _ _ _ _ _ _ _
  | exact LeO.none _
  | refine LeO.ite ?_ ?_
  | refine LeO.bind ?_ (fun _ => ?_)
theorem L2_IntervalRefine.mono : ∀ a0 a1 a2 a3 a4 a5 a6 a7 a8 k, LeO (L2_IntervalRefine.f k a0 a1 a2 a3 a4 a5 a6 a7 a8) (L2_IntervalRefine.f (k + 1) a0 a1 a2 a3 a4 a5 a6 a7 a8) := by
 intro a0 a1 a2 a3 a4 a5 a6 a7 a8 k
 obtain ⟨ih0, ih1, ih2, ih3, ih4, ih5, ih6⟩ := L2_IntervalRefine.mono_l k
 unfold L2_IntervalRefine.f
 repeat' first
   | (with_reducible exact ih0 _ _ _ _ _ _ _ _ _ _ _)
   | (with_reducible exact ih1 _ _ _ _ _ _ _ _ _ _ _)
   | (with_reducible exact ih2 _ _ _ _ _ _ _ _ _ _ _)
   | (with_reducible exact ih3 _ _ _ _ _ _ _ _ _ _)
   | (with_reducible exact ih4 _ _ _ _ _ _ _ _ _ _ _ _ _ _ _ _ _ _ _)
   | (with_reducible exact ih5 _ _ _ _ _ _ _ _ _ _ _ _ _ _ _ _ _ _ _ _ _)
   | (with_reducible exact ih6 _ _ _ _ _ _ _ _ _ _ _ _ _ _ _ _ _ _ _ _ _ _)
   | (with_reducible exact L2_three.mono _)
   | (with_reducible exact R2_IntervalError.mono _ _ _ _ _)
   | (with_reducible exact R2_SpanOf.mono _ _)
   | (with_reducible exact R2_StandsOf.mono _ _ _ _)
   | (with_reducible exact R2_TwoIntervals.mono _ _ _ _ _ _ _ _ _)
   | (with_reducible exact interval_Refine.mono _ _ _ _ _ _ _ _ _ _)
   | (with_reducible exact LeO.refl _)
   | (with_reducible exact LeO.none _)
   | (with_reducible refine LeO.ite ?_ ?_)
   | (with_reducible refine LeO.bind ?_ (fun _ => ?_))
   | exact ih0 _ _ _ _ _ _ _ _ _ _ _
   | exact ih1 _ _ _ _ _ _ _ _ _ _ _
   | exact ih2 _ _ _ _ _ _ _ _ _ _ _
   | exact ih3 _ _ _ _ _ _ _ _ _ _
   | exact ih4 _ _ _ _ _ _ _ _ _ _ _ _ _ _ _ _ _ _ _
   | exact ih5 _ _ _ _ _ _ _ _ _ _ _ _ _ _ _ _ _ _ _ _ _
   | exact ih6 _ _ _ _ _ _ _ _ _ _ _ _ _ _ _ _ _ _ _ _ _ _
   | exact L2_three.mono _
   | exact R2_IntervalError.mono _ _ _ _ _
   | exact R2_SpanOf.mono _ _
   | exact R2_StandsOf.mono _ _ _ _
   | exact R2_TwoIntervals.mono _ _ _ _ _ _ _ _ _
   | exact interval_Refine.mono _ _ _ _ _ _ _ _ _ _
   | exact LeO.none _
   | refine LeO.ite ?_ ?_
   | refine LeO.bind ?_ (fun _ => ?_)
set_option maxHeartbeats 8000000 in
set_option maxRecDepth 100000 in
theorem L2_IntervalRefine.calls [EA] (k : Nat) (a0_0 : Bool) (a0_1 : Bool) (a0_2 : Int) (a0_3 : Int) (a1_0 : Bool) (a1_1 : Bool) (a1_2 : Int) (a1_3 : Int) (a2 : ByteArray) (r : Bool) (w : World) (h : L2_IntervalRefine.f k a0_0 a0_1 a0_2 a0_3 a1_0 a1_1 a1_2 a1_3 a2 = some r) (h1_ : ErrAt 1 2 w) (h2_ : ErrAt 2 1 w) (h3_ : ErrAt 3 0 w) (h9_ : ErrAll w) :
  Calls Tryd.prog 4 #[.agg #[.bool a0_0, .bool a0_1, .int .i64 a0_2, .int .i64 a0_3], .agg #[.bool a1_0, .bool a1_1, .int .i64 a1_2, .int .i64 a1_3], .string a2] w fun e w' => e = .returned (.bool r) ∧ Below w.heap.size w w' := by
 have hE1 := am h1_
 clear h1_
 have hE2 := am h2_
 clear h2_
 have hE3 := am h3_
 clear h3_
 have hE9 := am h9_
 clear h9_
 have hu49 := Tryd.underlying49
 have hu32 := Tryd.underlying32
 have HB := am (Below.refl w.heap.size w)
 have H : ((L2_three.f k).bind fun t227 => (if t227 = true then (L2_IntervalRefine.j0 k a2 t227 (decide ((a2.size : Int) > 100)) a0_0 a0_1 a0_2 a0_3 a1_0 a1_1 a1_2 a1_3) else (L2_IntervalRefine.j0 k a2 t227 true a0_0 a0_1 a0_2 a0_3 a1_0 a1_1 a1_2 a1_3))) = some r := h
 clear h
 replace H := Option.bind_eq_some_iff.mp H
 obtain ⟨t227, A40, H⟩ := H
 replace H : (if t227 = true then (L2_IntervalRefine.j0 k a2 t227 (decide ((a2.size : Int) > 100)) a0_0 a0_1 a0_2 a0_3 a1_0 a1_1 a1_2 a1_3) else (L2_IntervalRefine.j0 k a2 t227 true a0_0 a0_1 a0_2 a0_3 a1_0 a1_1 a1_2 a1_3)) = some r := H
 have A4 := am A40
 clear A40
 have HC5 := am H
 clear H
 go_enter Tryd.func4, Tryd.ntmps4
 go_upto_region 2 with (first | ((with_reducible refine gate_dst (N := 3) rfl ?_); (try (refine gate_guard (by rfl) ?_; dsimp only)); refine box_event ?hg (N := 3) ?hd (cs := #[.bool a0_0, .bool a0_1, .int .i64 a0_2, .int .i64 a0_3]) (t := 49) ?hr ?_; (case hd => rfl); (case hg => rfl); (case hr => first | (go_simp; done) | (go_simp; rfl)); intro gb225 hg w6 hbox hb; have n0_ := am (below_step pw hb); have n1_ := am (hbox); have n2_ := am ((by rw [hg]; exact (below_size pw) : w.heap.size ≤ gb225)); have n3_ := am ((by rw [hg]; exact (below_size pw) : w.heap.size ≤ gb225)); clear HB; have HB := n0_; have BK225 := n1_; have GW225 := n2_; have GE225 := n3_; clear n0_ n1_ n2_ n3_; clear hb hbox hg) | ((with_reducible refine gate_dst (N := 4) rfl ?_); (try (refine gate_guard (by rfl) ?_; dsimp only)); refine box_event ?hg (N := 4) ?hd (cs := #[.bool a1_0, .bool a1_1, .int .i64 a1_2, .int .i64 a1_3]) (t := 49) ?hr ?_; (case hd => rfl); (case hg => rfl); (case hr => first | (go_simp; done) | (go_simp; rfl)); intro gb226 hg w7 hbox hb; have n0_ := bb BK225 hb; have n1_ := am (below_step pw hb); have n2_ := am (hbox); have n3_ := am ((by rw [hg]; exact (below_size pw) : w.heap.size ≤ gb226)); have n4_ := am ((by rw [hg]; exact (below_size pw) : w.heap.size ≤ gb226)); have n5_ := am ((by rw [hg]; exact Nat.ne_of_lt (blk_lt pk) : gb225 ≠ gb226)); have n6_ := am ((by rw [hg]; exact Nat.ne_of_gt (blk_lt pk) : gb226 ≠ gb225)); clear BK225; clear HB; have BK225 := n0_; have HB := n1_; have BK226 := n2_; have GW226 := n3_; have GE226 := n4_; have NB225_226 := n5_; have NB226_225 := n6_; clear n0_ n1_ n2_ n3_ n4_ n5_ n6_; clear hb hbox hg) | ((with_reducible refine gate_callee (f := 28) rfl ?_); refine goesL_ (some 22) rfl rfl Tryd.func28 kk rfl #[] rfl (by (try simp only [List.map_toArray, List.map_cons, List.map_nil]); first | done | rfl | (simp only [List.length_drop, List.length_take]; rfl)) ?_; (with_reducible refine (L2_three.calls k  t227 _ A4.out (am (ErrAt.below hE2.out pw)).out (am (ErrAt.below hE3.out pw)).out).mono ?_); rintro e w8 ⟨rfl, hb⟩; refine ⟨_, rfl, ?_⟩; have n0_ := bb BK225 hb; have n1_ := bb BK226 hb; have n2_ := am (below_step pw hb); clear BK225; clear BK226; clear HB; have BK225 := n0_; have BK226 := n1_; have HB := n2_; clear n0_ n1_ n2_; (try clear hb); (try clear hb2); (try clear hk); (try clear hi)))
 (try simp only [Act.put, List.setIfInBounds_toArray, List.set_cons_zero, List.set_cons_succ])
 go_cut [29] (fun v29 wc => ∃ (kq : Nat) (x29_4 : Bool), v29 = .bool x29_4 ∧ Aside0 (L2_IntervalRefine.j0 kq a2 t227 x29_4 a0_0 a0_1 a0_2 a0_3 a1_0 a1_1 a1_2 a1_3 = some r) ∧ Aside0 (kq ≤ k) ∧ Aside0 (wc.heap[gb225]? = some (.cells #[.bool a0_0, .bool a0_1, .int .i64 a0_2, .int .i64 a0_3] 49 (0, 0))) ∧ Aside0 (wc.heap[gb226]? = some (.cells #[.bool a1_0, .bool a1_1, .int .i64 a1_2, .int .i64 a1_3] 49 (0, 0))) ∧ Aside0 (Below w.heap.size w wc))
 case first =>
  have H := HC5.out
  clear HC5
  by_cases c9 : t227 = true
  ·subst c9
   have H1 : (L2_IntervalRefine.j0 k a2 true (decide ((a2.size : Int) > 100)) a0_0 a0_1 a0_2 a0_3 a1_0 a1_1 a1_2 a1_3) = some r := by rw [if_pos rfl] at H; exact H
   clear H
   have H := H1
   clear H1
   have H' := am H
   clear H
   go_wp2
   go_meet
   case rel => exact ⟨_, (decide ((a2.size : Int) > 100)), pr, H', ⟨by first | omega | exact Nat.le_refl _⟩, ⟨pk⟩, ⟨pk⟩, ⟨pw⟩⟩
  replace c9 := Bool.eq_false_iff.mpr c9
  subst c9
  have H1 : (L2_IntervalRefine.j0 k a2 false true a0_0 a0_1 a0_2 a0_3 a1_0 a1_1 a1_2 a1_3) = some r := by rw [if_neg (show ¬ (false = true) by decide)] at H; exact H
  clear H
  have H := H1
  clear H1
  have H' := am H
  clear H
  go_wp2
  go_meet
  case rel => exact ⟨_, (true), pr, H', ⟨by first | omega | exact Nat.le_refl _⟩, ⟨pk⟩, ⟨pk⟩, ⟨pw⟩⟩
 clear HC5
 try clear c2
 try clear p2
 try clear c4
 try clear c9
 obtain ⟨kq, x29_4, rfl, HA, HJ4, BK225, BK226, HB⟩ := hcut
 cases kq with
 | zero => exact absurd HA.out (by simp [L2_IntervalRefine.j0])
 | succ kj4 =>
  have H := HA.out
  clear HA
  simp only [L2_IntervalRefine.j0] at H
  by_cases c10 : x29_4 = true
  ·subst c10
   have H1 : (some t227) = some r := by rw [if_pos rfl] at H; exact H
   clear H
   have H := H1
   clear H1
   obtain rfl := Option.some.inj H
   go_wp2
   go_ret
   exact ⟨pe, pw⟩
  replace c10 := Bool.eq_false_iff.mpr c10
  subst c10
  have H1 : ((R2_TwoIntervals.f kj4 a0_0 a0_1 a0_2 a0_3 a1_0 a1_1 a1_2 a1_3).bind fun t228 => (if a2.toList = ([60] : List UInt8) then (L2_IntervalRefine.j1 kj4 a2 t228 true a0_0 a0_1 a0_2 a0_3 a1_0 a1_1 a1_2 a1_3) else (if a2.toList = ([60, 61] : List UInt8) then (L2_IntervalRefine.j1 kj4 a2 t228 true a0_0 a0_1 a0_2 a0_3 a1_0 a1_1 a1_2 a1_3) else (if a2.toList = ([61] : List UInt8) then (L2_IntervalRefine.j1 kj4 a2 t228 true a0_0 a0_1 a0_2 a0_3 a1_0 a1_1 a1_2 a1_3) else (if a2.toList = ([33, 61] : List UInt8) then (L2_IntervalRefine.j1 kj4 a2 t228 true a0_0 a0_1 a0_2 a0_3 a1_0 a1_1 a1_2 a1_3) else (if a2.toList = ([62] : List UInt8) then (L2_IntervalRefine.j1 kj4 a2 t228 true a0_0 a0_1 a0_2 a0_3 a1_0 a1_1 a1_2 a1_3) else (L2_IntervalRefine.j1 kj4 a2 t228 (a2.toList == ([62, 61] : List UInt8)) a0_0 a0_1 a0_2 a0_3 a1_0 a1_1 a1_2 a1_3))))))) = some r := by rw [if_neg (show ¬ (false = true) by decide)] at H; exact H
  clear H
  have H := H1
  clear H1
  replace H := Option.bind_eq_some_iff.mp H
  obtain ⟨t228, A110, H⟩ := H
  replace H : (if a2.toList = ([60] : List UInt8) then (L2_IntervalRefine.j1 kj4 a2 t228 true a0_0 a0_1 a0_2 a0_3 a1_0 a1_1 a1_2 a1_3) else (if a2.toList = ([60, 61] : List UInt8) then (L2_IntervalRefine.j1 kj4 a2 t228 true a0_0 a0_1 a0_2 a0_3 a1_0 a1_1 a1_2 a1_3) else (if a2.toList = ([61] : List UInt8) then (L2_IntervalRefine.j1 kj4 a2 t228 true a0_0 a0_1 a0_2 a0_3 a1_0 a1_1 a1_2 a1_3) else (if a2.toList = ([33, 61] : List UInt8) then (L2_IntervalRefine.j1 kj4 a2 t228 true a0_0 a0_1 a0_2 a0_3 a1_0 a1_1 a1_2 a1_3) else (if a2.toList = ([62] : List UInt8) then (L2_IntervalRefine.j1 kj4 a2 t228 true a0_0 a0_1 a0_2 a0_3 a1_0 a1_1 a1_2 a1_3) else (L2_IntervalRefine.j1 kj4 a2 t228 (a2.toList == ([62, 61] : List UInt8)) a0_0 a0_1 a0_2 a0_3 a1_0 a1_1 a1_2 a1_3)))))) = some r := H
  have A11 := am A110
  clear A110
  have HC12 := am H
  clear H
  have hnb13 := NB225_226.out
  have hnc13 := NB226_225.out
  have hcz14_0 : wc.cell? ⟨gb225, 0, none⟩ = some (.bool a0_0) := bc BK225 0
  have hcz14_1 : wc.cell? ⟨gb225, 1, none⟩ = some (.bool a0_1) := bc BK225 1
  have hcz14_2 : wc.cell? ⟨gb225, 2, none⟩ = some (.int .i64 a0_2) := bc BK225 2
  have hcz14_3 : wc.cell? ⟨gb225, 3, none⟩ = some (.int .i64 a0_3) := bc BK225 3
  have hfz14_0 := blk_frozen BK225.out 0
  have hfz14_1 := blk_frozen BK225.out 1
  have hfz14_2 := blk_frozen BK225.out 2
  have hfz14_3 := blk_frozen BK225.out 3
  have hcz15_0 : wc.cell? ⟨gb226, 0, none⟩ = some (.bool a1_0) := bc BK226 0
  have hcz15_1 : wc.cell? ⟨gb226, 1, none⟩ = some (.bool a1_1) := bc BK226 1
  have hcz15_2 : wc.cell? ⟨gb226, 2, none⟩ = some (.int .i64 a1_2) := bc BK226 2
  have hcz15_3 : wc.cell? ⟨gb226, 3, none⟩ = some (.int .i64 a1_3) := bc BK226 3
  have hfz15_0 := blk_frozen BK226.out 0
  have hfz15_1 := blk_frozen BK226.out 1
  have hfz15_2 := blk_frozen BK226.out 2
  have hfz15_3 := blk_frozen BK226.out 3
  go_upto_region 5 with (first | ((with_reducible refine gate_callee (f := 29) rfl ?_); refine goesL_ (some 33) rfl rfl Tryd.func29 kk rfl #[.agg #[.bool a0_0, .bool a0_1, .int .i64 a0_2, .int .i64 a0_3], .agg #[.bool a1_0, .bool a1_1, .int .i64 a1_2, .int .i64 a1_3]] rfl (by (try simp only [List.map_toArray, List.map_cons, List.map_nil]); first | done | rfl | (simp only [List.length_drop, List.length_take]; rfl)) ?_; (with_reducible refine (R2_TwoIntervals.calls kj4 a0_0 a0_1 a0_2 a0_3 a1_0 a1_1 a1_2 a1_3 t228 _ A11.out).mono ?_); rintro e w16 ⟨rfl, hb⟩; refine ⟨_, rfl, ?_⟩; have n0_ := bb BK225 hb; have n1_ := bb BK226 hb; have n2_ := am (below_step pw hb); clear BK225; clear BK226; clear HB; have BK225 := n0_; have BK226 := n1_; have HB := n2_; clear n0_ n1_ n2_; (try clear hb); (try clear hb2); (try clear hk); (try clear hi)))
  (try simp only [Act.put, List.setIfInBounds_toArray, List.set_cons_zero, List.set_cons_succ])
  go_cut [9] (fun v9 wc => ∃ (kq : Nat) (x9_11 : Bool), v9 = .bool x9_11 ∧ Aside0 (L2_IntervalRefine.j1 kq a2 t228 x9_11 a0_0 a0_1 a0_2 a0_3 a1_0 a1_1 a1_2 a1_3 = some r) ∧ Aside0 (kq ≤ kj4) ∧ Aside0 (wc.heap[gb225]? = some (.cells #[.bool a0_0, .bool a0_1, .int .i64 a0_2, .int .i64 a0_3] 49 (0, 0))) ∧ Aside0 (wc.heap[gb226]? = some (.cells #[.bool a1_0, .bool a1_1, .int .i64 a1_2, .int .i64 a1_3] 49 (0, 0))) ∧ Aside0 (Below w.heap.size w wc))
  case first =>
   have H := HC12.out
   clear HC12
   by_cases c17 : a2.toList = ([60] : List UInt8)
   ·rw [if_pos c17] at H
    have c17b0 : (a2.toList == ([60] : List UInt8)) = true := beq_iff_eq.mpr c17
    have c17b1 : (a2.toList != ([60] : List UInt8)) = false := bne_eq_false_iff_eq.mpr c17
    clear c17
    (first | rw [c17b0] | (simp only [i64_w, i32_w]; rw [c17b0]) | skip)
    have H' := am H
    clear H
    go_wp2
    go_meet
    case rel => exact ⟨_, (true), pr, H', ⟨by have := HJ4.out; first | omega | exact Nat.le_refl _⟩, ⟨pk⟩, ⟨pk⟩, ⟨pw⟩⟩
   rw [if_neg c17] at H
   have c17b0 : (a2.toList == ([60] : List UInt8)) = false := beq_eq_false_iff_ne.mpr c17
   have c17b1 : (a2.toList != ([60] : List UInt8)) = true := bne_iff_ne.mpr c17
   (first | rw [c17b0] | (simp only [i64_w, i32_w]; rw [c17b0]) | skip)
   by_cases c18 : a2.toList = ([60, 61] : List UInt8)
   ·rw [if_pos c18] at H
    have c18b0 : (a2.toList == ([60, 61] : List UInt8)) = true := beq_iff_eq.mpr c18
    have c18b1 : (a2.toList != ([60, 61] : List UInt8)) = false := bne_eq_false_iff_eq.mpr c18
    clear c18
    have H' := am H
    clear H
    go_wp2
    go_meet
    case rel => exact ⟨_, (true), pr, H', ⟨by have := HJ4.out; first | omega | exact Nat.le_refl _⟩, ⟨pk⟩, ⟨pk⟩, ⟨pw⟩⟩
   rw [if_neg c18] at H
   have c18b0 : (a2.toList == ([60, 61] : List UInt8)) = false := beq_eq_false_iff_ne.mpr c18
   have c18b1 : (a2.toList != ([60, 61] : List UInt8)) = true := bne_iff_ne.mpr c18
   by_cases c19 : a2.toList = ([61] : List UInt8)
   ·rw [if_pos c19] at H
    have c19b0 : (a2.toList == ([61] : List UInt8)) = true := beq_iff_eq.mpr c19
    have c19b1 : (a2.toList != ([61] : List UInt8)) = false := bne_eq_false_iff_eq.mpr c19
    clear c19
    have H' := am H
    clear H
    go_wp2
    go_meet
    case rel => exact ⟨_, (true), pr, H', ⟨by have := HJ4.out; first | omega | exact Nat.le_refl _⟩, ⟨pk⟩, ⟨pk⟩, ⟨pw⟩⟩
   rw [if_neg c19] at H
   have c19b0 : (a2.toList == ([61] : List UInt8)) = false := beq_eq_false_iff_ne.mpr c19
   have c19b1 : (a2.toList != ([61] : List UInt8)) = true := bne_iff_ne.mpr c19
   by_cases c20 : a2.toList = ([33, 61] : List UInt8)
   ·rw [if_pos c20] at H
    have c20b0 : (a2.toList == ([33, 61] : List UInt8)) = true := beq_iff_eq.mpr c20
    have c20b1 : (a2.toList != ([33, 61] : List UInt8)) = false := bne_eq_false_iff_eq.mpr c20
    clear c20
    have H' := am H
    clear H
    go_wp2
    go_meet
    case rel => exact ⟨_, (true), pr, H', ⟨by have := HJ4.out; first | omega | exact Nat.le_refl _⟩, ⟨pk⟩, ⟨pk⟩, ⟨pw⟩⟩
   rw [if_neg c20] at H
   have c20b0 : (a2.toList == ([33, 61] : List UInt8)) = false := beq_eq_false_iff_ne.mpr c20
   have c20b1 : (a2.toList != ([33, 61] : List UInt8)) = true := bne_iff_ne.mpr c20
   by_cases c21 : a2.toList = ([62] : List UInt8)
   ·rw [if_pos c21] at H
    have c21b0 : (a2.toList == ([62] : List UInt8)) = true := beq_iff_eq.mpr c21
    have c21b1 : (a2.toList != ([62] : List UInt8)) = false := bne_eq_false_iff_eq.mpr c21
    clear c21
    have H' := am H
    clear H
    go_wp2
    go_meet
    case rel => exact ⟨_, (true), pr, H', ⟨by have := HJ4.out; first | omega | exact Nat.le_refl _⟩, ⟨pk⟩, ⟨pk⟩, ⟨pw⟩⟩
   rw [if_neg c21] at H
   have c21b0 : (a2.toList == ([62] : List UInt8)) = false := beq_eq_false_iff_ne.mpr c21
   have c21b1 : (a2.toList != ([62] : List UInt8)) = true := bne_iff_ne.mpr c21
   have H' := am H
   clear H
   go_wp2
   go_meet
   case rel => exact ⟨_, ((a2.toList == ([62, 61] : List UInt8))), pr, H', ⟨by have := HJ4.out; first | omega | exact Nat.le_refl _⟩, ⟨pk⟩, ⟨pk⟩, ⟨pw⟩⟩
  clear HC12
  try clear c1
  try clear c2
  try clear p2
  try clear c4
  try clear c9
  try clear c10
  try clear c13
  try clear c17
  try clear c17b0
  try clear c17b1
  try clear c18
  try clear c18b0
  try clear c18b1
  try clear c19
  try clear c19b0
  try clear c19b1
  try clear c20
  try clear c20b0
  try clear c20b1
  try clear c21
  try clear c21b0
  try clear c21b1
  try clear hcz14_0
  try clear hcz14_1
  try clear hcz14_2
  try clear hcz14_3
  try clear hcz15_0
  try clear hcz15_1
  try clear hcz15_2
  try clear hcz15_3
  try clear hfz14_0
  try clear hfz14_1
  try clear hfz14_2
  try clear hfz14_3
  try clear hfz15_0
  try clear hfz15_1
  try clear hfz15_2
  try clear hfz15_3
  try clear p2
  obtain ⟨kq, x9_11, rfl, HA, HJ11, BK225, BK226, HB⟩ := hcut
  cases kq with
  | zero => exact absurd HA.out (by simp [L2_IntervalRefine.j1])
  | succ kj11 =>
   have H := HA.out
   clear HA
   simp only [L2_IntervalRefine.j1] at H
   have HC22 := am H
   clear H
   go_upto_region 6 with (fail)
   go_cut [61] (fun v61 wc => ∃ (kq : Nat) (x61_21 : Bool), v61 = .bool x61_21 ∧ Aside0 (L2_IntervalRefine.j2 kq a2 t228 x61_21 a0_0 a0_1 a0_2 a0_3 a1_0 a1_1 a1_2 a1_3 = some r) ∧ Aside0 (kq ≤ kj11) ∧ Aside0 (wc.heap[gb225]? = some (.cells #[.bool a0_0, .bool a0_1, .int .i64 a0_2, .int .i64 a0_3] 49 (0, 0))) ∧ Aside0 (wc.heap[gb226]? = some (.cells #[.bool a1_0, .bool a1_1, .int .i64 a1_2, .int .i64 a1_3] 49 (0, 0))) ∧ Aside0 (Below w.heap.size w wc))
   case first =>
    have H := HC22.out
    clear HC22
    by_cases c23 : t228 = 0
    ·rw [if_pos c23] at H
     have c23b0 : (t228 == 0) = true := beq_iff_eq.mpr c23
     have c23b1 : (t228 != 0) = false := bne_eq_false_iff_eq.mpr c23
     clear c23
     (first | rw [c23b0] | (simp only [i64_w, i32_w]; rw [c23b0]) | skip)
     have H' := am H
     clear H
     go_wp2
     go_meet
     case rel => exact ⟨_, (!x9_11), pr, H', ⟨by have := HJ4.out; have := HJ11.out; first | omega | exact Nat.le_refl _⟩, ⟨pk⟩, ⟨pk⟩, ⟨pw⟩⟩
    rw [if_neg c23] at H
    have c23b0 : (t228 == 0) = false := beq_eq_false_iff_ne.mpr c23
    have c23b1 : (t228 != 0) = true := bne_iff_ne.mpr c23
    (first | rw [c23b0] | (simp only [i64_w, i32_w]; rw [c23b0]) | skip)
    have H' := am H
    clear H
    go_wp2
    go_meet
    case rel => exact ⟨_, (false), pr, H', ⟨by have := HJ4.out; have := HJ11.out; first | omega | exact Nat.le_refl _⟩, ⟨pk⟩, ⟨pk⟩, ⟨pw⟩⟩
   clear HC22
   try clear c1
   try clear c2
   try clear p2
   try clear c4
   try clear c9
   try clear c10
   try clear c13
   try clear c17
   try clear c17b0
   try clear c17b1
   try clear c18
   try clear c18b0
   try clear c18b1
   try clear c19
   try clear c19b0
   try clear c19b1
   try clear c20
   try clear c20b0
   try clear c20b1
   try clear c21
   try clear c21b0
   try clear c21b1
   try clear c23
   try clear c23b0
   try clear c23b1
   try clear hcz14_0
   try clear hcz14_1
   try clear hcz14_2
   try clear hcz14_3
   try clear hcz15_0
   try clear hcz15_1
   try clear hcz15_2
   try clear hcz15_3
   try clear hfz14_0
   try clear hfz14_1
   try clear hfz14_2
   try clear hfz14_3
   try clear hfz15_0
   try clear hfz15_1
   try clear hfz15_2
   try clear hfz15_3
   try clear p2
   obtain ⟨kq, x61_21, rfl, HA, HJ21, BK225, BK226, HB⟩ := hcut
   cases kq with
   | zero => exact absurd HA.out (by simp [L2_IntervalRefine.j2])
   | succ kj21 =>
    have H := HA.out
    clear HA
    simp only [L2_IntervalRefine.j2] at H
    have HC24 := am H
    clear H
    go_upto_if 61 with (fail)
    go_cut [8] (fun v8 wc => ∃ (kq : Nat) (x8_23 : Int), v8 = .int .i64 x8_23 ∧ Aside0 (L2_IntervalRefine.j3 kq a2 x8_23 a0_0 a0_1 a0_2 a0_3 a1_0 a1_1 a1_2 a1_3 = some r) ∧ Aside0 (kq ≤ kj21) ∧ Aside0 (wc.heap[gb225]? = some (.cells #[.bool a0_0, .bool a0_1, .int .i64 a0_2, .int .i64 a0_3] 49 (0, 0))) ∧ Aside0 (wc.heap[gb226]? = some (.cells #[.bool a1_0, .bool a1_1, .int .i64 a1_2, .int .i64 a1_3] 49 (0, 0))) ∧ Aside0 (Below w.heap.size w wc))
    case first =>
     have H := HC24.out
     clear HC24
     by_cases c25 : x61_21 = true
     ·subst c25
      have H1 : (L2_IntervalRefine.j3 kj21 a2 1 a0_0 a0_1 a0_2 a0_3 a1_0 a1_1 a1_2 a1_3) = some r := by rw [if_pos rfl] at H; exact H
      clear H
      have H := H1
      clear H1
      have H' := am H
      clear H
      go_wp2
      go_meet
      case rel => exact ⟨_, (1), pr, H', ⟨by have := HJ4.out; have := HJ11.out; have := HJ21.out; first | omega | exact Nat.le_refl _⟩, ⟨pk⟩, ⟨pk⟩, ⟨pw⟩⟩
     replace c25 := Bool.eq_false_iff.mpr c25
     subst c25
     have H1 : (L2_IntervalRefine.j3 kj21 a2 t228 a0_0 a0_1 a0_2 a0_3 a1_0 a1_1 a1_2 a1_3) = some r := by rw [if_neg (show ¬ (false = true) by decide)] at H; exact H
     clear H
     have H := H1
     clear H1
     have H' := am H
     clear H
     go_wp2
     go_meet
     case rel => exact ⟨_, (t228), pr, H', ⟨by have := HJ4.out; have := HJ11.out; have := HJ21.out; first | omega | exact Nat.le_refl _⟩, ⟨pk⟩, ⟨pk⟩, ⟨pw⟩⟩
    clear HC24
    try clear c1
    try clear c2
    try clear p2
    try clear c4
    try clear c9
    try clear c10
    try clear c13
    try clear c17
    try clear c17b0
    try clear c17b1
    try clear c18
    try clear c18b0
    try clear c18b1
    try clear c19
    try clear c19b0
    try clear c19b1
    try clear c20
    try clear c20b0
    try clear c20b1
    try clear c21
    try clear c21b0
    try clear c21b1
    try clear c23
    try clear c23b0
    try clear c23b1
    try clear c25
    try clear hcz14_0
    try clear hcz14_1
    try clear hcz14_2
    try clear hcz14_3
    try clear hcz15_0
    try clear hcz15_1
    try clear hcz15_2
    try clear hcz15_3
    try clear hfz14_0
    try clear hfz14_1
    try clear hfz14_2
    try clear hfz14_3
    try clear hfz15_0
    try clear hfz15_1
    try clear hfz15_2
    try clear hfz15_3
    try clear p2
    obtain ⟨kq, x8_23, rfl, HA, HJ23, BK225, BK226, HB⟩ := hcut
    cases kq with
    | zero => exact absurd HA.out (by simp [L2_IntervalRefine.j3])
    | succ kj23 =>
     have H := HA.out
     clear HA
     simp only [L2_IntervalRefine.j3] at H
     replace H := Option.bind_eq_some_iff.mp H
     obtain ⟨⟨t229, t230, t231, t232, t233, t234, t235, t236, t237, t238⟩, A260, H⟩ := H
     replace H : (if x8_23 > 0 then ((L2_isSpan.f t229 t230 t231 t232 t238 t229 t230 t231 t232 x8_23).bind fun t241 => (if t241 = true then (if t237 = true then (none) else (some (!t233 && (!t234 && (t235 == 0 && (t236 == 0)))))) else (none))) else (if t238.isNone = true then ((R2_Small.f a0_0 a0_1 a0_2 a0_3 12).bind fun t243 => (if t243 = true then ((R2_Small.f a1_0 a1_1 a1_2 a1_3 12).bind fun t244 => (L2_IntervalRefine.j4 kj23 a2 t237 (!t244) a0_0 a0_1 a0_2 a0_3 a1_0 a1_1 a1_2 a1_3 t229 t230 t231 t232 t233 t234 t235 t236)) else (L2_IntervalRefine.j4 kj23 a2 t237 true a0_0 a0_1 a0_2 a0_3 a1_0 a1_1 a1_2 a1_3 t229 t230 t231 t232 t233 t234 t235 t236))) else (none))) = some r := H
     have A26 := am A260
     clear A260
     by_cases c27 : x8_23 > 0
     ·rw [if_pos c27] at H
      have c27b0 : decide (0 < x8_23) = true := decide_eq_true c27
      clear c27
      replace H := Option.bind_eq_some_iff.mp H
      obtain ⟨t241, A280, H⟩ := H
      replace H : (if t241 = true then (if t237 = true then (none) else (some (!t233 && (!t234 && (t235 == 0 && (t236 == 0)))))) else (none)) = some r := H
      have A28 := am A280
      clear A280
      by_cases c29 : t241 = true
      ·subst c29
       have H1 : (if t237 = true then (none) else (some (!t233 && (!t234 && (t235 == 0 && (t236 == 0)))))) = some r := by rw [if_pos rfl] at H; exact H
       clear H
       have H := H1
       clear H1
       by_cases c30 : t237 = true
       ·subst c30
        have H1 : (none) = some r := by rw [if_pos rfl] at H; exact H
        clear H
        have H := H1
        clear H1
        exact absurd H (by simp)
       replace c30 := Bool.eq_false_iff.mpr c30
       subst c30
       have H1 : (some (!t233 && (!t234 && (t235 == 0 && (t236 == 0))))) = some r := by rw [if_neg (show ¬ (false = true) by decide)] at H; exact H
       clear H
       have H := H1
       clear H1
       obtain rfl := Option.some.inj H
       have hnb31 := NB225_226.out
       have hnc31 := NB226_225.out
       have hcz32_0 : wc.cell? ⟨gb225, 0, none⟩ = some (.bool a0_0) := bc BK225 0
       have hcz32_1 : wc.cell? ⟨gb225, 1, none⟩ = some (.bool a0_1) := bc BK225 1
       have hcz32_2 : wc.cell? ⟨gb225, 2, none⟩ = some (.int .i64 a0_2) := bc BK225 2
       have hcz32_3 : wc.cell? ⟨gb225, 3, none⟩ = some (.int .i64 a0_3) := bc BK225 3
       have hfz32_0 := blk_frozen BK225.out 0
       have hfz32_1 := blk_frozen BK225.out 1
       have hfz32_2 := blk_frozen BK225.out 2
       have hfz32_3 := blk_frozen BK225.out 3
       have hcz33_0 : wc.cell? ⟨gb226, 0, none⟩ = some (.bool a1_0) := bc BK226 0
       have hcz33_1 : wc.cell? ⟨gb226, 1, none⟩ = some (.bool a1_1) := bc BK226 1
       have hcz33_2 : wc.cell? ⟨gb226, 2, none⟩ = some (.int .i64 a1_2) := bc BK226 2
       have hcz33_3 : wc.cell? ⟨gb226, 3, none⟩ = some (.int .i64 a1_3) := bc BK226 3
       have hfz33_0 := blk_frozen BK226.out 0
       have hfz33_1 := blk_frozen BK226.out 1
       have hfz33_2 := blk_frozen BK226.out 2
       have hfz33_3 := blk_frozen BK226.out 3
       go_wp2_with (first | ((with_reducible refine gate_callee (f := 30) rfl ?_); refine goesL_ (some 66) rfl rfl Tryd.func30 kk rfl #[.agg #[.bool a0_0, .bool a0_1, .int .i64 a0_2, .int .i64 a0_3], .agg #[.bool a1_0, .bool a1_1, .int .i64 a1_2, .int .i64 a1_3], .string a2] rfl (by (try simp only [List.map_toArray, List.map_cons, List.map_nil]); first | done | rfl | (simp only [List.length_drop, List.length_take]; rfl)) ?_; (with_reducible refine (interval_Refine.calls kj23 a0_0 a0_1 a0_2 a0_3 a1_0 a1_1 a1_2 a1_3 a2 t229 t230 t231 t232 t233 t234 t235 t236 false t238 _ A26.out (am (ErrAt.below hE1.out pw)).out (am (ErrAt.below hE2.out pw)).out (am (ErrAt.below hE3.out pw)).out).mono ?_); rintro e w34 ⟨rfl, hb⟩; refine ⟨_, rfl, ?_⟩; have n0_ := bb BK225 hb; have n1_ := bb BK226 hb; have n2_ := am (below_step pw hb); clear BK225; clear BK226; clear HB; have BK225 := n0_; have BK226 := n1_; have HB := n2_; clear n0_ n1_ n2_; (try clear hb); (try clear hb2); (try clear hk); (try clear hi); (try simp only [errW_none, errW_some])) | ((with_reducible refine gate_dst (N := 10) rfl ?_); (try (refine gate_guard (by rfl) ?_; dsimp only)); refine box_event ?hg (N := 10) ?hd (cs := #[.bool false, .bool false, .int .i64 0, .int .i64 0]) (t := 49) ?hr ?_; (case hd => rfl); (case hg => rfl); (case hr => first | (go_simp; done) | (go_simp; rfl)); intro gb239 hg w35 hbox hb; have n0_ := bb BK225 hb; have n1_ := bb BK226 hb; have n2_ := am (below_step pw hb); have n3_ := am (hbox); have n4_ := am ((by rw [hg]; exact (below_size pw) : w.heap.size ≤ gb239)); have n5_ := am ((by rw [hg]; exact (below_size pw) : w.heap.size ≤ gb239)); have n6_ := am ((by rw [hg]; exact Nat.ne_of_lt (blk_lt pk) : gb225 ≠ gb239)); have n7_ := am ((by rw [hg]; exact Nat.ne_of_gt (blk_lt pk) : gb239 ≠ gb225)); have n8_ := am ((by rw [hg]; exact Nat.ne_of_lt (blk_lt pk) : gb226 ≠ gb239)); have n9_ := am ((by rw [hg]; exact Nat.ne_of_gt (blk_lt pk) : gb239 ≠ gb226)); clear BK225; clear BK226; clear HB; have BK225 := n0_; have BK226 := n1_; have HB := n2_; have BK239 := n3_; have GW239 := n4_; have GE239 := n5_; have NB225_239 := n6_; have NB239_225 := n7_; have NB226_239 := n8_; have NB239_226 := n9_; clear n0_ n1_ n2_ n3_ n4_ n5_ n6_ n7_ n8_ n9_; clear hb hbox hg) | ((with_reducible refine gate_dst (N := 11) rfl ?_); (try (refine gate_guard (by rfl) ?_; dsimp only)); refine box_event ?hg (N := 11) ?hd (cs := #[.bool false, .bool false, .int .i64 0, .int .i64 0]) (t := 49) ?hr ?_; (case hd => rfl); (case hg => rfl); (case hr => first | (go_simp; done) | (go_simp; rfl)); intro gb240 hg w36 hbox hb; have n0_ := bb BK225 hb; have n1_ := bb BK226 hb; have n2_ := bb BK239 hb; have n3_ := am (below_step pw hb); have n4_ := am (hbox); have n5_ := am ((by rw [hg]; exact (below_size pw) : w.heap.size ≤ gb240)); have n6_ := am ((by rw [hg]; exact (below_size pw) : w.heap.size ≤ gb240)); have n7_ := am ((by rw [hg]; exact Nat.ne_of_lt (blk_lt pk) : gb225 ≠ gb240)); have n8_ := am ((by rw [hg]; exact Nat.ne_of_gt (blk_lt pk) : gb240 ≠ gb225)); have n9_ := am ((by rw [hg]; exact Nat.ne_of_lt (blk_lt pk) : gb226 ≠ gb240)); have n10_ := am ((by rw [hg]; exact Nat.ne_of_gt (blk_lt pk) : gb240 ≠ gb226)); have n11_ := am ((by rw [hg]; exact Nat.ne_of_lt (blk_lt pk) : gb239 ≠ gb240)); have n12_ := am ((by rw [hg]; exact Nat.ne_of_gt (blk_lt pk) : gb240 ≠ gb239)); clear BK225; clear BK226; clear BK239; clear HB; have BK225 := n0_; have BK226 := n1_; have BK239 := n2_; have HB := n3_; have BK240 := n4_; have GW240 := n5_; have GE240 := n6_; have NB225_240 := n7_; have NB240_225 := n8_; have NB226_240 := n9_; have NB240_226 := n10_; have NB239_240 := n11_; have NB240_239 := n12_; clear n0_ n1_ n2_ n3_ n4_ n5_ n6_ n7_ n8_ n9_ n10_ n11_ n12_; clear hb hbox hg; have hnb37 := NB239_225.out; have hnc37 := NB225_239.out; have hnb38 := NB239_226.out; have hnc38 := NB226_239.out; have hnb39 := NB239_240.out; have hnc39 := NB240_239.out; have hcz40_0 : w36.cell? ⟨gb239, 0, none⟩ = some (.bool false) := bc BK239 0; have hcz40_1 : w36.cell? ⟨gb239, 1, none⟩ = some (.bool false) := bc BK239 1; have hcz40_2 : w36.cell? ⟨gb239, 2, none⟩ = some (.int .i64 0) := bc BK239 2; have hcz40_3 : w36.cell? ⟨gb239, 3, none⟩ = some (.int .i64 0) := bc BK239 3; have hfz40_0 := blk_frozen BK239.out 0; have hfz40_1 := blk_frozen BK239.out 1; have hfz40_2 := blk_frozen BK239.out 2; have hfz40_3 := blk_frozen BK239.out 3; have hnb41 := NB240_225.out; have hnc41 := NB225_240.out; have hnb42 := NB240_226.out; have hnc42 := NB226_240.out; have hcz43_0 : w36.cell? ⟨gb240, 0, none⟩ = some (.bool false) := bc BK240 0; have hcz43_1 : w36.cell? ⟨gb240, 1, none⟩ = some (.bool false) := bc BK240 1; have hcz43_2 : w36.cell? ⟨gb240, 2, none⟩ = some (.int .i64 0) := bc BK240 2; have hcz43_3 : w36.cell? ⟨gb240, 3, none⟩ = some (.int .i64 0) := bc BK240 3; have hfz43_0 := blk_frozen BK240.out 0; have hfz43_1 := blk_frozen BK240.out 1; have hfz43_2 := blk_frozen BK240.out 2; have hfz43_3 := blk_frozen BK240.out 3; have CA28 := fun (W : World) (hE9_ : ErrAll W) => L2_isSpan.calls t229 t230 t231 t232 t238 t229 t230 t231 t232 x8_23 true W A28.out hE9_; try simp only [errW_none, errW_some] at CA28) | (go_at_call 31; (with_reducible refine (CA28 _ (ErrAll.below hE9.out pw)).mono ?_); rintro e w44 ⟨rfl, hb⟩; have n0_ := am (blk_below (g := gb225) (o := .cells #[.bool a0_0, .bool a0_1, .int .i64 a0_2, .int .i64 a0_3] 49 (0, 0)) (by (with_reducible repeat (first | refine blk_drewN ?_ _ | refine blk_drew ?_ | refine blk_alloc ?_ _)); refine blk_far ?_ NB225_240.out _; (with_reducible repeat (first | refine blk_drewN ?_ _ | refine blk_drew ?_ | refine blk_alloc ?_ _)); refine blk_far ?_ NB225_240.out _; (with_reducible repeat (first | refine blk_drewN ?_ _ | refine blk_drew ?_ | refine blk_alloc ?_ _)); refine blk_far ?_ NB225_240.out _; (with_reducible repeat (first | refine blk_drewN ?_ _ | refine blk_drew ?_ | refine blk_alloc ?_ _)); refine blk_far ?_ NB225_240.out _; (with_reducible repeat (first | refine blk_drewN ?_ _ | refine blk_drew ?_ | refine blk_alloc ?_ _)); refine blk_far ?_ NB225_239.out _; (with_reducible repeat (first | refine blk_drewN ?_ _ | refine blk_drew ?_ | refine blk_alloc ?_ _)); refine blk_far ?_ NB225_239.out _; (with_reducible repeat (first | refine blk_drewN ?_ _ | refine blk_drew ?_ | refine blk_alloc ?_ _)); refine blk_far ?_ NB225_239.out _; (with_reducible repeat (first | refine blk_drewN ?_ _ | refine blk_drew ?_ | refine blk_alloc ?_ _)); refine blk_far ?_ NB225_239.out _; (with_reducible repeat (first | refine blk_drewN ?_ _ | refine blk_drew ?_ | refine blk_alloc ?_ _)); exact BK225.out) hb); have n1_ := am (blk_below (g := gb226) (o := .cells #[.bool a1_0, .bool a1_1, .int .i64 a1_2, .int .i64 a1_3] 49 (0, 0)) (by (with_reducible repeat (first | refine blk_drewN ?_ _ | refine blk_drew ?_ | refine blk_alloc ?_ _)); refine blk_far ?_ NB226_240.out _; (with_reducible repeat (first | refine blk_drewN ?_ _ | refine blk_drew ?_ | refine blk_alloc ?_ _)); refine blk_far ?_ NB226_240.out _; (with_reducible repeat (first | refine blk_drewN ?_ _ | refine blk_drew ?_ | refine blk_alloc ?_ _)); refine blk_far ?_ NB226_240.out _; (with_reducible repeat (first | refine blk_drewN ?_ _ | refine blk_drew ?_ | refine blk_alloc ?_ _)); refine blk_far ?_ NB226_240.out _; (with_reducible repeat (first | refine blk_drewN ?_ _ | refine blk_drew ?_ | refine blk_alloc ?_ _)); refine blk_far ?_ NB226_239.out _; (with_reducible repeat (first | refine blk_drewN ?_ _ | refine blk_drew ?_ | refine blk_alloc ?_ _)); refine blk_far ?_ NB226_239.out _; (with_reducible repeat (first | refine blk_drewN ?_ _ | refine blk_drew ?_ | refine blk_alloc ?_ _)); refine blk_far ?_ NB226_239.out _; (with_reducible repeat (first | refine blk_drewN ?_ _ | refine blk_drew ?_ | refine blk_alloc ?_ _)); refine blk_far ?_ NB226_239.out _; (with_reducible repeat (first | refine blk_drewN ?_ _ | refine blk_drew ?_ | refine blk_alloc ?_ _)); exact BK226.out) hb); have n2_ := am (blk_below (g := gb239) (o := .cells #[.bool t229, .bool t230, .int .i64 t231, .int .i64 t232] 49 (0, 0)) (by (with_reducible repeat (first | refine blk_drewN ?_ _ | refine blk_drew ?_ | refine blk_alloc ?_ _)); refine blk_far ?_ NB239_240.out _; (with_reducible repeat (first | refine blk_drewN ?_ _ | refine blk_drew ?_ | refine blk_alloc ?_ _)); refine blk_far ?_ NB239_240.out _; (with_reducible repeat (first | refine blk_drewN ?_ _ | refine blk_drew ?_ | refine blk_alloc ?_ _)); refine blk_far ?_ NB239_240.out _; (with_reducible repeat (first | refine blk_drewN ?_ _ | refine blk_drew ?_ | refine blk_alloc ?_ _)); refine blk_far ?_ NB239_240.out _; (with_reducible repeat (first | refine blk_drewN ?_ _ | refine blk_drew ?_ | refine blk_alloc ?_ _)); refine blk_put (cs := #[.bool t229, .bool t230, .int .i64 t231, .int .i64 0]) ?_ 3 _ rfl; (with_reducible repeat (first | refine blk_drewN ?_ _ | refine blk_drew ?_ | refine blk_alloc ?_ _)); refine blk_put (cs := #[.bool t229, .bool t230, .int .i64 0, .int .i64 0]) ?_ 2 _ rfl; (with_reducible repeat (first | refine blk_drewN ?_ _ | refine blk_drew ?_ | refine blk_alloc ?_ _)); refine blk_put (cs := #[.bool t229, .bool false, .int .i64 0, .int .i64 0]) ?_ 1 _ rfl; (with_reducible repeat (first | refine blk_drewN ?_ _ | refine blk_drew ?_ | refine blk_alloc ?_ _)); refine blk_put (cs := #[.bool false, .bool false, .int .i64 0, .int .i64 0]) ?_ 0 _ rfl; (with_reducible repeat (first | refine blk_drewN ?_ _ | refine blk_drew ?_ | refine blk_alloc ?_ _)); exact BK239.out) hb); have n3_ := am (blk_below (g := gb240) (o := .cells #[.bool t233, .bool t234, .int .i64 t235, .int .i64 t236] 49 (0, 0)) (by (with_reducible repeat (first | refine blk_drewN ?_ _ | refine blk_drew ?_ | refine blk_alloc ?_ _)); refine blk_put (cs := #[.bool t233, .bool t234, .int .i64 t235, .int .i64 0]) ?_ 3 _ rfl; (with_reducible repeat (first | refine blk_drewN ?_ _ | refine blk_drew ?_ | refine blk_alloc ?_ _)); refine blk_put (cs := #[.bool t233, .bool t234, .int .i64 0, .int .i64 0]) ?_ 2 _ rfl; (with_reducible repeat (first | refine blk_drewN ?_ _ | refine blk_drew ?_ | refine blk_alloc ?_ _)); refine blk_put (cs := #[.bool t233, .bool false, .int .i64 0, .int .i64 0]) ?_ 1 _ rfl; (with_reducible repeat (first | refine blk_drewN ?_ _ | refine blk_drew ?_ | refine blk_alloc ?_ _)); refine blk_put (cs := #[.bool false, .bool false, .int .i64 0, .int .i64 0]) ?_ 0 _ rfl; (with_reducible repeat (first | refine blk_drewN ?_ _ | refine blk_drew ?_ | refine blk_alloc ?_ _)); refine blk_far ?_ NB240_239.out _; (with_reducible repeat (first | refine blk_drewN ?_ _ | refine blk_drew ?_ | refine blk_alloc ?_ _)); refine blk_far ?_ NB240_239.out _; (with_reducible repeat (first | refine blk_drewN ?_ _ | refine blk_drew ?_ | refine blk_alloc ?_ _)); refine blk_far ?_ NB240_239.out _; (with_reducible repeat (first | refine blk_drewN ?_ _ | refine blk_drew ?_ | refine blk_alloc ?_ _)); refine blk_far ?_ NB240_239.out _; (with_reducible repeat (first | refine blk_drewN ?_ _ | refine blk_drew ?_ | refine blk_alloc ?_ _)); exact BK240.out) hb); have n4_ := am (below_step pw hb); clear BK225; clear BK226; clear BK239; clear BK240; clear HB; have BK225 := n0_; have BK226 := n1_; have BK239 := n2_; have BK240 := n3_; have HB := n4_; clear n0_ n1_ n2_ n3_ n4_; (try clear hb); (try clear hb2); (try clear hk); (try clear hi); have hcz45_0 : w44.cell? ⟨gb240, 0, none⟩ = some (.bool t233) := bc BK240 0; have hcz45_1 : w44.cell? ⟨gb240, 1, none⟩ = some (.bool t234) := bc BK240 1; have hcz45_2 : w44.cell? ⟨gb240, 2, none⟩ = some (.int .i64 t235) := bc BK240 2; have hcz45_3 : w44.cell? ⟨gb240, 3, none⟩ = some (.int .i64 t236) := bc BK240 3; have hfz45_0 := blk_frozen BK240.out 0; have hfz45_1 := blk_frozen BK240.out 1; have hfz45_2 := blk_frozen BK240.out 2; have hfz45_3 := blk_frozen BK240.out 3))
       go_ret
       exact ⟨pe, pw⟩
      replace c29 := Bool.eq_false_iff.mpr c29
      subst c29
      have H1 : (none) = some r := by rw [if_neg (show ¬ (false = true) by decide)] at H; exact H
      clear H
      have H := H1
      clear H1
      exact absurd H (by simp)
     rw [if_neg c27] at H
     have c27b0 : decide (0 < x8_23) = false := decide_eq_false c27
     clear c27
     rcases t238 with _ | q242
     ·have H1 : ((R2_Small.f a0_0 a0_1 a0_2 a0_3 12).bind fun t243 => (if t243 = true then ((R2_Small.f a1_0 a1_1 a1_2 a1_3 12).bind fun t244 => (L2_IntervalRefine.j4 kj23 a2 t237 (!t244) a0_0 a0_1 a0_2 a0_3 a1_0 a1_1 a1_2 a1_3 t229 t230 t231 t232 t233 t234 t235 t236)) else (L2_IntervalRefine.j4 kj23 a2 t237 true a0_0 a0_1 a0_2 a0_3 a1_0 a1_1 a1_2 a1_3 t229 t230 t231 t232 t233 t234 t235 t236))) = some r := by rw [if_pos (show (none : Option Int).isNone = true by rfl)] at H; exact H
      clear H
      have H := H1
      clear H1
      try simp only [errW_none, errW_some]
      have HC46 := am H
      clear H
      have hnb47 := NB225_226.out
      have hnc47 := NB226_225.out
      have hcz48_0 : wc.cell? ⟨gb225, 0, none⟩ = some (.bool a0_0) := bc BK225 0
      have hcz48_1 : wc.cell? ⟨gb225, 1, none⟩ = some (.bool a0_1) := bc BK225 1
      have hcz48_2 : wc.cell? ⟨gb225, 2, none⟩ = some (.int .i64 a0_2) := bc BK225 2
      have hcz48_3 : wc.cell? ⟨gb225, 3, none⟩ = some (.int .i64 a0_3) := bc BK225 3
      have hfz48_0 := blk_frozen BK225.out 0
      have hfz48_1 := blk_frozen BK225.out 1
      have hfz48_2 := blk_frozen BK225.out 2
      have hfz48_3 := blk_frozen BK225.out 3
      have hcz49_0 : wc.cell? ⟨gb226, 0, none⟩ = some (.bool a1_0) := bc BK226 0
      have hcz49_1 : wc.cell? ⟨gb226, 1, none⟩ = some (.bool a1_1) := bc BK226 1
      have hcz49_2 : wc.cell? ⟨gb226, 2, none⟩ = some (.int .i64 a1_2) := bc BK226 2
      have hcz49_3 : wc.cell? ⟨gb226, 3, none⟩ = some (.int .i64 a1_3) := bc BK226 3
      have hfz49_0 := blk_frozen BK226.out 0
      have hfz49_1 := blk_frozen BK226.out 1
      have hfz49_2 := blk_frozen BK226.out 2
      have hfz49_3 := blk_frozen BK226.out 3
      go_upto_region 13 with (first | ((with_reducible refine gate_callee (f := 30) rfl ?_); refine goesL_ (some 66) rfl rfl Tryd.func30 kk rfl #[.agg #[.bool a0_0, .bool a0_1, .int .i64 a0_2, .int .i64 a0_3], .agg #[.bool a1_0, .bool a1_1, .int .i64 a1_2, .int .i64 a1_3], .string a2] rfl (by (try simp only [List.map_toArray, List.map_cons, List.map_nil]); first | done | rfl | (simp only [List.length_drop, List.length_take]; rfl)) ?_; (with_reducible refine (interval_Refine.calls kj23 a0_0 a0_1 a0_2 a0_3 a1_0 a1_1 a1_2 a1_3 a2 t229 t230 t231 t232 t233 t234 t235 t236 t237 none _ A26.out (am (ErrAt.below hE1.out pw)).out (am (ErrAt.below hE2.out pw)).out (am (ErrAt.below hE3.out pw)).out).mono ?_); rintro e w50 ⟨rfl, hb⟩; refine ⟨_, rfl, ?_⟩; have n0_ := bb BK225 hb; have n1_ := bb BK226 hb; have n2_ := am (below_step pw hb); clear BK225; clear BK226; clear HB; have BK225 := n0_; have BK226 := n1_; have HB := n2_; clear n0_ n1_ n2_; (try clear hb); (try clear hb2); (try clear hk); (try clear hi); (try simp only [errW_none, errW_some])) | ((with_reducible refine gate_dst (N := 10) rfl ?_); (try (refine gate_guard (by rfl) ?_; dsimp only)); refine box_event ?hg (N := 10) ?hd (cs := #[.bool false, .bool false, .int .i64 0, .int .i64 0]) (t := 49) ?hr ?_; (case hd => rfl); (case hg => rfl); (case hr => first | (go_simp; done) | (go_simp; rfl)); intro gb239 hg w51 hbox hb; have n0_ := bb BK225 hb; have n1_ := bb BK226 hb; have n2_ := am (below_step pw hb); have n3_ := am (hbox); have n4_ := am ((by rw [hg]; exact (below_size pw) : w.heap.size ≤ gb239)); have n5_ := am ((by rw [hg]; exact (below_size pw) : w.heap.size ≤ gb239)); have n6_ := am ((by rw [hg]; exact Nat.ne_of_lt (blk_lt pk) : gb225 ≠ gb239)); have n7_ := am ((by rw [hg]; exact Nat.ne_of_gt (blk_lt pk) : gb239 ≠ gb225)); have n8_ := am ((by rw [hg]; exact Nat.ne_of_lt (blk_lt pk) : gb226 ≠ gb239)); have n9_ := am ((by rw [hg]; exact Nat.ne_of_gt (blk_lt pk) : gb239 ≠ gb226)); clear BK225; clear BK226; clear HB; have BK225 := n0_; have BK226 := n1_; have HB := n2_; have BK239 := n3_; have GW239 := n4_; have GE239 := n5_; have NB225_239 := n6_; have NB239_225 := n7_; have NB226_239 := n8_; have NB239_226 := n9_; clear n0_ n1_ n2_ n3_ n4_ n5_ n6_ n7_ n8_ n9_; clear hb hbox hg) | ((with_reducible refine gate_dst (N := 11) rfl ?_); (try (refine gate_guard (by rfl) ?_; dsimp only)); refine box_event ?hg (N := 11) ?hd (cs := #[.bool false, .bool false, .int .i64 0, .int .i64 0]) (t := 49) ?hr ?_; (case hd => rfl); (case hg => rfl); (case hr => first | (go_simp; done) | (go_simp; rfl)); intro gb240 hg w52 hbox hb; have n0_ := bb BK225 hb; have n1_ := bb BK226 hb; have n2_ := bb BK239 hb; have n3_ := am (below_step pw hb); have n4_ := am (hbox); have n5_ := am ((by rw [hg]; exact (below_size pw) : w.heap.size ≤ gb240)); have n6_ := am ((by rw [hg]; exact (below_size pw) : w.heap.size ≤ gb240)); have n7_ := am ((by rw [hg]; exact Nat.ne_of_lt (blk_lt pk) : gb225 ≠ gb240)); have n8_ := am ((by rw [hg]; exact Nat.ne_of_gt (blk_lt pk) : gb240 ≠ gb225)); have n9_ := am ((by rw [hg]; exact Nat.ne_of_lt (blk_lt pk) : gb226 ≠ gb240)); have n10_ := am ((by rw [hg]; exact Nat.ne_of_gt (blk_lt pk) : gb240 ≠ gb226)); have n11_ := am ((by rw [hg]; exact Nat.ne_of_lt (blk_lt pk) : gb239 ≠ gb240)); have n12_ := am ((by rw [hg]; exact Nat.ne_of_gt (blk_lt pk) : gb240 ≠ gb239)); clear BK225; clear BK226; clear BK239; clear HB; have BK225 := n0_; have BK226 := n1_; have BK239 := n2_; have HB := n3_; have BK240 := n4_; have GW240 := n5_; have GE240 := n6_; have NB225_240 := n7_; have NB240_225 := n8_; have NB226_240 := n9_; have NB240_226 := n10_; have NB239_240 := n11_; have NB240_239 := n12_; clear n0_ n1_ n2_ n3_ n4_ n5_ n6_ n7_ n8_ n9_ n10_ n11_ n12_; clear hb hbox hg; have hnb53 := NB239_225.out; have hnc53 := NB225_239.out; have hnb54 := NB239_226.out; have hnc54 := NB226_239.out; have hnb55 := NB239_240.out; have hnc55 := NB240_239.out; have hcz56_0 : w52.cell? ⟨gb239, 0, none⟩ = some (.bool false) := bc BK239 0; have hcz56_1 : w52.cell? ⟨gb239, 1, none⟩ = some (.bool false) := bc BK239 1; have hcz56_2 : w52.cell? ⟨gb239, 2, none⟩ = some (.int .i64 0) := bc BK239 2; have hcz56_3 : w52.cell? ⟨gb239, 3, none⟩ = some (.int .i64 0) := bc BK239 3; have hfz56_0 := blk_frozen BK239.out 0; have hfz56_1 := blk_frozen BK239.out 1; have hfz56_2 := blk_frozen BK239.out 2; have hfz56_3 := blk_frozen BK239.out 3; have hnb57 := NB240_225.out; have hnc57 := NB225_240.out; have hnb58 := NB240_226.out; have hnc58 := NB226_240.out; have hcz59_0 : w52.cell? ⟨gb240, 0, none⟩ = some (.bool false) := bc BK240 0; have hcz59_1 : w52.cell? ⟨gb240, 1, none⟩ = some (.bool false) := bc BK240 1; have hcz59_2 : w52.cell? ⟨gb240, 2, none⟩ = some (.int .i64 0) := bc BK240 2; have hcz59_3 : w52.cell? ⟨gb240, 3, none⟩ = some (.int .i64 0) := bc BK240 3; have hfz59_0 := blk_frozen BK240.out 0; have hfz59_1 := blk_frozen BK240.out 1; have hfz59_2 := blk_frozen BK240.out 2; have hfz59_3 := blk_frozen BK240.out 3))
      (try simp only [Act.put, List.setIfInBounds_toArray, List.set_cons_zero, List.set_cons_succ])
      go_cut [96] (fun v96 wc => ∃ (kq : Nat) (x96_45 : Bool), v96 = .bool x96_45 ∧ Aside0 (L2_IntervalRefine.j4 kq a2 t237 x96_45 a0_0 a0_1 a0_2 a0_3 a1_0 a1_1 a1_2 a1_3 t229 t230 t231 t232 t233 t234 t235 t236 = some r) ∧ Aside0 (kq ≤ kj23) ∧ Aside0 (wc.heap[gb225]? = some (.cells #[.bool a0_0, .bool a0_1, .int .i64 a0_2, .int .i64 a0_3] 49 (0, 0))) ∧ Aside0 (wc.heap[gb226]? = some (.cells #[.bool a1_0, .bool a1_1, .int .i64 a1_2, .int .i64 a1_3] 49 (0, 0))) ∧ Aside0 (wc.heap[gb239]? = some (.cells #[.bool t229, .bool t230, .int .i64 t231, .int .i64 t232] 49 (0, 0))) ∧ Aside0 (wc.heap[gb240]? = some (.cells #[.bool t233, .bool t234, .int .i64 t235, .int .i64 t236] 49 (0, 0))) ∧ Aside0 (Below w.heap.size w wc))
      case first =>
       have H := HC46.out
       clear HC46
       replace H := Option.bind_eq_some_iff.mp H
       obtain ⟨t243, A600, H⟩ := H
       replace H : (if t243 = true then ((R2_Small.f a1_0 a1_1 a1_2 a1_3 12).bind fun t244 => (L2_IntervalRefine.j4 kj23 a2 t237 (!t244) a0_0 a0_1 a0_2 a0_3 a1_0 a1_1 a1_2 a1_3 t229 t230 t231 t232 t233 t234 t235 t236)) else (L2_IntervalRefine.j4 kj23 a2 t237 true a0_0 a0_1 a0_2 a0_3 a1_0 a1_1 a1_2 a1_3 t229 t230 t231 t232 t233 t234 t235 t236)) = some r := H
       have A60 := am A600
       clear A600
       by_cases c61 : t243 = true
       ·subst c61
        have H1 : ((R2_Small.f a1_0 a1_1 a1_2 a1_3 12).bind fun t244 => (L2_IntervalRefine.j4 kj23 a2 t237 (!t244) a0_0 a0_1 a0_2 a0_3 a1_0 a1_1 a1_2 a1_3 t229 t230 t231 t232 t233 t234 t235 t236)) = some r := by rw [if_pos rfl] at H; exact H
        clear H
        have H := H1
        clear H1
        replace H := Option.bind_eq_some_iff.mp H
        obtain ⟨t244, A620, H⟩ := H
        replace H : (L2_IntervalRefine.j4 kj23 a2 t237 (!t244) a0_0 a0_1 a0_2 a0_3 a1_0 a1_1 a1_2 a1_3 t229 t230 t231 t232 t233 t234 t235 t236) = some r := H
        have A62 := am A620
        clear A620
        have H' := am H
        clear H
        have hnb63 := NB225_226.out
        have hnc63 := NB226_225.out
        have hnb64 := NB225_239.out
        have hnc64 := NB239_225.out
        have hnb65 := NB225_240.out
        have hnc65 := NB240_225.out
        have hcz66_0 : w52.cell? ⟨gb225, 0, none⟩ = some (.bool a0_0) := bc BK225 0
        have hcz66_1 : w52.cell? ⟨gb225, 1, none⟩ = some (.bool a0_1) := bc BK225 1
        have hcz66_2 : w52.cell? ⟨gb225, 2, none⟩ = some (.int .i64 a0_2) := bc BK225 2
        have hcz66_3 : w52.cell? ⟨gb225, 3, none⟩ = some (.int .i64 a0_3) := bc BK225 3
        have hfz66_0 := blk_frozen BK225.out 0
        have hfz66_1 := blk_frozen BK225.out 1
        have hfz66_2 := blk_frozen BK225.out 2
        have hfz66_3 := blk_frozen BK225.out 3
        go_wp2_with (first | ((with_reducible refine gate_callee (f := 32) rfl ?_); refine goesL_ (some 90) rfl rfl Tryd.func32 kk rfl #[.agg #[.bool a0_0, .bool a0_1, .int .i64 a0_2, .int .i64 a0_3], .int .i64 12] rfl (by (try simp only [List.map_toArray, List.map_cons, List.map_nil]); first | done | rfl | (simp only [List.length_drop, List.length_take]; rfl)) ?_; (with_reducible refine (R2_Small.calls a0_0 a0_1 a0_2 a0_3 12 true _ A60.out).mono ?_); rintro e w67 ⟨rfl, hb⟩; refine ⟨_, rfl, ?_⟩; have n0_ := am (blk_below (g := gb225) (o := .cells #[.bool a0_0, .bool a0_1, .int .i64 a0_2, .int .i64 a0_3] 49 (0, 0)) (by (with_reducible repeat (first | refine blk_drewN ?_ _ | refine blk_drew ?_ | refine blk_alloc ?_ _)); refine blk_far ?_ NB225_240.out _; (with_reducible repeat (first | refine blk_drewN ?_ _ | refine blk_drew ?_ | refine blk_alloc ?_ _)); refine blk_far ?_ NB225_240.out _; (with_reducible repeat (first | refine blk_drewN ?_ _ | refine blk_drew ?_ | refine blk_alloc ?_ _)); refine blk_far ?_ NB225_240.out _; (with_reducible repeat (first | refine blk_drewN ?_ _ | refine blk_drew ?_ | refine blk_alloc ?_ _)); refine blk_far ?_ NB225_240.out _; (with_reducible repeat (first | refine blk_drewN ?_ _ | refine blk_drew ?_ | refine blk_alloc ?_ _)); refine blk_far ?_ NB225_239.out _; (with_reducible repeat (first | refine blk_drewN ?_ _ | refine blk_drew ?_ | refine blk_alloc ?_ _)); refine blk_far ?_ NB225_239.out _; (with_reducible repeat (first | refine blk_drewN ?_ _ | refine blk_drew ?_ | refine blk_alloc ?_ _)); refine blk_far ?_ NB225_239.out _; (with_reducible repeat (first | refine blk_drewN ?_ _ | refine blk_drew ?_ | refine blk_alloc ?_ _)); refine blk_far ?_ NB225_239.out _; (with_reducible repeat (first | refine blk_drewN ?_ _ | refine blk_drew ?_ | refine blk_alloc ?_ _)); exact BK225.out) hb); have n1_ := am (blk_below (g := gb226) (o := .cells #[.bool a1_0, .bool a1_1, .int .i64 a1_2, .int .i64 a1_3] 49 (0, 0)) (by (with_reducible repeat (first | refine blk_drewN ?_ _ | refine blk_drew ?_ | refine blk_alloc ?_ _)); refine blk_far ?_ NB226_240.out _; (with_reducible repeat (first | refine blk_drewN ?_ _ | refine blk_drew ?_ | refine blk_alloc ?_ _)); refine blk_far ?_ NB226_240.out _; (with_reducible repeat (first | refine blk_drewN ?_ _ | refine blk_drew ?_ | refine blk_alloc ?_ _)); refine blk_far ?_ NB226_240.out _; (with_reducible repeat (first | refine blk_drewN ?_ _ | refine blk_drew ?_ | refine blk_alloc ?_ _)); refine blk_far ?_ NB226_240.out _; (with_reducible repeat (first | refine blk_drewN ?_ _ | refine blk_drew ?_ | refine blk_alloc ?_ _)); refine blk_far ?_ NB226_239.out _; (with_reducible repeat (first | refine blk_drewN ?_ _ | refine blk_drew ?_ | refine blk_alloc ?_ _)); refine blk_far ?_ NB226_239.out _; (with_reducible repeat (first | refine blk_drewN ?_ _ | refine blk_drew ?_ | refine blk_alloc ?_ _)); refine blk_far ?_ NB226_239.out _; (with_reducible repeat (first | refine blk_drewN ?_ _ | refine blk_drew ?_ | refine blk_alloc ?_ _)); refine blk_far ?_ NB226_239.out _; (with_reducible repeat (first | refine blk_drewN ?_ _ | refine blk_drew ?_ | refine blk_alloc ?_ _)); exact BK226.out) hb); have n2_ := am (blk_below (g := gb239) (o := .cells #[.bool t229, .bool t230, .int .i64 t231, .int .i64 t232] 49 (0, 0)) (by (with_reducible repeat (first | refine blk_drewN ?_ _ | refine blk_drew ?_ | refine blk_alloc ?_ _)); refine blk_far ?_ NB239_240.out _; (with_reducible repeat (first | refine blk_drewN ?_ _ | refine blk_drew ?_ | refine blk_alloc ?_ _)); refine blk_far ?_ NB239_240.out _; (with_reducible repeat (first | refine blk_drewN ?_ _ | refine blk_drew ?_ | refine blk_alloc ?_ _)); refine blk_far ?_ NB239_240.out _; (with_reducible repeat (first | refine blk_drewN ?_ _ | refine blk_drew ?_ | refine blk_alloc ?_ _)); refine blk_far ?_ NB239_240.out _; (with_reducible repeat (first | refine blk_drewN ?_ _ | refine blk_drew ?_ | refine blk_alloc ?_ _)); refine blk_put (cs := #[.bool t229, .bool t230, .int .i64 t231, .int .i64 0]) ?_ 3 _ rfl; (with_reducible repeat (first | refine blk_drewN ?_ _ | refine blk_drew ?_ | refine blk_alloc ?_ _)); refine blk_put (cs := #[.bool t229, .bool t230, .int .i64 0, .int .i64 0]) ?_ 2 _ rfl; (with_reducible repeat (first | refine blk_drewN ?_ _ | refine blk_drew ?_ | refine blk_alloc ?_ _)); refine blk_put (cs := #[.bool t229, .bool false, .int .i64 0, .int .i64 0]) ?_ 1 _ rfl; (with_reducible repeat (first | refine blk_drewN ?_ _ | refine blk_drew ?_ | refine blk_alloc ?_ _)); refine blk_put (cs := #[.bool false, .bool false, .int .i64 0, .int .i64 0]) ?_ 0 _ rfl; (with_reducible repeat (first | refine blk_drewN ?_ _ | refine blk_drew ?_ | refine blk_alloc ?_ _)); exact BK239.out) hb); have n3_ := am (blk_below (g := gb240) (o := .cells #[.bool t233, .bool t234, .int .i64 t235, .int .i64 t236] 49 (0, 0)) (by (with_reducible repeat (first | refine blk_drewN ?_ _ | refine blk_drew ?_ | refine blk_alloc ?_ _)); refine blk_put (cs := #[.bool t233, .bool t234, .int .i64 t235, .int .i64 0]) ?_ 3 _ rfl; (with_reducible repeat (first | refine blk_drewN ?_ _ | refine blk_drew ?_ | refine blk_alloc ?_ _)); refine blk_put (cs := #[.bool t233, .bool t234, .int .i64 0, .int .i64 0]) ?_ 2 _ rfl; (with_reducible repeat (first | refine blk_drewN ?_ _ | refine blk_drew ?_ | refine blk_alloc ?_ _)); refine blk_put (cs := #[.bool t233, .bool false, .int .i64 0, .int .i64 0]) ?_ 1 _ rfl; (with_reducible repeat (first | refine blk_drewN ?_ _ | refine blk_drew ?_ | refine blk_alloc ?_ _)); refine blk_put (cs := #[.bool false, .bool false, .int .i64 0, .int .i64 0]) ?_ 0 _ rfl; (with_reducible repeat (first | refine blk_drewN ?_ _ | refine blk_drew ?_ | refine blk_alloc ?_ _)); refine blk_far ?_ NB240_239.out _; (with_reducible repeat (first | refine blk_drewN ?_ _ | refine blk_drew ?_ | refine blk_alloc ?_ _)); refine blk_far ?_ NB240_239.out _; (with_reducible repeat (first | refine blk_drewN ?_ _ | refine blk_drew ?_ | refine blk_alloc ?_ _)); refine blk_far ?_ NB240_239.out _; (with_reducible repeat (first | refine blk_drewN ?_ _ | refine blk_drew ?_ | refine blk_alloc ?_ _)); refine blk_far ?_ NB240_239.out _; (with_reducible repeat (first | refine blk_drewN ?_ _ | refine blk_drew ?_ | refine blk_alloc ?_ _)); exact BK240.out) hb); have n4_ := am (below_step pw hb); clear BK225; clear BK226; clear BK239; clear BK240; clear HB; have BK225 := n0_; have BK226 := n1_; have BK239 := n2_; have BK240 := n3_; have HB := n4_; clear n0_ n1_ n2_ n3_ n4_; (try clear hb); (try clear hb2); (try clear hk); (try clear hi); have hnb68 := NB226_239.out; have hnc68 := NB239_226.out; have hnb69 := NB226_240.out; have hnc69 := NB240_226.out; have hcz70_0 : w67.cell? ⟨gb226, 0, none⟩ = some (.bool a1_0) := bc BK226 0; have hcz70_1 : w67.cell? ⟨gb226, 1, none⟩ = some (.bool a1_1) := bc BK226 1; have hcz70_2 : w67.cell? ⟨gb226, 2, none⟩ = some (.int .i64 a1_2) := bc BK226 2; have hcz70_3 : w67.cell? ⟨gb226, 3, none⟩ = some (.int .i64 a1_3) := bc BK226 3; have hfz70_0 := blk_frozen BK226.out 0; have hfz70_1 := blk_frozen BK226.out 1; have hfz70_2 := blk_frozen BK226.out 2; have hfz70_3 := blk_frozen BK226.out 3) | (go_at_call 32; (with_reducible refine (R2_Small.calls a1_0 a1_1 a1_2 a1_3 12 t244 _ A62.out).mono ?_); rintro e w71 ⟨rfl, hb⟩; have n0_ := bb BK225 hb; have n1_ := bb BK226 hb; have n2_ := bb BK239 hb; have n3_ := bb BK240 hb; have n4_ := am (below_step pw hb); clear BK225; clear BK226; clear BK239; clear BK240; clear HB; have BK225 := n0_; have BK226 := n1_; have BK239 := n2_; have BK240 := n3_; have HB := n4_; clear n0_ n1_ n2_ n3_ n4_; (try clear hb); (try clear hb2); (try clear hk); (try clear hi)))
        go_meet
        case rel => exact ⟨_, (!t244), pr, H', ⟨by have := HJ4.out; have := HJ11.out; have := HJ21.out; have := HJ23.out; first | omega | exact Nat.le_refl _⟩, ⟨pk⟩, ⟨pk⟩, ⟨pk⟩, ⟨pk⟩, ⟨pw⟩⟩
       replace c61 := Bool.eq_false_iff.mpr c61
       subst c61
       have H1 : (L2_IntervalRefine.j4 kj23 a2 t237 true a0_0 a0_1 a0_2 a0_3 a1_0 a1_1 a1_2 a1_3 t229 t230 t231 t232 t233 t234 t235 t236) = some r := by rw [if_neg (show ¬ (false = true) by decide)] at H; exact H
       clear H
       have H := H1
       clear H1
       have H' := am H
       clear H
       have hnb72 := NB225_226.out
       have hnc72 := NB226_225.out
       have hnb73 := NB225_239.out
       have hnc73 := NB239_225.out
       have hnb74 := NB225_240.out
       have hnc74 := NB240_225.out
       have hcz75_0 : w52.cell? ⟨gb225, 0, none⟩ = some (.bool a0_0) := bc BK225 0
       have hcz75_1 : w52.cell? ⟨gb225, 1, none⟩ = some (.bool a0_1) := bc BK225 1
       have hcz75_2 : w52.cell? ⟨gb225, 2, none⟩ = some (.int .i64 a0_2) := bc BK225 2
       have hcz75_3 : w52.cell? ⟨gb225, 3, none⟩ = some (.int .i64 a0_3) := bc BK225 3
       have hfz75_0 := blk_frozen BK225.out 0
       have hfz75_1 := blk_frozen BK225.out 1
       have hfz75_2 := blk_frozen BK225.out 2
       have hfz75_3 := blk_frozen BK225.out 3
       go_wp2_with (first | ((with_reducible refine gate_callee (f := 32) rfl ?_); refine goesL_ (some 90) rfl rfl Tryd.func32 kk rfl #[.agg #[.bool a0_0, .bool a0_1, .int .i64 a0_2, .int .i64 a0_3], .int .i64 12] rfl (by (try simp only [List.map_toArray, List.map_cons, List.map_nil]); first | done | rfl | (simp only [List.length_drop, List.length_take]; rfl)) ?_; (with_reducible refine (R2_Small.calls a0_0 a0_1 a0_2 a0_3 12 false _ A60.out).mono ?_); rintro e w76 ⟨rfl, hb⟩; refine ⟨_, rfl, ?_⟩; have n0_ := am (blk_below (g := gb225) (o := .cells #[.bool a0_0, .bool a0_1, .int .i64 a0_2, .int .i64 a0_3] 49 (0, 0)) (by (with_reducible repeat (first | refine blk_drewN ?_ _ | refine blk_drew ?_ | refine blk_alloc ?_ _)); refine blk_far ?_ NB225_240.out _; (with_reducible repeat (first | refine blk_drewN ?_ _ | refine blk_drew ?_ | refine blk_alloc ?_ _)); refine blk_far ?_ NB225_240.out _; (with_reducible repeat (first | refine blk_drewN ?_ _ | refine blk_drew ?_ | refine blk_alloc ?_ _)); refine blk_far ?_ NB225_240.out _; (with_reducible repeat (first | refine blk_drewN ?_ _ | refine blk_drew ?_ | refine blk_alloc ?_ _)); refine blk_far ?_ NB225_240.out _; (with_reducible repeat (first | refine blk_drewN ?_ _ | refine blk_drew ?_ | refine blk_alloc ?_ _)); refine blk_far ?_ NB225_239.out _; (with_reducible repeat (first | refine blk_drewN ?_ _ | refine blk_drew ?_ | refine blk_alloc ?_ _)); refine blk_far ?_ NB225_239.out _; (with_reducible repeat (first | refine blk_drewN ?_ _ | refine blk_drew ?_ | refine blk_alloc ?_ _)); refine blk_far ?_ NB225_239.out _; (with_reducible repeat (first | refine blk_drewN ?_ _ | refine blk_drew ?_ | refine blk_alloc ?_ _)); refine blk_far ?_ NB225_239.out _; (with_reducible repeat (first | refine blk_drewN ?_ _ | refine blk_drew ?_ | refine blk_alloc ?_ _)); exact BK225.out) hb); have n1_ := am (blk_below (g := gb226) (o := .cells #[.bool a1_0, .bool a1_1, .int .i64 a1_2, .int .i64 a1_3] 49 (0, 0)) (by (with_reducible repeat (first | refine blk_drewN ?_ _ | refine blk_drew ?_ | refine blk_alloc ?_ _)); refine blk_far ?_ NB226_240.out _; (with_reducible repeat (first | refine blk_drewN ?_ _ | refine blk_drew ?_ | refine blk_alloc ?_ _)); refine blk_far ?_ NB226_240.out _; (with_reducible repeat (first | refine blk_drewN ?_ _ | refine blk_drew ?_ | refine blk_alloc ?_ _)); refine blk_far ?_ NB226_240.out _; (with_reducible repeat (first | refine blk_drewN ?_ _ | refine blk_drew ?_ | refine blk_alloc ?_ _)); refine blk_far ?_ NB226_240.out _; (with_reducible repeat (first | refine blk_drewN ?_ _ | refine blk_drew ?_ | refine blk_alloc ?_ _)); refine blk_far ?_ NB226_239.out _; (with_reducible repeat (first | refine blk_drewN ?_ _ | refine blk_drew ?_ | refine blk_alloc ?_ _)); refine blk_far ?_ NB226_239.out _; (with_reducible repeat (first | refine blk_drewN ?_ _ | refine blk_drew ?_ | refine blk_alloc ?_ _)); refine blk_far ?_ NB226_239.out _; (with_reducible repeat (first | refine blk_drewN ?_ _ | refine blk_drew ?_ | refine blk_alloc ?_ _)); refine blk_far ?_ NB226_239.out _; (with_reducible repeat (first | refine blk_drewN ?_ _ | refine blk_drew ?_ | refine blk_alloc ?_ _)); exact BK226.out) hb); have n2_ := am (blk_below (g := gb239) (o := .cells #[.bool t229, .bool t230, .int .i64 t231, .int .i64 t232] 49 (0, 0)) (by (with_reducible repeat (first | refine blk_drewN ?_ _ | refine blk_drew ?_ | refine blk_alloc ?_ _)); refine blk_far ?_ NB239_240.out _; (with_reducible repeat (first | refine blk_drewN ?_ _ | refine blk_drew ?_ | refine blk_alloc ?_ _)); refine blk_far ?_ NB239_240.out _; (with_reducible repeat (first | refine blk_drewN ?_ _ | refine blk_drew ?_ | refine blk_alloc ?_ _)); refine blk_far ?_ NB239_240.out _; (with_reducible repeat (first | refine blk_drewN ?_ _ | refine blk_drew ?_ | refine blk_alloc ?_ _)); refine blk_far ?_ NB239_240.out _; (with_reducible repeat (first | refine blk_drewN ?_ _ | refine blk_drew ?_ | refine blk_alloc ?_ _)); refine blk_put (cs := #[.bool t229, .bool t230, .int .i64 t231, .int .i64 0]) ?_ 3 _ rfl; (with_reducible repeat (first | refine blk_drewN ?_ _ | refine blk_drew ?_ | refine blk_alloc ?_ _)); refine blk_put (cs := #[.bool t229, .bool t230, .int .i64 0, .int .i64 0]) ?_ 2 _ rfl; (with_reducible repeat (first | refine blk_drewN ?_ _ | refine blk_drew ?_ | refine blk_alloc ?_ _)); refine blk_put (cs := #[.bool t229, .bool false, .int .i64 0, .int .i64 0]) ?_ 1 _ rfl; (with_reducible repeat (first | refine blk_drewN ?_ _ | refine blk_drew ?_ | refine blk_alloc ?_ _)); refine blk_put (cs := #[.bool false, .bool false, .int .i64 0, .int .i64 0]) ?_ 0 _ rfl; (with_reducible repeat (first | refine blk_drewN ?_ _ | refine blk_drew ?_ | refine blk_alloc ?_ _)); exact BK239.out) hb); have n3_ := am (blk_below (g := gb240) (o := .cells #[.bool t233, .bool t234, .int .i64 t235, .int .i64 t236] 49 (0, 0)) (by (with_reducible repeat (first | refine blk_drewN ?_ _ | refine blk_drew ?_ | refine blk_alloc ?_ _)); refine blk_put (cs := #[.bool t233, .bool t234, .int .i64 t235, .int .i64 0]) ?_ 3 _ rfl; (with_reducible repeat (first | refine blk_drewN ?_ _ | refine blk_drew ?_ | refine blk_alloc ?_ _)); refine blk_put (cs := #[.bool t233, .bool t234, .int .i64 0, .int .i64 0]) ?_ 2 _ rfl; (with_reducible repeat (first | refine blk_drewN ?_ _ | refine blk_drew ?_ | refine blk_alloc ?_ _)); refine blk_put (cs := #[.bool t233, .bool false, .int .i64 0, .int .i64 0]) ?_ 1 _ rfl; (with_reducible repeat (first | refine blk_drewN ?_ _ | refine blk_drew ?_ | refine blk_alloc ?_ _)); refine blk_put (cs := #[.bool false, .bool false, .int .i64 0, .int .i64 0]) ?_ 0 _ rfl; (with_reducible repeat (first | refine blk_drewN ?_ _ | refine blk_drew ?_ | refine blk_alloc ?_ _)); refine blk_far ?_ NB240_239.out _; (with_reducible repeat (first | refine blk_drewN ?_ _ | refine blk_drew ?_ | refine blk_alloc ?_ _)); refine blk_far ?_ NB240_239.out _; (with_reducible repeat (first | refine blk_drewN ?_ _ | refine blk_drew ?_ | refine blk_alloc ?_ _)); refine blk_far ?_ NB240_239.out _; (with_reducible repeat (first | refine blk_drewN ?_ _ | refine blk_drew ?_ | refine blk_alloc ?_ _)); refine blk_far ?_ NB240_239.out _; (with_reducible repeat (first | refine blk_drewN ?_ _ | refine blk_drew ?_ | refine blk_alloc ?_ _)); exact BK240.out) hb); have n4_ := am (below_step pw hb); clear BK225; clear BK226; clear BK239; clear BK240; clear HB; have BK225 := n0_; have BK226 := n1_; have BK239 := n2_; have BK240 := n3_; have HB := n4_; clear n0_ n1_ n2_ n3_ n4_; (try clear hb); (try clear hb2); (try clear hk); (try clear hi)))
       go_meet
       case rel => exact ⟨_, (true), pr, H', ⟨by have := HJ4.out; have := HJ11.out; have := HJ21.out; have := HJ23.out; first | omega | exact Nat.le_refl _⟩, ⟨pk⟩, ⟨pk⟩, ⟨pk⟩, ⟨pk⟩, ⟨pw⟩⟩
      clear HC46
      try clear c1
      try clear c2
      try clear p2
      try clear q2
      try clear c3
      try clear c4
      try clear c5
      try clear c6
      try clear c7
      try clear c9
      try clear c10
      try clear c13
      try clear c17
      try clear c17b0
      try clear c17b1
      try clear c18
      try clear c18b0
      try clear c18b1
      try clear c19
      try clear c19b0
      try clear c19b1
      try clear c20
      try clear c20b0
      try clear c20b1
      try clear c21
      try clear c21b0
      try clear c21b1
      try clear c23
      try clear c23b0
      try clear c23b1
      try clear q24
      try clear c25
      try clear c27
      try clear c27b0
      try clear c28
      try clear c29
      try clear c30
      try clear c31
      try clear c32
      try clear c37
      try clear c38
      try clear c39
      try clear c41
      try clear c42
      try clear c47
      try clear c53
      try clear c54
      try clear c55
      try clear c57
      try clear c58
      try clear c61
      try clear c63
      try clear c64
      try clear c65
      try clear c68
      try clear c69
      try clear c72
      try clear c73
      try clear c74
      try clear hcz14_0
      try clear hcz14_1
      try clear hcz14_2
      try clear hcz14_3
      try clear hcz15_0
      try clear hcz15_1
      try clear hcz15_2
      try clear hcz15_3
      try clear hcz32_0
      try clear hcz32_1
      try clear hcz32_2
      try clear hcz32_3
      try clear hcz33_0
      try clear hcz33_1
      try clear hcz33_2
      try clear hcz33_3
      try clear hcz40_0
      try clear hcz40_1
      try clear hcz40_2
      try clear hcz40_3
      try clear hcz43_0
      try clear hcz43_1
      try clear hcz43_2
      try clear hcz43_3
      try clear hcz45_0
      try clear hcz45_1
      try clear hcz45_2
      try clear hcz45_3
      try clear hcz48_0
      try clear hcz48_1
      try clear hcz48_2
      try clear hcz48_3
      try clear hcz49_0
      try clear hcz49_1
      try clear hcz49_2
      try clear hcz49_3
      try clear hcz56_0
      try clear hcz56_1
      try clear hcz56_2
      try clear hcz56_3
      try clear hcz59_0
      try clear hcz59_1
      try clear hcz59_2
      try clear hcz59_3
      try clear hcz66_0
      try clear hcz66_1
      try clear hcz66_2
      try clear hcz66_3
      try clear hcz70_0
      try clear hcz70_1
      try clear hcz70_2
      try clear hcz70_3
      try clear hcz75_0
      try clear hcz75_1
      try clear hcz75_2
      try clear hcz75_3
      try clear hfz14_0
      try clear hfz14_1
      try clear hfz14_2
      try clear hfz14_3
      try clear hfz15_0
      try clear hfz15_1
      try clear hfz15_2
      try clear hfz15_3
      try clear hfz32_0
      try clear hfz32_1
      try clear hfz32_2
      try clear hfz32_3
      try clear hfz33_0
      try clear hfz33_1
      try clear hfz33_2
      try clear hfz33_3
      try clear hfz40_0
      try clear hfz40_1
      try clear hfz40_2
      try clear hfz40_3
      try clear hfz43_0
      try clear hfz43_1
      try clear hfz43_2
      try clear hfz43_3
      try clear hfz45_0
      try clear hfz45_1
      try clear hfz45_2
      try clear hfz45_3
      try clear hfz48_0
      try clear hfz48_1
      try clear hfz48_2
      try clear hfz48_3
      try clear hfz49_0
      try clear hfz49_1
      try clear hfz49_2
      try clear hfz49_3
      try clear hfz56_0
      try clear hfz56_1
      try clear hfz56_2
      try clear hfz56_3
      try clear hfz59_0
      try clear hfz59_1
      try clear hfz59_2
      try clear hfz59_3
      try clear hfz66_0
      try clear hfz66_1
      try clear hfz66_2
      try clear hfz66_3
      try clear hfz70_0
      try clear hfz70_1
      try clear hfz70_2
      try clear hfz70_3
      try clear hfz75_0
      try clear hfz75_1
      try clear hfz75_2
      try clear hfz75_3
      try clear p2
      try clear q242
      obtain ⟨kq, x96_45, rfl, HA, HJ45, BK225, BK226, BK239, BK240, HB⟩ := hcut
      cases kq with
      | zero => exact absurd HA.out (by simp [L2_IntervalRefine.j4])
      | succ kj45 =>
       have H := HA.out
       clear HA
       simp only [L2_IntervalRefine.j4] at H
       by_cases c77 : x96_45 = true
       ·subst c77
        have H1 : ((R2_IntervalError.f kj45 t229 t230 t231 t232).bind fun t245 => (if t245 = 0 then ((R2_IntervalError.f kj45 t233 t234 t235 t236).bind fun t246 => (some (t246 == 0))) else (none))) = some r := by rw [if_pos rfl] at H; exact H
        clear H
        have H := H1
        clear H1
        replace H := Option.bind_eq_some_iff.mp H
        obtain ⟨t245, A780, H⟩ := H
        replace H : (if t245 = 0 then ((R2_IntervalError.f kj45 t233 t234 t235 t236).bind fun t246 => (some (t246 == 0))) else (none)) = some r := H
        have A78 := am A780
        clear A780
        by_cases c79 : t245 = 0
        ·rw [if_pos c79] at H
         have c79b0 : (t245 == 0) = true := beq_iff_eq.mpr c79
         have c79b1 : (t245 != 0) = false := bne_eq_false_iff_eq.mpr c79
         clear c79
         replace H := Option.bind_eq_some_iff.mp H
         obtain ⟨t246, A800, H⟩ := H
         replace H : (some (t246 == 0)) = some r := H
         have A80 := am A800
         clear A800
         obtain rfl := Option.some.inj H
         have hnb81 := NB239_225.out
         have hnc81 := NB225_239.out
         have hnb82 := NB239_226.out
         have hnc82 := NB226_239.out
         have hnb83 := NB239_240.out
         have hnc83 := NB240_239.out
         have hcz84_0 : wc.cell? ⟨gb239, 0, none⟩ = some (.bool t229) := bc BK239 0
         have hcz84_1 : wc.cell? ⟨gb239, 1, none⟩ = some (.bool t230) := bc BK239 1
         have hcz84_2 : wc.cell? ⟨gb239, 2, none⟩ = some (.int .i64 t231) := bc BK239 2
         have hcz84_3 : wc.cell? ⟨gb239, 3, none⟩ = some (.int .i64 t232) := bc BK239 3
         have hfz84_0 := blk_frozen BK239.out 0
         have hfz84_1 := blk_frozen BK239.out 1
         have hfz84_2 := blk_frozen BK239.out 2
         have hfz84_3 := blk_frozen BK239.out 3
         go_wp2_with (first | ((with_reducible refine gate_callee (f := 33) rfl ?_); refine goesL_ (some 98) rfl rfl Tryd.func33 kk rfl #[.agg #[.bool t229, .bool t230, .int .i64 t231, .int .i64 t232]] rfl (by (try simp only [List.map_toArray, List.map_cons, List.map_nil]); first | done | rfl | (simp only [List.length_drop, List.length_take]; rfl)) ?_; (with_reducible refine (R2_IntervalError.calls kj45 t229 t230 t231 t232 t245 _ A78.out).mono ?_); rintro e w85 ⟨rfl, hb⟩; refine ⟨_, rfl, ?_⟩; have n0_ := bb BK225 hb; have n1_ := bb BK226 hb; have n2_ := bb BK239 hb; have n3_ := bb BK240 hb; have n4_ := am (below_step pw hb); clear BK225; clear BK226; clear BK239; clear BK240; clear HB; have BK225 := n0_; have BK226 := n1_; have BK239 := n2_; have BK240 := n3_; have HB := n4_; clear n0_ n1_ n2_ n3_ n4_; (try clear hb); (try clear hb2); (try clear hk); (try clear hi); have hnb86 := NB240_225.out; have hnc86 := NB225_240.out; have hnb87 := NB240_226.out; have hnc87 := NB226_240.out; have hcz88_0 : w85.cell? ⟨gb240, 0, none⟩ = some (.bool t233) := bc BK240 0; have hcz88_1 : w85.cell? ⟨gb240, 1, none⟩ = some (.bool t234) := bc BK240 1; have hcz88_2 : w85.cell? ⟨gb240, 2, none⟩ = some (.int .i64 t235) := bc BK240 2; have hcz88_3 : w85.cell? ⟨gb240, 3, none⟩ = some (.int .i64 t236) := bc BK240 3; have hfz88_0 := blk_frozen BK240.out 0; have hfz88_1 := blk_frozen BK240.out 1; have hfz88_2 := blk_frozen BK240.out 2; have hfz88_3 := blk_frozen BK240.out 3) | (go_at_call 33; (with_reducible refine (R2_IntervalError.calls kj45 t233 t234 t235 t236 t246 _ A80.out).mono ?_); rintro e w89 ⟨rfl, hb⟩; have n0_ := bb BK225 hb; have n1_ := bb BK226 hb; have n2_ := bb BK239 hb; have n3_ := bb BK240 hb; have n4_ := am (below_step pw hb); clear BK225; clear BK226; clear BK239; clear BK240; clear HB; have BK225 := n0_; have BK226 := n1_; have BK239 := n2_; have BK240 := n3_; have HB := n4_; clear n0_ n1_ n2_ n3_ n4_; (try clear hb); (try clear hb2); (try clear hk); (try clear hi)))
         go_ret
         exact ⟨pe, pw⟩
        rw [if_neg c79] at H
        exact absurd H (by simp)
       replace c77 := Bool.eq_false_iff.mpr c77
       subst c77
       have H1 : (L2_IntervalRefine.l0 kj45 a2 t237 ([] : List Int) ([] : List Int) a0_2 a0_0 a0_1 a0_2 a0_3 a1_0 a1_1 a1_2 a1_3 t229 t230 t231 t232 t233 t234 t235 t236) = some r := by rw [if_neg (show ¬ (false = true) by decide)] at H; exact H
       clear H
       have H := H1
       clear H1
       have H' := am H
       clear H
       have hnb90 := NB225_226.out
       have hnc90 := NB226_225.out
       have hnb91 := NB225_239.out
       have hnc91 := NB239_225.out
       have hnb92 := NB225_240.out
       have hnc92 := NB240_225.out
       have hcz93_0 : wc.cell? ⟨gb225, 0, none⟩ = some (.bool a0_0) := bc BK225 0
       have hcz93_1 : wc.cell? ⟨gb225, 1, none⟩ = some (.bool a0_1) := bc BK225 1
       have hcz93_2 : wc.cell? ⟨gb225, 2, none⟩ = some (.int .i64 a0_2) := bc BK225 2
       have hcz93_3 : wc.cell? ⟨gb225, 3, none⟩ = some (.int .i64 a0_3) := bc BK225 3
       have hfz93_0 := blk_frozen BK225.out 0
       have hfz93_1 := blk_frozen BK225.out 1
       have hfz93_2 := blk_frozen BK225.out 2
       have hfz93_3 := blk_frozen BK225.out 3
       go_wp2
       go_loopg [14, 15, 16] kj45 (fun kq v14 v15 v16 w' => ∃ (x14_6 : List Int) (x15_6 : List Int) (x16_6 : Int), v16 = .int .i64 x16_6 ∧ Aside0 (L2_IntervalRefine.l0 kq a2 t237 x14_6 x15_6 x16_6 a0_0 a0_1 a0_2 a0_3 a1_0 a1_1 a1_2 a1_3 t229 t230 t231 t232 t233 t234 t235 t236 = some r) ∧ Aside0 (kq ≤ kj45) ∧ Aside0 (Kd.R (Kd.int .i64) 3 w' w.heap.size (fun k_ => some k_ ≠ (v15 : Value).ownBlock) v14 x14_6) ∧ Aside0 (Kd.R (Kd.int .i64) 3 w' w.heap.size (fun k_ => some k_ ≠ (v14 : Value).ownBlock) v15 x15_6) ∧ Aside0 (w'.heap[gb225]? = some (.cells #[.bool a0_0, .bool a0_1, .int .i64 a0_2, .int .i64 a0_3] 49 (0, 0))) ∧ Aside0 (w'.heap[gb226]? = some (.cells #[.bool a1_0, .bool a1_1, .int .i64 a1_2, .int .i64 a1_3] 49 (0, 0))) ∧ Aside0 (w'.heap[gb239]? = some (.cells #[.bool t229, .bool t230, .int .i64 t231, .int .i64 t232] 49 (0, 0))) ∧ Aside0 (w'.heap[gb240]? = some (.cells #[.bool t233, .bool t234, .int .i64 t235, .int .i64 t236] 49 (0, 0))) ∧ Aside0 (Below w.heap.size w w'))
       case atStart => exact ⟨(([] : List Int)), (([] : List Int)), (a0_2), pr, H', ⟨Nat.le_refl _⟩, ⟨by first | exact Kd.R_nil _ _ _ _ _ | exact Kd.N_nil _ _ _ _ _ | exact Kd.V_nil _ _ _ _ _ | exact Kd.Q_nil _ _ _ _ _ | exact Kd.S_nil _ _ _ _ _⟩, ⟨by first | exact Kd.R_nil _ _ _ _ _ | exact Kd.N_nil _ _ _ _ _ | exact Kd.V_nil _ _ _ _ _ | exact Kd.Q_nil _ _ _ _ _ | exact Kd.S_nil _ _ _ _ _⟩, ⟨pk⟩, ⟨pk⟩, ⟨pk⟩, ⟨pk⟩, ⟨pw⟩⟩
       case round =>
        clear H'
        try clear c1
        try clear c2
        try clear p2
        try clear q2
        try clear c3
        try clear c4
        try clear c5
        try clear c6
        try clear c7
        try clear c8
        try clear c9
        try clear c10
        try clear c13
        try clear c17
        try clear c17b0
        try clear c17b1
        try clear c18
        try clear c18b0
        try clear c18b1
        try clear c19
        try clear c19b0
        try clear c19b1
        try clear c20
        try clear c20b0
        try clear c20b1
        try clear c21
        try clear c21b0
        try clear c21b1
        try clear c23
        try clear c23b0
        try clear c23b1
        try clear q24
        try clear c25
        try clear c27
        try clear c27b0
        try clear c28
        try clear c29
        try clear c30
        try clear c31
        try clear c32
        try clear c33
        try clear c37
        try clear c38
        try clear c39
        try clear c41
        try clear c42
        try clear c47
        try clear c53
        try clear c54
        try clear c55
        try clear c57
        try clear c58
        try clear c61
        try clear c63
        try clear c64
        try clear c65
        try clear c68
        try clear c69
        try clear c72
        try clear c73
        try clear c74
        try clear c77
        try clear c79
        try clear c79b0
        try clear c79b1
        try clear c81
        try clear c82
        try clear c83
        try clear c86
        try clear c87
        try clear c90
        try clear c91
        try clear c92
        try clear hcz14_0
        try clear hcz14_1
        try clear hcz14_2
        try clear hcz14_3
        try clear hcz15_0
        try clear hcz15_1
        try clear hcz15_2
        try clear hcz15_3
        try clear hcz32_0
        try clear hcz32_1
        try clear hcz32_2
        try clear hcz32_3
        try clear hcz33_0
        try clear hcz33_1
        try clear hcz33_2
        try clear hcz33_3
        try clear hcz40_0
        try clear hcz40_1
        try clear hcz40_2
        try clear hcz40_3
        try clear hcz43_0
        try clear hcz43_1
        try clear hcz43_2
        try clear hcz43_3
        try clear hcz45_0
        try clear hcz45_1
        try clear hcz45_2
        try clear hcz45_3
        try clear hcz48_0
        try clear hcz48_1
        try clear hcz48_2
        try clear hcz48_3
        try clear hcz49_0
        try clear hcz49_1
        try clear hcz49_2
        try clear hcz49_3
        try clear hcz56_0
        try clear hcz56_1
        try clear hcz56_2
        try clear hcz56_3
        try clear hcz59_0
        try clear hcz59_1
        try clear hcz59_2
        try clear hcz59_3
        try clear hcz66_0
        try clear hcz66_1
        try clear hcz66_2
        try clear hcz66_3
        try clear hcz70_0
        try clear hcz70_1
        try clear hcz70_2
        try clear hcz70_3
        try clear hcz75_0
        try clear hcz75_1
        try clear hcz75_2
        try clear hcz75_3
        try clear hcz84_0
        try clear hcz84_1
        try clear hcz84_2
        try clear hcz84_3
        try clear hcz88_0
        try clear hcz88_1
        try clear hcz88_2
        try clear hcz88_3
        try clear hcz93_0
        try clear hcz93_1
        try clear hcz93_2
        try clear hcz93_3
        try clear hfz14_0
        try clear hfz14_1
        try clear hfz14_2
        try clear hfz14_3
        try clear hfz15_0
        try clear hfz15_1
        try clear hfz15_2
        try clear hfz15_3
        try clear hfz32_0
        try clear hfz32_1
        try clear hfz32_2
        try clear hfz32_3
        try clear hfz33_0
        try clear hfz33_1
        try clear hfz33_2
        try clear hfz33_3
        try clear hfz40_0
        try clear hfz40_1
        try clear hfz40_2
        try clear hfz40_3
        try clear hfz43_0
        try clear hfz43_1
        try clear hfz43_2
        try clear hfz43_3
        try clear hfz45_0
        try clear hfz45_1
        try clear hfz45_2
        try clear hfz45_3
        try clear hfz48_0
        try clear hfz48_1
        try clear hfz48_2
        try clear hfz48_3
        try clear hfz49_0
        try clear hfz49_1
        try clear hfz49_2
        try clear hfz49_3
        try clear hfz56_0
        try clear hfz56_1
        try clear hfz56_2
        try clear hfz56_3
        try clear hfz59_0
        try clear hfz59_1
        try clear hfz59_2
        try clear hfz59_3
        try clear hfz66_0
        try clear hfz66_1
        try clear hfz66_2
        try clear hfz66_3
        try clear hfz70_0
        try clear hfz70_1
        try clear hfz70_2
        try clear hfz70_3
        try clear hfz75_0
        try clear hfz75_1
        try clear hfz75_2
        try clear hfz75_3
        try clear hfz84_0
        try clear hfz84_1
        try clear hfz84_2
        try clear hfz84_3
        try clear hfz88_0
        try clear hfz88_1
        try clear hfz88_2
        try clear hfz88_3
        try clear hfz93_0
        try clear hfz93_1
        try clear hfz93_2
        try clear hfz93_3
        try clear p2
        try clear q2
        try clear q24
        try clear q242
        obtain ⟨x14_6, x15_6, x16_6, rfl, HA, HK6, HO_14, HO_15, BK225, BK226, BK239, BK240, HB⟩ := hrel
        cases gk with
        | zero => exact absurd HA.out (by simp [L2_IntervalRefine.l0])
        | succ k6 =>
         have H := HA.out
         clear HA
         simp only [L2_IntervalRefine.l0] at H
         by_cases c94 : x16_6 ≤ a0_3
         ·rw [if_pos c94] at H
          have c94b0 : decide (x16_6 ≤ a0_3) = true := decide_eq_true c94
          clear c94
          have H' := am H
          clear H
          have hnb95 := NB225_226.out
          have hnc95 := NB226_225.out
          have hnb96 := NB225_239.out
          have hnc96 := NB239_225.out
          have hnb97 := NB225_240.out
          have hnc97 := NB240_225.out
          have hcz98_0 : wr.cell? ⟨gb225, 0, none⟩ = some (.bool a0_0) := bc BK225 0
          have hcz98_1 : wr.cell? ⟨gb225, 1, none⟩ = some (.bool a0_1) := bc BK225 1
          have hcz98_2 : wr.cell? ⟨gb225, 2, none⟩ = some (.int .i64 a0_2) := bc BK225 2
          have hcz98_3 : wr.cell? ⟨gb225, 3, none⟩ = some (.int .i64 a0_3) := bc BK225 3
          have hfz98_0 := blk_frozen BK225.out 0
          have hfz98_1 := blk_frozen BK225.out 1
          have hfz98_2 := blk_frozen BK225.out 2
          have hfz98_3 := blk_frozen BK225.out 3
          have hnb99 := NB226_239.out
          have hnc99 := NB239_226.out
          have hnb100 := NB226_240.out
          have hnc100 := NB240_226.out
          have hcz101_0 : wr.cell? ⟨gb226, 0, none⟩ = some (.bool a1_0) := bc BK226 0
          have hcz101_1 : wr.cell? ⟨gb226, 1, none⟩ = some (.bool a1_1) := bc BK226 1
          have hcz101_2 : wr.cell? ⟨gb226, 2, none⟩ = some (.int .i64 a1_2) := bc BK226 2
          have hcz101_3 : wr.cell? ⟨gb226, 3, none⟩ = some (.int .i64 a1_3) := bc BK226 3
          have hfz101_0 := blk_frozen BK226.out 0
          have hfz101_1 := blk_frozen BK226.out 1
          have hfz101_2 := blk_frozen BK226.out 2
          have hfz101_3 := blk_frozen BK226.out 3
          go_wp2
          go_loopg [14, 15, 17] k6 (fun kq v14 v15 v17 w' => ∃ (x14_7 : List Int) (x15_7 : List Int) (x17_7 : Int), v17 = .int .i64 x17_7 ∧ Aside0 (L2_IntervalRefine.l1 kq a2 t237 x14_7 x15_7 x16_6 x17_7 a0_0 a0_1 a0_2 a0_3 a1_0 a1_1 a1_2 a1_3 t229 t230 t231 t232 t233 t234 t235 t236 = some r) ∧ Aside0 (kq ≤ k6) ∧ Aside0 (Kd.R (Kd.int .i64) 3 w' w.heap.size (fun k_ => some k_ ≠ (v15 : Value).ownBlock) v14 x14_7) ∧ Aside0 (Kd.R (Kd.int .i64) 3 w' w.heap.size (fun k_ => some k_ ≠ (v14 : Value).ownBlock) v15 x15_7) ∧ Aside0 (w'.heap[gb225]? = some (.cells #[.bool a0_0, .bool a0_1, .int .i64 a0_2, .int .i64 a0_3] 49 (0, 0))) ∧ Aside0 (w'.heap[gb226]? = some (.cells #[.bool a1_0, .bool a1_1, .int .i64 a1_2, .int .i64 a1_3] 49 (0, 0))) ∧ Aside0 (w'.heap[gb239]? = some (.cells #[.bool t229, .bool t230, .int .i64 t231, .int .i64 t232] 49 (0, 0))) ∧ Aside0 (w'.heap[gb240]? = some (.cells #[.bool t233, .bool t234, .int .i64 t235, .int .i64 t236] 49 (0, 0))) ∧ Aside0 (Below w.heap.size w w'))
          case atStart => exact ⟨(x14_6), (x15_6), (a1_2), pr, H', ⟨Nat.le_refl _⟩, ⟨by (with_reducible repeat (first | apply Kd.R_alloc | apply Kd.R_drewN | apply Kd.R_drew)); exact HO_14.out⟩, ⟨by (with_reducible repeat (first | apply Kd.R_alloc | apply Kd.R_drewN | apply Kd.R_drew)); exact HO_15.out⟩, ⟨pk⟩, ⟨pk⟩, ⟨pk⟩, ⟨pk⟩, ⟨pw⟩⟩
          case round =>
           clear H'
           try clear c1
           try clear c2
           try clear p2
           try clear q2
           try clear c3
           try clear c4
           try clear c5
           try clear c6
           try clear c7
           try clear c8
           try clear c9
           try clear c10
           try clear c13
           try clear c17
           try clear c17b0
           try clear c17b1
           try clear c18
           try clear c18b0
           try clear c18b1
           try clear c19
           try clear c19b0
           try clear c19b1
           try clear c20
           try clear c20b0
           try clear c20b1
           try clear c21
           try clear c21b0
           try clear c21b1
           try clear c23
           try clear c23b0
           try clear c23b1
           try clear q24
           try clear c25
           try clear c27
           try clear c27b0
           try clear c28
           try clear c29
           try clear c30
           try clear c31
           try clear c32
           try clear c33
           try clear c37
           try clear c38
           try clear c39
           try clear c41
           try clear c42
           try clear c47
           try clear c53
           try clear c54
           try clear c55
           try clear c57
           try clear c58
           try clear c61
           try clear c63
           try clear c64
           try clear c65
           try clear c68
           try clear c69
           try clear c72
           try clear c73
           try clear c74
           try clear c77
           try clear c79
           try clear c79b0
           try clear c79b1
           try clear c81
           try clear c82
           try clear c83
           try clear c86
           try clear c87
           try clear c90
           try clear c91
           try clear c92
           try clear c94
           try clear c94b0
           try clear c95
           try clear c96
           try clear c97
           try clear c99
           try clear c100
           try clear hcz101_0
           try clear hcz101_1
           try clear hcz101_2
           try clear hcz101_3
           try clear hcz14_0
           try clear hcz14_1
           try clear hcz14_2
           try clear hcz14_3
           try clear hcz15_0
           try clear hcz15_1
           try clear hcz15_2
           try clear hcz15_3
           try clear hcz32_0
           try clear hcz32_1
           try clear hcz32_2
           try clear hcz32_3
           try clear hcz33_0
           try clear hcz33_1
           try clear hcz33_2
           try clear hcz33_3
           try clear hcz40_0
           try clear hcz40_1
           try clear hcz40_2
           try clear hcz40_3
           try clear hcz43_0
           try clear hcz43_1
           try clear hcz43_2
           try clear hcz43_3
           try clear hcz45_0
           try clear hcz45_1
           try clear hcz45_2
           try clear hcz45_3
           try clear hcz48_0
           try clear hcz48_1
           try clear hcz48_2
           try clear hcz48_3
           try clear hcz49_0
           try clear hcz49_1
           try clear hcz49_2
           try clear hcz49_3
           try clear hcz56_0
           try clear hcz56_1
           try clear hcz56_2
           try clear hcz56_3
           try clear hcz59_0
           try clear hcz59_1
           try clear hcz59_2
           try clear hcz59_3
           try clear hcz66_0
           try clear hcz66_1
           try clear hcz66_2
           try clear hcz66_3
           try clear hcz70_0
           try clear hcz70_1
           try clear hcz70_2
           try clear hcz70_3
           try clear hcz75_0
           try clear hcz75_1
           try clear hcz75_2
           try clear hcz75_3
           try clear hcz84_0
           try clear hcz84_1
           try clear hcz84_2
           try clear hcz84_3
           try clear hcz88_0
           try clear hcz88_1
           try clear hcz88_2
           try clear hcz88_3
           try clear hcz93_0
           try clear hcz93_1
           try clear hcz93_2
           try clear hcz93_3
           try clear hcz98_0
           try clear hcz98_1
           try clear hcz98_2
           try clear hcz98_3
           try clear hfz101_0
           try clear hfz101_1
           try clear hfz101_2
           try clear hfz101_3
           try clear hfz14_0
           try clear hfz14_1
           try clear hfz14_2
           try clear hfz14_3
           try clear hfz15_0
           try clear hfz15_1
           try clear hfz15_2
           try clear hfz15_3
           try clear hfz32_0
           try clear hfz32_1
           try clear hfz32_2
           try clear hfz32_3
           try clear hfz33_0
           try clear hfz33_1
           try clear hfz33_2
           try clear hfz33_3
           try clear hfz40_0
           try clear hfz40_1
           try clear hfz40_2
           try clear hfz40_3
           try clear hfz43_0
           try clear hfz43_1
           try clear hfz43_2
           try clear hfz43_3
           try clear hfz45_0
           try clear hfz45_1
           try clear hfz45_2
           try clear hfz45_3
           try clear hfz48_0
           try clear hfz48_1
           try clear hfz48_2
           try clear hfz48_3
           try clear hfz49_0
           try clear hfz49_1
           try clear hfz49_2
           try clear hfz49_3
           try clear hfz56_0
           try clear hfz56_1
           try clear hfz56_2
           try clear hfz56_3
           try clear hfz59_0
           try clear hfz59_1
           try clear hfz59_2
           try clear hfz59_3
           try clear hfz66_0
           try clear hfz66_1
           try clear hfz66_2
           try clear hfz66_3
           try clear hfz70_0
           try clear hfz70_1
           try clear hfz70_2
           try clear hfz70_3
           try clear hfz75_0
           try clear hfz75_1
           try clear hfz75_2
           try clear hfz75_3
           try clear hfz84_0
           try clear hfz84_1
           try clear hfz84_2
           try clear hfz84_3
           try clear hfz88_0
           try clear hfz88_1
           try clear hfz88_2
           try clear hfz88_3
           try clear hfz93_0
           try clear hfz93_1
           try clear hfz93_2
           try clear hfz93_3
           try clear hfz98_0
           try clear hfz98_1
           try clear hfz98_2
           try clear hfz98_3
           try clear p2
           try clear q2
           try clear q24
           try clear q242
           obtain ⟨x14_7, x15_7, x17_7, rfl, HA, HK7, HO_14, HO_15, BK225, BK226, BK239, BK240, HB⟩ := hrel
           cases gk with
           | zero => exact absurd HA.out (by simp [L2_IntervalRefine.l1])
           | succ k7 =>
            have H := HA.out
            clear HA
            simp only [L2_IntervalRefine.l1] at H
            by_cases c102 : x17_7 ≤ a1_3
            ·rw [if_pos c102] at H
             have c102b0 : decide (x17_7 ≤ a1_3) = true := decide_eq_true c102
             clear c102
             replace H := Option.bind_eq_some_iff.mp H
             obtain ⟨t259, A1030, H⟩ := H
             replace H : (if t259 = true then (if x14_7.length < 17592186044416 then (if x15_7.length < 17592186044416 then (L2_IntervalRefine.l1 k7 a2 t237 (x14_7 ++ [x16_6]) (x15_7 ++ [x17_7]) x16_6 (wrap64 (x17_7 + 1)) a0_0 a0_1 a0_2 a0_3 a1_0 a1_1 a1_2 a1_3 t229 t230 t231 t232 t233 t234 t235 t236) else (none)) else (none)) else (L2_IntervalRefine.l1 k7 a2 t237 x14_7 x15_7 x16_6 (wrap64 (x17_7 + 1)) a0_0 a0_1 a0_2 a0_3 a1_0 a1_1 a1_2 a1_3 t229 t230 t231 t232 t233 t234 t235 t236)) = some r := H
             have A103 := am A1030
             clear A1030
             by_cases c104 : t259 = true
             ·subst c104
              have H1 : (if x14_7.length < 17592186044416 then (if x15_7.length < 17592186044416 then (L2_IntervalRefine.l1 k7 a2 t237 (x14_7 ++ [x16_6]) (x15_7 ++ [x17_7]) x16_6 (wrap64 (x17_7 + 1)) a0_0 a0_1 a0_2 a0_3 a1_0 a1_1 a1_2 a1_3 t229 t230 t231 t232 t233 t234 t235 t236) else (none)) else (none)) = some r := by rw [if_pos rfl] at H; exact H
              clear H
              have H := H1
              clear H1
              by_cases c105 : x14_7.length < 17592186044416
              ·rw [if_pos c105] at H
               have LMc105 := am c105
               clear c105
               obtain ⟨y260, hy260⟩ : ∃ y_ : List Int, y_ = (x14_7 ++ [x16_6]) := ⟨_, rfl⟩
               replace H : (if x15_7.length < 17592186044416 then (L2_IntervalRefine.l1 k7 a2 t237 y260 (x15_7 ++ [x17_7]) x16_6 (wrap64 (x17_7 + 1)) a0_0 a0_1 a0_2 a0_3 a1_0 a1_1 a1_2 a1_3 t229 t230 t231 t232 t233 t234 t235 t236) else (none)) = some r := by first | (rw [hy260]; with_reducible exact H) | (have H2_ := (Option.bind_some _ _).symm.trans H; rw [hy260]; with_reducible exact H2_) | (have H2_ := (Option.bind_some _ _).symm.trans H; with_reducible exact H2_) | with_reducible exact H | (rw [hy260]; exact H) | exact H
               have Ny260 := am hy260
               clear hy260
               by_cases c106 : x15_7.length < 17592186044416
               ·rw [if_pos c106] at H
                have LMc106 := am c106
                clear c106
                obtain ⟨y263, hy263⟩ : ∃ y_ : List Int, y_ = (x15_7 ++ [x17_7]) := ⟨_, rfl⟩
                replace H : (L2_IntervalRefine.l1 k7 a2 t237 y260 y263 x16_6 (wrap64 (x17_7 + 1)) a0_0 a0_1 a0_2 a0_3 a1_0 a1_1 a1_2 a1_3 t229 t230 t231 t232 t233 t234 t235 t236) = some r := by first | (rw [hy263]; with_reducible exact H) | (have H2_ := (Option.bind_some _ _).symm.trans H; rw [hy263]; with_reducible exact H2_) | (have H2_ := (Option.bind_some _ _).symm.trans H; with_reducible exact H2_) | with_reducible exact H | (rw [hy263]; exact H) | exact H
                have Ny263 := am hy263
                clear hy263
                have H' := am H
                clear H
                have hnb107 := NB226_225.out
                have hnc107 := NB225_226.out
                have hnb108 := NB226_239.out
                have hnc108 := NB239_226.out
                have hnb109 := NB226_240.out
                have hnc109 := NB240_226.out
                have hcz110_0 : wr.cell? ⟨gb226, 0, none⟩ = some (.bool a1_0) := bc BK226 0
                have hcz110_1 : wr.cell? ⟨gb226, 1, none⟩ = some (.bool a1_1) := bc BK226 1
                have hcz110_2 : wr.cell? ⟨gb226, 2, none⟩ = some (.int .i64 a1_2) := bc BK226 2
                have hcz110_3 : wr.cell? ⟨gb226, 3, none⟩ = some (.int .i64 a1_3) := bc BK226 3
                have hfz110_0 := blk_frozen BK226.out 0
                have hfz110_1 := blk_frozen BK226.out 1
                have hfz110_2 := blk_frozen BK226.out 2
                have hfz110_3 := blk_frozen BK226.out 3
                go_wp2_with (first | ((with_reducible refine gate_callee (f := 34) rfl ?_); refine goesL_ (some 124) rfl rfl Tryd.func34 kk rfl #[.int .i64 x16_6, .string a2, .int .i64 x17_7] rfl (by (try simp only [List.map_toArray, List.map_cons, List.map_nil]); first | done | rfl | (simp only [List.length_drop, List.length_take]; rfl)) ?_; (with_reducible refine (R2_StandsOf.calls k7 x16_6 a2 x17_7 true _ A103.out).mono ?_); rintro e w' ⟨rfl, ⟨nd, rfl⟩⟩; refine ⟨_, rfl, ?_⟩) | ((with_reducible refine gate_builtin (b := .append) (xs := #[.tmp 125, .tmp 127]) rfl ?_); (try (refine gate_guard (by rfl) ?_; dsimp only)); at_builtin; refine Kd.R_append (Kd.int .i64) (w0 := w) w.heap.size rfl (.tmp 125) (.tmp 127) 25 3 (.int .i64 0) 8 rfl Tryd.underlying25 info3 rfl (by decide) (by omega) u14 x14_7 x16_6 [.int .i64 x16_6] (fun k_ => some k_ ≠ (u15 : Value).ownBlock) (fun _ => False) rfl rfl ?aP (fun _ hk => hk.elim) ?aF ?aO ?aB ?aS ?aL ?_; (case aP => exact rfl); (case aB => exact pw); (case aF => exact (fun k_ hk => Kd.fresh' (Kd.R_lt (by (with_reducible repeat (first | apply Kd.R_alloc | apply Kd.R_drewN | apply Kd.R_drew)); exact HO_15.out)) k_ hk)); (case aO => exact (by (with_reducible repeat (first | apply Kd.R_alloc | apply Kd.R_drewN | apply Kd.R_drew)); exact HO_14.out)); (case aS => exact (below_size pw)); (case aL => have := LMc105.out; omega); intro v261 w111 ho hb hg hat; rw [← Ny260.out] at ho; have n0_ := am (Kd.R_after (ok := (fun _ => True)) (by (with_reducible repeat (first | apply Kd.R_alloc | apply Kd.R_drewN | apply Kd.R_drew)); exact Kd.R_mono HO_15.out (fun _ hk => ⟨trivial, hk⟩)) hg hat); have n1_ := am (blk_grown (g := gb225) (o := .cells #[.bool a0_0, .bool a0_1, .int .i64 a0_2, .int .i64 a0_3] 49 (0, 0)) pk hg (Kd.R_ne HO_14.out BK225.out (by decide))); have n2_ := am (blk_grown (g := gb226) (o := .cells #[.bool a1_0, .bool a1_1, .int .i64 a1_2, .int .i64 a1_3] 49 (0, 0)) pk hg (Kd.R_ne HO_14.out BK226.out (by decide))); have n3_ := am (blk_grown (g := gb239) (o := .cells #[.bool t229, .bool t230, .int .i64 t231, .int .i64 t232] 49 (0, 0)) pk hg (Kd.R_ne HO_14.out BK239.out (by decide))); have n4_ := am (blk_grown (g := gb240) (o := .cells #[.bool t233, .bool t234, .int .i64 t235, .int .i64 t236] 49 (0, 0)) pk hg (Kd.R_ne HO_14.out BK240.out (by decide))); have n5_ := am (hb); have n6_ := am (ho); clear HO_15; clear BK225; clear BK226; clear BK239; clear BK240; clear HB; clear HO_14; have HO_15 := n0_; have BK225 := n1_; have BK226 := n2_; have BK239 := n3_; have BK240 := n4_; have HB := n5_; have HO262 := n6_; clear n0_ n1_ n2_ n3_ n4_ n5_ n6_; clear ho hb hg hat) | ((with_reducible refine gate_builtin (b := .append) (xs := #[.tmp 129, .tmp 131]) rfl ?_); (try (refine gate_guard (by rfl) ?_; dsimp only)); at_builtin; refine Kd.R_append (Kd.int .i64) (w0 := w) w.heap.size rfl (.tmp 129) (.tmp 131) 25 3 (.int .i64 0) 8 rfl Tryd.underlying25 info3 rfl (by decide) (by omega) u15 x15_7 x17_7 [.int .i64 x17_7] (fun k_ => some k_ ≠ (v261 : Value).ownBlock) (fun _ => False) rfl rfl ?aP (fun _ hk => hk.elim) ?aF ?aO ?aB ?aS ?aL ?_; (case aP => exact rfl); (case aB => exact pw); (case aF => exact (fun k_ hk => Kd.fresh' (Kd.R_lt (by (with_reducible repeat (first | apply Kd.R_alloc | apply Kd.R_drewN | apply Kd.R_drew)); exact HO262.out)) k_ hk)); (case aO => exact (by (with_reducible repeat (first | apply Kd.R_alloc | apply Kd.R_drewN | apply Kd.R_drew)); exact Kd.R_mono HO_15.out (fun _ hk => hk.2))); (case aS => exact (below_size pw)); (case aL => have := LMc106.out; omega); intro v264 w112 ho hb hg hat; rw [← Ny263.out] at ho; have n0_ := am (blk_grown (g := gb225) (o := .cells #[.bool a0_0, .bool a0_1, .int .i64 a0_2, .int .i64 a0_3] 49 (0, 0)) pk hg (Kd.R_ne HO_15.out BK225.out (by decide))); have n1_ := am (blk_grown (g := gb226) (o := .cells #[.bool a1_0, .bool a1_1, .int .i64 a1_2, .int .i64 a1_3] 49 (0, 0)) pk hg (Kd.R_ne HO_15.out BK226.out (by decide))); have n2_ := am (blk_grown (g := gb239) (o := .cells #[.bool t229, .bool t230, .int .i64 t231, .int .i64 t232] 49 (0, 0)) pk hg (Kd.R_ne HO_15.out BK239.out (by decide))); have n3_ := am (blk_grown (g := gb240) (o := .cells #[.bool t233, .bool t234, .int .i64 t235, .int .i64 t236] 49 (0, 0)) pk hg (Kd.R_ne HO_15.out BK240.out (by decide))); have n4_ := am (Kd.R_after (ok := (fun _ => True)) (by (with_reducible repeat (first | apply Kd.R_alloc | apply Kd.R_drewN | apply Kd.R_drew)); exact Kd.R_mono HO262.out (fun _ hk => ⟨trivial, hk⟩)) hg hat); have n5_ := am (hb); have n6_ := am (ho); clear BK225; clear BK226; clear BK239; clear BK240; clear HO262; clear HB; clear HO_15; have BK225 := n0_; have BK226 := n1_; have BK239 := n2_; have BK240 := n3_; have HO262 := n4_; have HB := n5_; have HO265 := n6_; clear n0_ n1_ n2_ n3_ n4_ n5_ n6_; clear ho hb hg hat))
                go_roundg k7
                case measure => have := HJ4.out; have := HJ11.out; have := HJ21.out; have := HJ23.out; have := HJ45.out; have := HK6.out; have := HK7.out; omega
                case rel => exact ⟨(y260), (y263), (wrap64 (x17_7 + 1)), pr, H', ⟨by have := HJ4.out; have := HJ11.out; have := HJ21.out; have := HJ23.out; have := HJ45.out; have := HK6.out; have := HK7.out; omega⟩, ⟨by (with_reducible repeat (first | apply Kd.R_alloc | apply Kd.R_drewN | apply Kd.R_drew)); exact Kd.R_mono HO262.out (fun _ hk => hk.2)⟩, ⟨by (with_reducible repeat (first | apply Kd.R_alloc | apply Kd.R_drewN | apply Kd.R_drew)); exact HO265.out⟩, ⟨pk⟩, ⟨pk⟩, ⟨pk⟩, ⟨pk⟩, ⟨pw⟩⟩
               rw [if_neg c106] at H
               exact absurd H (by simp)
              rw [if_neg c105] at H
              exact absurd H (by simp)
             replace c104 := Bool.eq_false_iff.mpr c104
             subst c104
             have H1 : (L2_IntervalRefine.l1 k7 a2 t237 x14_7 x15_7 x16_6 (wrap64 (x17_7 + 1)) a0_0 a0_1 a0_2 a0_3 a1_0 a1_1 a1_2 a1_3 t229 t230 t231 t232 t233 t234 t235 t236) = some r := by rw [if_neg (show ¬ (false = true) by decide)] at H; exact H
             clear H
             have H := H1
             clear H1
             have H' := am H
             clear H
             have hnb113 := NB226_225.out
             have hnc113 := NB225_226.out
             have hnb114 := NB226_239.out
             have hnc114 := NB239_226.out
             have hnb115 := NB226_240.out
             have hnc115 := NB240_226.out
             have hcz116_0 : wr.cell? ⟨gb226, 0, none⟩ = some (.bool a1_0) := bc BK226 0
             have hcz116_1 : wr.cell? ⟨gb226, 1, none⟩ = some (.bool a1_1) := bc BK226 1
             have hcz116_2 : wr.cell? ⟨gb226, 2, none⟩ = some (.int .i64 a1_2) := bc BK226 2
             have hcz116_3 : wr.cell? ⟨gb226, 3, none⟩ = some (.int .i64 a1_3) := bc BK226 3
             have hfz116_0 := blk_frozen BK226.out 0
             have hfz116_1 := blk_frozen BK226.out 1
             have hfz116_2 := blk_frozen BK226.out 2
             have hfz116_3 := blk_frozen BK226.out 3
             go_wp2_with (first | ((with_reducible refine gate_callee (f := 34) rfl ?_); refine goesL_ (some 124) rfl rfl Tryd.func34 kk rfl #[.int .i64 x16_6, .string a2, .int .i64 x17_7] rfl (by (try simp only [List.map_toArray, List.map_cons, List.map_nil]); first | done | rfl | (simp only [List.length_drop, List.length_take]; rfl)) ?_; (with_reducible refine (R2_StandsOf.calls k7 x16_6 a2 x17_7 false _ A103.out).mono ?_); rintro e w' ⟨rfl, ⟨nd, rfl⟩⟩; refine ⟨_, rfl, ?_⟩))
             go_roundg k7
             case measure => have := HJ4.out; have := HJ11.out; have := HJ21.out; have := HJ23.out; have := HJ45.out; have := HK6.out; have := HK7.out; omega
             case rel => exact ⟨(x14_7), (x15_7), (wrap64 (x17_7 + 1)), pr, H', ⟨by have := HJ4.out; have := HJ11.out; have := HJ21.out; have := HJ23.out; have := HJ45.out; have := HK6.out; have := HK7.out; omega⟩, ⟨by (with_reducible repeat (first | apply Kd.R_alloc | apply Kd.R_drewN | apply Kd.R_drew)); exact HO_14.out⟩, ⟨by (with_reducible repeat (first | apply Kd.R_alloc | apply Kd.R_drewN | apply Kd.R_drew)); exact HO_15.out⟩, ⟨pk⟩, ⟨pk⟩, ⟨pk⟩, ⟨pk⟩, ⟨pw⟩⟩
            rw [if_neg c102] at H
            have c102b0 : decide (x17_7 ≤ a1_3) = false := decide_eq_false c102
            clear c102
            have H' := am H
            clear H
            have hnb117 := NB226_225.out
            have hnc117 := NB225_226.out
            have hnb118 := NB226_239.out
            have hnc118 := NB239_226.out
            have hnb119 := NB226_240.out
            have hnc119 := NB240_226.out
            have hcz120_0 : wr.cell? ⟨gb226, 0, none⟩ = some (.bool a1_0) := bc BK226 0
            have hcz120_1 : wr.cell? ⟨gb226, 1, none⟩ = some (.bool a1_1) := bc BK226 1
            have hcz120_2 : wr.cell? ⟨gb226, 2, none⟩ = some (.int .i64 a1_2) := bc BK226 2
            have hcz120_3 : wr.cell? ⟨gb226, 3, none⟩ = some (.int .i64 a1_3) := bc BK226 3
            have hfz120_0 := blk_frozen BK226.out 0
            have hfz120_1 := blk_frozen BK226.out 1
            have hfz120_2 := blk_frozen BK226.out 2
            have hfz120_3 := blk_frozen BK226.out 3
            go_wp2
            go_roundg k7
            case measure => have := HJ4.out; have := HJ11.out; have := HJ21.out; have := HJ23.out; have := HJ45.out; have := HK6.out; have := HK7.out; omega
            case rel => exact ⟨(x14_7), (x15_7), (wrap64 (x16_6 + 1)), pr, H', ⟨by have := HJ4.out; have := HJ11.out; have := HJ21.out; have := HJ23.out; have := HJ45.out; have := HK6.out; have := HK7.out; omega⟩, ⟨by (with_reducible repeat (first | apply Kd.R_alloc | apply Kd.R_drewN | apply Kd.R_drew)); exact HO_14.out⟩, ⟨by (with_reducible repeat (first | apply Kd.R_alloc | apply Kd.R_drewN | apply Kd.R_drew)); exact HO_15.out⟩, ⟨pk⟩, ⟨pk⟩, ⟨pk⟩, ⟨pk⟩, ⟨pw⟩⟩
         rw [if_neg c94] at H
         have c94b0 : decide (x16_6 ≤ a0_3) = false := decide_eq_false c94
         clear c94
         replace H := Option.bind_eq_some_iff.mp H
         obtain ⟨⟨t247, t248, t249, t250, t251⟩, A1210, H⟩ := H
         replace H : ((R2_SpanOf.f k6 x15_6).bind fun bt253 => (if (t237 == t251) = true then (if (t229 == t247 && (t230 == t248 && (t231 == t249 && (t232 == t250)))) = true then (some (t233 == bt253.1 && (t234 == bt253.2.1 && (t235 == bt253.2.2.1 && (t236 == bt253.2.2.2.1))))) else (none)) else (none))) = some r := H
         have A121 := am A1210
         clear A1210
         replace H := Option.bind_eq_some_iff.mp H
         obtain ⟨⟨t253, t254, t255, t256, t257⟩, A1220, H⟩ := H
         replace H : (if (t237 == t251) = true then (if (t229 == t247 && (t230 == t248 && (t231 == t249 && (t232 == t250)))) = true then (some (t233 == t253 && (t234 == t254 && (t235 == t255 && (t236 == t256))))) else (none)) else (none)) = some r := H
         have A122 := am A1220
         clear A1220
         by_cases c123 : (t237 == t251) = true
         ·rw [if_pos c123] at H
          have c123b0 : (t237 == t251) = true := c123
          (try (have c123b1 : decide (t237 = t251) = true := by simpa using c123))
          (try (have c123b2 : (t237 == t251) = true := by simpa using c123))
          clear c123
          by_cases c124 : (t229 == t247 && (t230 == t248 && (t231 == t249 && (t232 == t250)))) = true
          ·rw [if_pos c124] at H
           have c124b0 : (t229 == t247 && (t230 == t248 && (t231 == t249 && (t232 == t250)))) = true := c124
           (try (have c124b1 : decide (t229 = t247 && (t230 == t248 && (t231 == t249 && (t232 == t250)))) = true := by simpa using c124))
           (try (have c124b2 : (t229 == t247 && (t230 == t248 && (t231 == t249 && (t232 == t250)))) = true := by simpa using c124))
           clear c124
           obtain rfl := Option.some.inj H
           have hnb125 := NB225_226.out
           have hnc125 := NB226_225.out
           have hnb126 := NB225_239.out
           have hnc126 := NB239_225.out
           have hnb127 := NB225_240.out
           have hnc127 := NB240_225.out
           have hcz128_0 : wr.cell? ⟨gb225, 0, none⟩ = some (.bool a0_0) := bc BK225 0
           have hcz128_1 : wr.cell? ⟨gb225, 1, none⟩ = some (.bool a0_1) := bc BK225 1
           have hcz128_2 : wr.cell? ⟨gb225, 2, none⟩ = some (.int .i64 a0_2) := bc BK225 2
           have hcz128_3 : wr.cell? ⟨gb225, 3, none⟩ = some (.int .i64 a0_3) := bc BK225 3
           have hfz128_0 := blk_frozen BK225.out 0
           have hfz128_1 := blk_frozen BK225.out 1
           have hfz128_2 := blk_frozen BK225.out 2
           have hfz128_3 := blk_frozen BK225.out 3
           obtain ⟨Ao129, co129, eo129⟩ := Kd.R_slice HO_14.out
           subst eo129
           go_wp2_with (first | ((with_reducible refine gate_callee (f := 35) rfl ?_); refine goesL_ (some 135) rfl rfl Tryd.func35 kk rfl #[.slice Ao129 x14_6.length co129] rfl (by (try simp only [List.map_toArray, List.map_cons, List.map_nil]); first | done | rfl | (simp only [List.length_drop, List.length_take]; rfl)) ?_; (with_reducible refine (R2_SpanOf.calls k6 _ _ x14_6 t247 t248 t249 t250 t251 _ ?side1 ?side2 A121.out).mono ?_); (case side1 => repeat (first | exact (Kd.R_reads' HO_14.out).2.2 | (with_reducible refine Kd.C_alloc ?_ _) | (with_reducible refine Kd.C_drewN ?_ _) | (with_reducible refine Kd.C_drew ?_))); (case side2 => exact (Kd.R_reads' HO_14.out).2.1); rintro e w130 ⟨rfl, hb⟩; refine ⟨_, rfl, ?_⟩; have n0_ := am (Kd.R_below (by (with_reducible repeat (first | apply Kd.R_alloc | apply Kd.R_drewN | apply Kd.R_drew)); exact HO_14.out) hb); have n1_ := am (Kd.R_below (by (with_reducible repeat (first | apply Kd.R_alloc | apply Kd.R_drewN | apply Kd.R_drew)); exact HO_15.out) hb); have n2_ := bb BK225 hb; have n3_ := bb BK226 hb; have n4_ := bb BK239 hb; have n5_ := bb BK240 hb; have n6_ := am (below_step pw hb); clear HO_14; clear HO_15; clear BK225; clear BK226; clear BK239; clear BK240; clear HB; have HO_14 := n0_; have HO_15 := n1_; have BK225 := n2_; have BK226 := n3_; have BK239 := n4_; have BK240 := n5_; have HB := n6_; clear n0_ n1_ n2_ n3_ n4_ n5_ n6_; (try clear hb); (try clear hb2); (try clear hk); (try clear hi)) | ((with_reducible refine gate_dst (N := 18) rfl ?_); (try (refine gate_guard (by rfl) ?_; dsimp only)); refine box_event ?hg (N := 18) ?hd (cs := #[.bool false, .bool false, .int .i64 0, .int .i64 0]) (t := 49) ?hr ?_; (case hd => rfl); (case hg => rfl); (case hr => first | (go_simp; done) | (go_simp; rfl)); intro gb252 hg w131 hbox hb; have n0_ := am (Kd.R_below (by (with_reducible repeat (first | apply Kd.R_alloc | apply Kd.R_drewN | apply Kd.R_drew)); exact HO_14.out) hb); have n1_ := am (Kd.R_below (by (with_reducible repeat (first | apply Kd.R_alloc | apply Kd.R_drewN | apply Kd.R_drew)); exact HO_15.out) hb); have n2_ := bb BK225 hb; have n3_ := bb BK226 hb; have n4_ := bb BK239 hb; have n5_ := bb BK240 hb; have n6_ := am (below_step pw hb); have n7_ := am (hbox); have n8_ := am ((by rw [hg]; exact (below_size pw) : w.heap.size ≤ gb252)); have n9_ := am ((by rw [hg]; exact (below_size pw) : w.heap.size ≤ gb252)); have n10_ := am ((by rw [hg]; exact Nat.ne_of_lt (blk_lt pk) : gb225 ≠ gb252)); have n11_ := am ((by rw [hg]; exact Nat.ne_of_gt (blk_lt pk) : gb252 ≠ gb225)); have n12_ := am ((by rw [hg]; exact Nat.ne_of_lt (blk_lt pk) : gb226 ≠ gb252)); have n13_ := am ((by rw [hg]; exact Nat.ne_of_gt (blk_lt pk) : gb252 ≠ gb226)); have n14_ := am ((by rw [hg]; exact Nat.ne_of_lt (blk_lt pk) : gb239 ≠ gb252)); have n15_ := am ((by rw [hg]; exact Nat.ne_of_gt (blk_lt pk) : gb252 ≠ gb239)); have n16_ := am ((by rw [hg]; exact Nat.ne_of_lt (blk_lt pk) : gb240 ≠ gb252)); have n17_ := am ((by rw [hg]; exact Nat.ne_of_gt (blk_lt pk) : gb252 ≠ gb240)); clear HO_14; clear HO_15; clear BK225; clear BK226; clear BK239; clear BK240; clear HB; have HO_14 := n0_; have HO_15 := n1_; have BK225 := n2_; have BK226 := n3_; have BK239 := n4_; have BK240 := n5_; have HB := n6_; have BK252 := n7_; have GW252 := n8_; have GE252 := n9_; have NB225_252 := n10_; have NB252_225 := n11_; have NB226_252 := n12_; have NB252_226 := n13_; have NB239_252 := n14_; have NB252_239 := n15_; have NB240_252 := n16_; have NB252_240 := n17_; clear n0_ n1_ n2_ n3_ n4_ n5_ n6_ n7_ n8_ n9_ n10_ n11_ n12_ n13_ n14_ n15_ n16_ n17_; clear hb hbox hg; have hnb132 := NB252_225.out; have hnc132 := NB225_252.out; have hnb133 := NB252_226.out; have hnc133 := NB226_252.out; have hnb134 := NB252_239.out; have hnc134 := NB239_252.out; have hnb135 := NB252_240.out; have hnc135 := NB240_252.out; have hcz136_0 : w131.cell? ⟨gb252, 0, none⟩ = some (.bool false) := bc BK252 0; have hcz136_1 : w131.cell? ⟨gb252, 1, none⟩ = some (.bool false) := bc BK252 1; have hcz136_2 : w131.cell? ⟨gb252, 2, none⟩ = some (.int .i64 0) := bc BK252 2; have hcz136_3 : w131.cell? ⟨gb252, 3, none⟩ = some (.int .i64 0) := bc BK252 3; have hfz136_0 := blk_frozen BK252.out 0; have hfz136_1 := blk_frozen BK252.out 1; have hfz136_2 := blk_frozen BK252.out 2; have hfz136_3 := blk_frozen BK252.out 3; obtain ⟨Ao137, co137, eo137⟩ := Kd.R_slice HO_15.out; subst eo137) | ((with_reducible refine gate_callee (f := 35) rfl ?_); refine goesL_ (some 140) rfl rfl Tryd.func35 kk rfl #[.slice Ao137 x15_6.length co137] rfl (by (try simp only [List.map_toArray, List.map_cons, List.map_nil]); first | done | rfl | (simp only [List.length_drop, List.length_take]; rfl)) ?_; (with_reducible refine (R2_SpanOf.calls k6 _ _ x15_6 t253 t254 t255 t256 t257 _ ?side1 ?side2 A122.out).mono ?_); (case side1 => refine (Kd.R_reads' (e := 3) (base := w.heap.size) (ok := fun k_ => some k_ ≠ (.slice Ao129 x14_6.length co129 : Value).ownBlock) (n := x15_6.length) (c := co137) ?_).2.2; exact (by (with_reducible repeat (first | apply Kd.R_alloc | apply Kd.R_drewN | apply Kd.R_drew)); exact (Kd.R_mono (Kd.R_far (p := ⟨gb252, 3, none⟩) (Kd.R_far (p := ⟨gb252, 2, none⟩) (Kd.R_far (p := ⟨gb252, 1, none⟩) (Kd.R_far (p := ⟨gb252, 0, none⟩) (Kd.R_types HO_15.out BK252.out (by decide)) (fun _ hk => hk.2) (.bool t247)) (fun _ hk => hk.2) (.bool t248)) (fun _ hk => hk.2) (.int .i64 t249)) (fun _ hk => hk.2) (.int .i64 t250)) (fun _ h_ => h_.1)))); (case side2 => exact (Kd.R_reads' HO_15.out).2.1); rintro e w138 ⟨rfl, hb⟩; refine ⟨_, rfl, ?_⟩; have n0_ := am (Kd.R_below (by (with_reducible repeat (first | apply Kd.R_alloc | apply Kd.R_drewN | apply Kd.R_drew)); exact (Kd.R_mono (Kd.R_far (p := ⟨gb252, 3, none⟩) (Kd.R_far (p := ⟨gb252, 2, none⟩) (Kd.R_far (p := ⟨gb252, 1, none⟩) (Kd.R_far (p := ⟨gb252, 0, none⟩) (Kd.R_types HO_14.out BK252.out (by decide)) (fun _ hk => hk.2) (.bool t247)) (fun _ hk => hk.2) (.bool t248)) (fun _ hk => hk.2) (.int .i64 t249)) (fun _ hk => hk.2) (.int .i64 t250)) (fun _ h_ => h_.1))) hb); have n1_ := am (Kd.R_below (by (with_reducible repeat (first | apply Kd.R_alloc | apply Kd.R_drewN | apply Kd.R_drew)); exact (Kd.R_mono (Kd.R_far (p := ⟨gb252, 3, none⟩) (Kd.R_far (p := ⟨gb252, 2, none⟩) (Kd.R_far (p := ⟨gb252, 1, none⟩) (Kd.R_far (p := ⟨gb252, 0, none⟩) (Kd.R_types HO_15.out BK252.out (by decide)) (fun _ hk => hk.2) (.bool t247)) (fun _ hk => hk.2) (.bool t248)) (fun _ hk => hk.2) (.int .i64 t249)) (fun _ hk => hk.2) (.int .i64 t250)) (fun _ h_ => h_.1))) hb); have n2_ := am (blk_below (g := gb225) (o := .cells #[.bool a0_0, .bool a0_1, .int .i64 a0_2, .int .i64 a0_3] 49 (0, 0)) (by (with_reducible repeat (first | refine blk_drewN ?_ _ | refine blk_drew ?_ | refine blk_alloc ?_ _)); refine blk_far ?_ NB225_252.out _; (with_reducible repeat (first | refine blk_drewN ?_ _ | refine blk_drew ?_ | refine blk_alloc ?_ _)); refine blk_far ?_ NB225_252.out _; (with_reducible repeat (first | refine blk_drewN ?_ _ | refine blk_drew ?_ | refine blk_alloc ?_ _)); refine blk_far ?_ NB225_252.out _; (with_reducible repeat (first | refine blk_drewN ?_ _ | refine blk_drew ?_ | refine blk_alloc ?_ _)); refine blk_far ?_ NB225_252.out _; (with_reducible repeat (first | refine blk_drewN ?_ _ | refine blk_drew ?_ | refine blk_alloc ?_ _)); exact BK225.out) hb); have n3_ := am (blk_below (g := gb226) (o := .cells #[.bool a1_0, .bool a1_1, .int .i64 a1_2, .int .i64 a1_3] 49 (0, 0)) (by (with_reducible repeat (first | refine blk_drewN ?_ _ | refine blk_drew ?_ | refine blk_alloc ?_ _)); refine blk_far ?_ NB226_252.out _; (with_reducible repeat (first | refine blk_drewN ?_ _ | refine blk_drew ?_ | refine blk_alloc ?_ _)); refine blk_far ?_ NB226_252.out _; (with_reducible repeat (first | refine blk_drewN ?_ _ | refine blk_drew ?_ | refine blk_alloc ?_ _)); refine blk_far ?_ NB226_252.out _; (with_reducible repeat (first | refine blk_drewN ?_ _ | refine blk_drew ?_ | refine blk_alloc ?_ _)); refine blk_far ?_ NB226_252.out _; (with_reducible repeat (first | refine blk_drewN ?_ _ | refine blk_drew ?_ | refine blk_alloc ?_ _)); exact BK226.out) hb); have n4_ := am (blk_below (g := gb239) (o := .cells #[.bool t229, .bool t230, .int .i64 t231, .int .i64 t232] 49 (0, 0)) (by (with_reducible repeat (first | refine blk_drewN ?_ _ | refine blk_drew ?_ | refine blk_alloc ?_ _)); refine blk_far ?_ NB239_252.out _; (with_reducible repeat (first | refine blk_drewN ?_ _ | refine blk_drew ?_ | refine blk_alloc ?_ _)); refine blk_far ?_ NB239_252.out _; (with_reducible repeat (first | refine blk_drewN ?_ _ | refine blk_drew ?_ | refine blk_alloc ?_ _)); refine blk_far ?_ NB239_252.out _; (with_reducible repeat (first | refine blk_drewN ?_ _ | refine blk_drew ?_ | refine blk_alloc ?_ _)); refine blk_far ?_ NB239_252.out _; (with_reducible repeat (first | refine blk_drewN ?_ _ | refine blk_drew ?_ | refine blk_alloc ?_ _)); exact BK239.out) hb); have n5_ := am (blk_below (g := gb240) (o := .cells #[.bool t233, .bool t234, .int .i64 t235, .int .i64 t236] 49 (0, 0)) (by (with_reducible repeat (first | refine blk_drewN ?_ _ | refine blk_drew ?_ | refine blk_alloc ?_ _)); refine blk_far ?_ NB240_252.out _; (with_reducible repeat (first | refine blk_drewN ?_ _ | refine blk_drew ?_ | refine blk_alloc ?_ _)); refine blk_far ?_ NB240_252.out _; (with_reducible repeat (first | refine blk_drewN ?_ _ | refine blk_drew ?_ | refine blk_alloc ?_ _)); refine blk_far ?_ NB240_252.out _; (with_reducible repeat (first | refine blk_drewN ?_ _ | refine blk_drew ?_ | refine blk_alloc ?_ _)); refine blk_far ?_ NB240_252.out _; (with_reducible repeat (first | refine blk_drewN ?_ _ | refine blk_drew ?_ | refine blk_alloc ?_ _)); exact BK240.out) hb); have n6_ := am (blk_below (g := gb252) (o := .cells #[.bool t247, .bool t248, .int .i64 t249, .int .i64 t250] 49 (0, 0)) (by (with_reducible repeat (first | refine blk_drewN ?_ _ | refine blk_drew ?_ | refine blk_alloc ?_ _)); refine blk_put (cs := #[.bool t247, .bool t248, .int .i64 t249, .int .i64 0]) ?_ 3 _ rfl; (with_reducible repeat (first | refine blk_drewN ?_ _ | refine blk_drew ?_ | refine blk_alloc ?_ _)); refine blk_put (cs := #[.bool t247, .bool t248, .int .i64 0, .int .i64 0]) ?_ 2 _ rfl; (with_reducible repeat (first | refine blk_drewN ?_ _ | refine blk_drew ?_ | refine blk_alloc ?_ _)); refine blk_put (cs := #[.bool t247, .bool false, .int .i64 0, .int .i64 0]) ?_ 1 _ rfl; (with_reducible repeat (first | refine blk_drewN ?_ _ | refine blk_drew ?_ | refine blk_alloc ?_ _)); refine blk_put (cs := #[.bool false, .bool false, .int .i64 0, .int .i64 0]) ?_ 0 _ rfl; (with_reducible repeat (first | refine blk_drewN ?_ _ | refine blk_drew ?_ | refine blk_alloc ?_ _)); exact BK252.out) hb); have n7_ := am (below_step pw hb); clear HO_14; clear HO_15; clear BK225; clear BK226; clear BK239; clear BK240; clear BK252; clear HB; have HO_14 := n0_; have HO_15 := n1_; have BK225 := n2_; have BK226 := n3_; have BK239 := n4_; have BK240 := n5_; have BK252 := n6_; have HB := n7_; clear n0_ n1_ n2_ n3_ n4_ n5_ n6_ n7_; (try clear hb); (try clear hb2); (try clear hk); (try clear hi)) | ((with_reducible refine gate_dst (N := 20) rfl ?_); (try (refine gate_guard (by rfl) ?_; dsimp only)); refine box_event ?hg (N := 20) ?hd (cs := #[.bool false, .bool false, .int .i64 0, .int .i64 0]) (t := 49) ?hr ?_; (case hd => rfl); (case hg => rfl); (case hr => first | (go_simp; done) | (go_simp; rfl)); intro gb258 hg w139 hbox hb; have n0_ := am (Kd.R_below (by (with_reducible repeat (first | apply Kd.R_alloc | apply Kd.R_drewN | apply Kd.R_drew)); exact HO_14.out) hb); have n1_ := am (Kd.R_below (by (with_reducible repeat (first | apply Kd.R_alloc | apply Kd.R_drewN | apply Kd.R_drew)); exact HO_15.out) hb); have n2_ := bb BK225 hb; have n3_ := bb BK226 hb; have n4_ := bb BK239 hb; have n5_ := bb BK240 hb; have n6_ := bb BK252 hb; have n7_ := am (below_step pw hb); have n8_ := am (hbox); have n9_ := am ((by rw [hg]; exact (below_size pw) : w.heap.size ≤ gb258)); have n10_ := am ((by rw [hg]; exact (below_size pw) : w.heap.size ≤ gb258)); have n11_ := am ((by rw [hg]; exact Nat.ne_of_lt (blk_lt pk) : gb225 ≠ gb258)); have n12_ := am ((by rw [hg]; exact Nat.ne_of_gt (blk_lt pk) : gb258 ≠ gb225)); have n13_ := am ((by rw [hg]; exact Nat.ne_of_lt (blk_lt pk) : gb226 ≠ gb258)); have n14_ := am ((by rw [hg]; exact Nat.ne_of_gt (blk_lt pk) : gb258 ≠ gb226)); have n15_ := am ((by rw [hg]; exact Nat.ne_of_lt (blk_lt pk) : gb239 ≠ gb258)); have n16_ := am ((by rw [hg]; exact Nat.ne_of_gt (blk_lt pk) : gb258 ≠ gb239)); have n17_ := am ((by rw [hg]; exact Nat.ne_of_lt (blk_lt pk) : gb240 ≠ gb258)); have n18_ := am ((by rw [hg]; exact Nat.ne_of_gt (blk_lt pk) : gb258 ≠ gb240)); have n19_ := am ((by rw [hg]; exact Nat.ne_of_lt (blk_lt pk) : gb252 ≠ gb258)); have n20_ := am ((by rw [hg]; exact Nat.ne_of_gt (blk_lt pk) : gb258 ≠ gb252)); clear HO_14; clear HO_15; clear BK225; clear BK226; clear BK239; clear BK240; clear BK252; clear HB; have HO_14 := n0_; have HO_15 := n1_; have BK225 := n2_; have BK226 := n3_; have BK239 := n4_; have BK240 := n5_; have BK252 := n6_; have HB := n7_; have BK258 := n8_; have GW258 := n9_; have GE258 := n10_; have NB225_258 := n11_; have NB258_225 := n12_; have NB226_258 := n13_; have NB258_226 := n14_; have NB239_258 := n15_; have NB258_239 := n16_; have NB240_258 := n17_; have NB258_240 := n18_; have NB252_258 := n19_; have NB258_252 := n20_; clear n0_ n1_ n2_ n3_ n4_ n5_ n6_ n7_ n8_ n9_ n10_ n11_ n12_ n13_ n14_ n15_ n16_ n17_ n18_ n19_ n20_; clear hb hbox hg; have hnb140 := NB258_225.out; have hnc140 := NB225_258.out; have hnb141 := NB258_226.out; have hnc141 := NB226_258.out; have hnb142 := NB258_239.out; have hnc142 := NB239_258.out; have hnb143 := NB258_240.out; have hnc143 := NB240_258.out; have hnb144 := NB258_252.out; have hnc144 := NB252_258.out; have hcz145_0 : w139.cell? ⟨gb258, 0, none⟩ = some (.bool false) := bc BK258 0; have hcz145_1 : w139.cell? ⟨gb258, 1, none⟩ = some (.bool false) := bc BK258 1; have hcz145_2 : w139.cell? ⟨gb258, 2, none⟩ = some (.int .i64 0) := bc BK258 2; have hcz145_3 : w139.cell? ⟨gb258, 3, none⟩ = some (.int .i64 0) := bc BK258 3; have hfz145_0 := blk_frozen BK258.out 0; have hfz145_1 := blk_frozen BK258.out 1; have hfz145_2 := blk_frozen BK258.out 2; have hfz145_3 := blk_frozen BK258.out 3; have hnb146 := NB239_226.out; have hnc146 := NB226_239.out; have hnb147 := NB239_240.out; have hnc147 := NB240_239.out; have hcz148_0 : w139.cell? ⟨gb239, 0, none⟩ = some (.bool t229) := bc BK239 0; have hcz148_1 : w139.cell? ⟨gb239, 1, none⟩ = some (.bool t230) := bc BK239 1; have hcz148_2 : w139.cell? ⟨gb239, 2, none⟩ = some (.int .i64 t231) := bc BK239 2; have hcz148_3 : w139.cell? ⟨gb239, 3, none⟩ = some (.int .i64 t232) := bc BK239 3; have hfz148_0 := blk_frozen BK239.out 0; have hfz148_1 := blk_frozen BK239.out 1; have hfz148_2 := blk_frozen BK239.out 2; have hfz148_3 := blk_frozen BK239.out 3; have hcz149_0 : w139.cell? ⟨gb252, 0, none⟩ = some (.bool t247) := bc BK252 0; have hcz149_1 : w139.cell? ⟨gb252, 1, none⟩ = some (.bool t248) := bc BK252 1; have hcz149_2 : w139.cell? ⟨gb252, 2, none⟩ = some (.int .i64 t249) := bc BK252 2; have hcz149_3 : w139.cell? ⟨gb252, 3, none⟩ = some (.int .i64 t250) := bc BK252 3; have hfz149_0 := blk_frozen BK252.out 0; have hfz149_1 := blk_frozen BK252.out 1; have hfz149_2 := blk_frozen BK252.out 2; have hfz149_3 := blk_frozen BK252.out 3; have hnb150 := NB240_226.out; have hnc150 := NB226_240.out; have hcz151_0 : w139.cell? ⟨gb240, 0, none⟩ = some (.bool t233) := bc BK240 0; have hcz151_1 : w139.cell? ⟨gb240, 1, none⟩ = some (.bool t234) := bc BK240 1; have hcz151_2 : w139.cell? ⟨gb240, 2, none⟩ = some (.int .i64 t235) := bc BK240 2; have hcz151_3 : w139.cell? ⟨gb240, 3, none⟩ = some (.int .i64 t236) := bc BK240 3; have hfz151_0 := blk_frozen BK240.out 0; have hfz151_1 := blk_frozen BK240.out 1; have hfz151_2 := blk_frozen BK240.out 2; have hfz151_3 := blk_frozen BK240.out 3))
           go_ret
           exact ⟨pe, pw⟩
          rw [if_neg c124] at H
          exact absurd H (by simp)
         rw [if_neg c123] at H
         exact absurd H (by simp)
     have H1 : (none) = some r := by rw [if_neg (show ¬ (some q242).isNone = true by simp)] at H; exact H
     clear H
     have H := H1
     clear H1
     try simp only [errW_none, errW_some]
     exact absurd H (by simp)

end Go.Proofs.YtcalcnfppnbooaaDoor.R
