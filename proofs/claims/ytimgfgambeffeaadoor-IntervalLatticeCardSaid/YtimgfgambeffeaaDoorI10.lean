-- Written by wip/xprint.py (the session's program over the kit's print).
import Derived.Test.YtimgfgambeffeaaDoorEb
import Derived.Test.YtimgfgambeffeaaDoorCd
import Derived.Test.YtimgfgambeffeaaDoorI0
import Derived.Test.YtimgfgambeffeaaDoorI2
import Derived.Test.YtimgfgambeffeaaDoorI5
import Derived.Test.YtimgfgambeffeaaDoorI7
import Derived.Test.YtimgfgambeffeaaDoorI8
import Derived.Test.YtimgfgambeffeaaDoorI9
namespace Go.Proofs.YtimgfgambeffeaaDoor.I
open Go.RowKit Go.Proofs.YtimgfgambeffeaaDoorW.PrintWords Go.Proofs.YtimgfgambeffeaaDoorW.PrintLast Go.Proofs.YtimgfgambeffeaaDoorW.PrintMore Go.Proofs.Rcg
attribute [local go_sem] max2_int min2_int max_two min_two max_three min_three max_four min_four   -- for this text's walks alone
set_option linter.unusedVariables false
set_option linter.unusedSimpArgs false

/-! ### L2_IntervalLattice: function 7 -/
def L2_IntervalLattice.f (k : Nat) (a0_0 : Bool) (a0_1 : Bool) (a0_2 : Int) (a0_3 : Int) (a1_0 : Bool) (a1_1 : Bool) (a1_2 : Int) (a1_3 : Int) : Option (Bool) := (L2_three.f k).bind fun t192 => (if t192 = true then ((R2_TwoIntervals.f k a0_0 a0_1 a0_2 a0_3 a1_0 a1_1 a1_2 a1_3).bind fun t193 => ((interval_Join.f k a0_0 a0_1 a0_2 a0_3 a1_0 a1_1 a1_2 a1_3).bind fun bt194 => ((interval_Meet.f k a0_0 a0_1 a0_2 a0_3 a1_0 a1_1 a1_2 a1_3).bind fun bt200 => ((interval_Within.f k a0_0 a0_1 a0_2 a0_3 a1_0 a1_1 a1_2 a1_3).bind fun bt207 => (if t193 > 0 then ((L2_isSpan.f bt194.1 bt194.2.1 bt194.2.2.1 bt194.2.2.2.1 bt194.2.2.2.2 bt194.1 bt194.2.1 bt194.2.2.1 bt194.2.2.2.1 t193).bind fun t209 => (if t209 = true then ((L2_isSpan.f bt200.1 bt200.2.1 bt200.2.2.1 bt200.2.2.2.1 bt200.2.2.2.2.2 bt200.1 bt200.2.1 bt200.2.2.1 bt200.2.2.2.1 t193).bind fun t210 => (if t210 = true then ((L2_coded.f bt207.2 t193).bind fun t211 => (if t211 = true then (if bt200.2.2.2.2.1 = true then (none) else (some (!bt207.1))) else (none))) else (none))) else (none))) else ((R2_MetOf.f k a0_0 a0_1 a0_2 a0_3 a1_0 a1_1 a1_2 a1_3).bind fun bt212 => ((R2_JoinedOf.f k a0_0 a0_1 a0_2 a0_3 a1_0 a1_1 a1_2 a1_3).bind fun bt218 => ((L2_isSpan.f bt194.1 bt194.2.1 bt194.2.2.1 bt194.2.2.2.1 bt194.2.2.2.2 bt218.1 bt218.2.1 bt218.2.2.1 bt218.2.2.2 0).bind fun t222 => (if t222 = true then ((L2_isSpan.f bt200.1 bt200.2.1 bt200.2.2.1 bt200.2.2.2.1 bt200.2.2.2.2.2 bt212.1 bt212.2.1 bt212.2.2.1 bt212.2.2.2.1 0).bind fun t223 => (if t223 = true then (if (bt200.2.2.2.2.1 == bt212.2.2.2.2) = true then (if bt207.2.isNone = true then ((R2_InsideOf.f k a0_0 a0_1 a0_2 a0_3 a1_0 a1_1 a1_2 a1_3).bind fun t225 => (some (bt207.1 == t225))) else (none)) else (none)) else (none))) else (none)))))))))) else (none))
theorem L2_IntervalLattice.mono : ∀ a0 a1 a2 a3 a4 a5 a6 a7 k, LeO (L2_IntervalLattice.f k a0 a1 a2 a3 a4 a5 a6 a7) (L2_IntervalLattice.f (k + 1) a0 a1 a2 a3 a4 a5 a6 a7) := by
 intro a0 a1 a2 a3 a4 a5 a6 a7 k
 unfold L2_IntervalLattice.f
 repeat' first
   | (with_reducible exact L2_three.mono _)
   | (with_reducible exact R2_InsideOf.mono _ _ _ _ _ _ _ _ _)
   | (with_reducible exact R2_JoinedOf.mono _ _ _ _ _ _ _ _ _)
   | (with_reducible exact R2_MetOf.mono _ _ _ _ _ _ _ _ _)
   | (with_reducible exact R2_TwoIntervals.mono _ _ _ _ _ _ _ _ _)
   | (with_reducible exact interval_Join.mono _ _ _ _ _ _ _ _ _)
   | (with_reducible exact interval_Meet.mono _ _ _ _ _ _ _ _ _)
   | (with_reducible exact interval_Within.mono _ _ _ _ _ _ _ _ _)
   | (with_reducible exact LeO.refl _)
   | (with_reducible exact LeO.none _)
   | (with_reducible refine LeO.ite ?_ ?_)
   | (with_reducible refine LeO.bind ?_ (fun _ => ?_))
   | exact L2_three.mono _
   | exact R2_InsideOf.mono _ _ _ _ _ _ _ _ _
   | exact R2_JoinedOf.mono _ _ _ _ _ _ _ _ _
   | exact R2_MetOf.mono _ _ _ _ _ _ _ _ _
   | exact R2_TwoIntervals.mono _ _ _ _ _ _ _ _ _
   | exact interval_Join.mono _ _ _ _ _ _ _ _ _
   | exact interval_Meet.mono _ _ _ _ _ _ _ _ _
   | exact interval_Within.mono _ _ _ _ _ _ _ _ _
   | exact LeO.none _
   | refine LeO.ite ?_ ?_
   | refine LeO.bind ?_ (fun _ => ?_)
def L2_IntervalLattice.T11 : Bool × List (List Nat × List Nat) := (true, [([], []), ([], []), ([], []), ([], []), ([2, 3], [2, 3]), ([0, 1, 4, 4], [0, 1, 4]), ([5, 5], [5]), ([6], [6]), ([6], [6]), ([6], [6]), ([7, 8, 9, 6, 6], [6, 7, 8, 9]), ([6, 10], [6, 10]), ([11, 10], [11]), ([12], [12]), ([12], [12]), ([13, 14, 12], [12, 13, 14]), ([12, 15], [12, 15]), ([16, 12], [16]), ([17], [17]), ([18, 17], [17, 18]), ([17, 19], [17, 19]), ([20, 17], [20]), ([21], [21]), ([21], [21]), ([21], [21]), ([23, 24, 21, 21], [21, 23, 24]), ([22, 25, 21], [21, 22, 25]), ([21, 26], [21, 26]), ([27, 25, 0, 1, 2, 3, 4, 5, 6, 7, 8, 9, 10, 11, 12, 13, 14, 15, 16, 17, 18, 19, 20, 21, 22, 23, 24, 25, 26, 27], [27])])
def L2_IntervalLattice.B11 : List Nat := [0, 0, 0, 0, 12, 31, 63, 127, 127, 127, 1023, 2047, 4095, 8191, 8191, 32767, 65535, 131071, 262143, 524287, 1048575, 2097151, 4194303, 4194303, 4194303, 29360127, 67108863, 134217727, 268435455]
theorem L2_IntervalLattice.tab11 : rtab .any (opsOf Tryd.f7 11) = L2_IntervalLattice.T11 := by kernel_rfl
theorem L2_IntervalLattice.bits11 : waitsOk L2_IntervalLattice.T11.2 L2_IntervalLattice.B11 = true := by kernel_rfl
set_option maxHeartbeats 8000000 in
set_option maxRecDepth 100000 in
theorem L2_IntervalLattice.calls [EA] (k : Nat) (a0_0 : Bool) (a0_1 : Bool) (a0_2 : Int) (a0_3 : Int) (a1_0 : Bool) (a1_1 : Bool) (a1_2 : Int) (a1_3 : Int) (r : Bool) (w : World) (h : L2_IntervalLattice.f k a0_0 a0_1 a0_2 a0_3 a1_0 a1_1 a1_2 a1_3 = some r) (h2_ : ErrAt 2 1 w) (h3_ : ErrAt 3 0 w) (h9_ : ErrAll w) :
  Calls Tryd.prog 7 #[.agg #[.bool a0_0, .bool a0_1, .int .i64 a0_2, .int .i64 a0_3], .agg #[.bool a1_0, .bool a1_1, .int .i64 a1_2, .int .i64 a1_3]] w fun e w' => e = .returned (.bool r) ∧ Below w.heap.size w w' := by
 have hE2 := am h2_
 clear h2_
 have hE3 := am h3_
 clear h3_
 have hE9 := am h9_
 clear h9_
 have hu23 := Tryd.underlying23
 have hu28 := Tryd.underlying28
 have HB := am (Below.refl w.heap.size w)
 have H : ((L2_three.f k).bind fun t192 => (if t192 = true then ((R2_TwoIntervals.f k a0_0 a0_1 a0_2 a0_3 a1_0 a1_1 a1_2 a1_3).bind fun t193 => ((interval_Join.f k a0_0 a0_1 a0_2 a0_3 a1_0 a1_1 a1_2 a1_3).bind fun bt194 => ((interval_Meet.f k a0_0 a0_1 a0_2 a0_3 a1_0 a1_1 a1_2 a1_3).bind fun bt200 => ((interval_Within.f k a0_0 a0_1 a0_2 a0_3 a1_0 a1_1 a1_2 a1_3).bind fun bt207 => (if t193 > 0 then ((L2_isSpan.f bt194.1 bt194.2.1 bt194.2.2.1 bt194.2.2.2.1 bt194.2.2.2.2 bt194.1 bt194.2.1 bt194.2.2.1 bt194.2.2.2.1 t193).bind fun t209 => (if t209 = true then ((L2_isSpan.f bt200.1 bt200.2.1 bt200.2.2.1 bt200.2.2.2.1 bt200.2.2.2.2.2 bt200.1 bt200.2.1 bt200.2.2.1 bt200.2.2.2.1 t193).bind fun t210 => (if t210 = true then ((L2_coded.f bt207.2 t193).bind fun t211 => (if t211 = true then (if bt200.2.2.2.2.1 = true then (none) else (some (!bt207.1))) else (none))) else (none))) else (none))) else ((R2_MetOf.f k a0_0 a0_1 a0_2 a0_3 a1_0 a1_1 a1_2 a1_3).bind fun bt212 => ((R2_JoinedOf.f k a0_0 a0_1 a0_2 a0_3 a1_0 a1_1 a1_2 a1_3).bind fun bt218 => ((L2_isSpan.f bt194.1 bt194.2.1 bt194.2.2.1 bt194.2.2.2.1 bt194.2.2.2.2 bt218.1 bt218.2.1 bt218.2.2.1 bt218.2.2.2 0).bind fun t222 => (if t222 = true then ((L2_isSpan.f bt200.1 bt200.2.1 bt200.2.2.1 bt200.2.2.2.1 bt200.2.2.2.2.2 bt212.1 bt212.2.1 bt212.2.2.1 bt212.2.2.2.1 0).bind fun t223 => (if t223 = true then (if (bt200.2.2.2.2.1 == bt212.2.2.2.2) = true then (if bt207.2.isNone = true then ((R2_InsideOf.f k a0_0 a0_1 a0_2 a0_3 a1_0 a1_1 a1_2 a1_3).bind fun t225 => (some (bt207.1 == t225))) else (none)) else (none)) else (none))) else (none)))))))))) else (none))) = some r := h
 clear h
 replace H := Option.bind_eq_some_iff.mp H
 obtain ⟨t192, A30, H⟩ := H
 replace H : (if t192 = true then ((R2_TwoIntervals.f k a0_0 a0_1 a0_2 a0_3 a1_0 a1_1 a1_2 a1_3).bind fun t193 => ((interval_Join.f k a0_0 a0_1 a0_2 a0_3 a1_0 a1_1 a1_2 a1_3).bind fun bt194 => ((interval_Meet.f k a0_0 a0_1 a0_2 a0_3 a1_0 a1_1 a1_2 a1_3).bind fun bt200 => ((interval_Within.f k a0_0 a0_1 a0_2 a0_3 a1_0 a1_1 a1_2 a1_3).bind fun bt207 => (if t193 > 0 then ((L2_isSpan.f bt194.1 bt194.2.1 bt194.2.2.1 bt194.2.2.2.1 bt194.2.2.2.2 bt194.1 bt194.2.1 bt194.2.2.1 bt194.2.2.2.1 t193).bind fun t209 => (if t209 = true then ((L2_isSpan.f bt200.1 bt200.2.1 bt200.2.2.1 bt200.2.2.2.1 bt200.2.2.2.2.2 bt200.1 bt200.2.1 bt200.2.2.1 bt200.2.2.2.1 t193).bind fun t210 => (if t210 = true then ((L2_coded.f bt207.2 t193).bind fun t211 => (if t211 = true then (if bt200.2.2.2.2.1 = true then (none) else (some (!bt207.1))) else (none))) else (none))) else (none))) else ((R2_MetOf.f k a0_0 a0_1 a0_2 a0_3 a1_0 a1_1 a1_2 a1_3).bind fun bt212 => ((R2_JoinedOf.f k a0_0 a0_1 a0_2 a0_3 a1_0 a1_1 a1_2 a1_3).bind fun bt218 => ((L2_isSpan.f bt194.1 bt194.2.1 bt194.2.2.1 bt194.2.2.2.1 bt194.2.2.2.2 bt218.1 bt218.2.1 bt218.2.2.1 bt218.2.2.2 0).bind fun t222 => (if t222 = true then ((L2_isSpan.f bt200.1 bt200.2.1 bt200.2.2.1 bt200.2.2.2.1 bt200.2.2.2.2.2 bt212.1 bt212.2.1 bt212.2.2.1 bt212.2.2.2.1 0).bind fun t223 => (if t223 = true then (if (bt200.2.2.2.2.1 == bt212.2.2.2.2) = true then (if bt207.2.isNone = true then ((R2_InsideOf.f k a0_0 a0_1 a0_2 a0_3 a1_0 a1_1 a1_2 a1_3).bind fun t225 => (some (bt207.1 == t225))) else (none)) else (none)) else (none))) else (none)))))))))) else (none)) = some r := H
 have A3 := am A30
 clear A30
 by_cases c4 : t192 = true
 ·subst c4
  have H1 : ((R2_TwoIntervals.f k a0_0 a0_1 a0_2 a0_3 a1_0 a1_1 a1_2 a1_3).bind fun t193 => ((interval_Join.f k a0_0 a0_1 a0_2 a0_3 a1_0 a1_1 a1_2 a1_3).bind fun bt194 => ((interval_Meet.f k a0_0 a0_1 a0_2 a0_3 a1_0 a1_1 a1_2 a1_3).bind fun bt200 => ((interval_Within.f k a0_0 a0_1 a0_2 a0_3 a1_0 a1_1 a1_2 a1_3).bind fun bt207 => (if t193 > 0 then ((L2_isSpan.f bt194.1 bt194.2.1 bt194.2.2.1 bt194.2.2.2.1 bt194.2.2.2.2 bt194.1 bt194.2.1 bt194.2.2.1 bt194.2.2.2.1 t193).bind fun t209 => (if t209 = true then ((L2_isSpan.f bt200.1 bt200.2.1 bt200.2.2.1 bt200.2.2.2.1 bt200.2.2.2.2.2 bt200.1 bt200.2.1 bt200.2.2.1 bt200.2.2.2.1 t193).bind fun t210 => (if t210 = true then ((L2_coded.f bt207.2 t193).bind fun t211 => (if t211 = true then (if bt200.2.2.2.2.1 = true then (none) else (some (!bt207.1))) else (none))) else (none))) else (none))) else ((R2_MetOf.f k a0_0 a0_1 a0_2 a0_3 a1_0 a1_1 a1_2 a1_3).bind fun bt212 => ((R2_JoinedOf.f k a0_0 a0_1 a0_2 a0_3 a1_0 a1_1 a1_2 a1_3).bind fun bt218 => ((L2_isSpan.f bt194.1 bt194.2.1 bt194.2.2.1 bt194.2.2.2.1 bt194.2.2.2.2 bt218.1 bt218.2.1 bt218.2.2.1 bt218.2.2.2 0).bind fun t222 => (if t222 = true then ((L2_isSpan.f bt200.1 bt200.2.1 bt200.2.2.1 bt200.2.2.2.1 bt200.2.2.2.2.2 bt212.1 bt212.2.1 bt212.2.2.1 bt212.2.2.2.1 0).bind fun t223 => (if t223 = true then (if (bt200.2.2.2.2.1 == bt212.2.2.2.2) = true then (if bt207.2.isNone = true then ((R2_InsideOf.f k a0_0 a0_1 a0_2 a0_3 a1_0 a1_1 a1_2 a1_3).bind fun t225 => (some (bt207.1 == t225))) else (none)) else (none)) else (none))) else (none)))))))))) = some r := by rw [if_pos rfl] at H; exact H
  clear H
  have H := H1
  clear H1
  replace H := Option.bind_eq_some_iff.mp H
  obtain ⟨t193, A50, H⟩ := H
  replace H : ((interval_Join.f k a0_0 a0_1 a0_2 a0_3 a1_0 a1_1 a1_2 a1_3).bind fun bt194 => ((interval_Meet.f k a0_0 a0_1 a0_2 a0_3 a1_0 a1_1 a1_2 a1_3).bind fun bt200 => ((interval_Within.f k a0_0 a0_1 a0_2 a0_3 a1_0 a1_1 a1_2 a1_3).bind fun bt207 => (if t193 > 0 then ((L2_isSpan.f bt194.1 bt194.2.1 bt194.2.2.1 bt194.2.2.2.1 bt194.2.2.2.2 bt194.1 bt194.2.1 bt194.2.2.1 bt194.2.2.2.1 t193).bind fun t209 => (if t209 = true then ((L2_isSpan.f bt200.1 bt200.2.1 bt200.2.2.1 bt200.2.2.2.1 bt200.2.2.2.2.2 bt200.1 bt200.2.1 bt200.2.2.1 bt200.2.2.2.1 t193).bind fun t210 => (if t210 = true then ((L2_coded.f bt207.2 t193).bind fun t211 => (if t211 = true then (if bt200.2.2.2.2.1 = true then (none) else (some (!bt207.1))) else (none))) else (none))) else (none))) else ((R2_MetOf.f k a0_0 a0_1 a0_2 a0_3 a1_0 a1_1 a1_2 a1_3).bind fun bt212 => ((R2_JoinedOf.f k a0_0 a0_1 a0_2 a0_3 a1_0 a1_1 a1_2 a1_3).bind fun bt218 => ((L2_isSpan.f bt194.1 bt194.2.1 bt194.2.2.1 bt194.2.2.2.1 bt194.2.2.2.2 bt218.1 bt218.2.1 bt218.2.2.1 bt218.2.2.2 0).bind fun t222 => (if t222 = true then ((L2_isSpan.f bt200.1 bt200.2.1 bt200.2.2.1 bt200.2.2.2.1 bt200.2.2.2.2.2 bt212.1 bt212.2.1 bt212.2.2.1 bt212.2.2.2.1 0).bind fun t223 => (if t223 = true then (if (bt200.2.2.2.2.1 == bt212.2.2.2.2) = true then (if bt207.2.isNone = true then ((R2_InsideOf.f k a0_0 a0_1 a0_2 a0_3 a1_0 a1_1 a1_2 a1_3).bind fun t225 => (some (bt207.1 == t225))) else (none)) else (none)) else (none))) else (none))))))))) = some r := H
  have A5 := am A50
  clear A50
  replace H := Option.bind_eq_some_iff.mp H
  obtain ⟨⟨t194, t195, t196, t197, t198⟩, A60, H⟩ := H
  replace H : ((interval_Meet.f k a0_0 a0_1 a0_2 a0_3 a1_0 a1_1 a1_2 a1_3).bind fun bt200 => ((interval_Within.f k a0_0 a0_1 a0_2 a0_3 a1_0 a1_1 a1_2 a1_3).bind fun bt207 => (if t193 > 0 then ((L2_isSpan.f t194 t195 t196 t197 t198 t194 t195 t196 t197 t193).bind fun t209 => (if t209 = true then ((L2_isSpan.f bt200.1 bt200.2.1 bt200.2.2.1 bt200.2.2.2.1 bt200.2.2.2.2.2 bt200.1 bt200.2.1 bt200.2.2.1 bt200.2.2.2.1 t193).bind fun t210 => (if t210 = true then ((L2_coded.f bt207.2 t193).bind fun t211 => (if t211 = true then (if bt200.2.2.2.2.1 = true then (none) else (some (!bt207.1))) else (none))) else (none))) else (none))) else ((R2_MetOf.f k a0_0 a0_1 a0_2 a0_3 a1_0 a1_1 a1_2 a1_3).bind fun bt212 => ((R2_JoinedOf.f k a0_0 a0_1 a0_2 a0_3 a1_0 a1_1 a1_2 a1_3).bind fun bt218 => ((L2_isSpan.f t194 t195 t196 t197 t198 bt218.1 bt218.2.1 bt218.2.2.1 bt218.2.2.2 0).bind fun t222 => (if t222 = true then ((L2_isSpan.f bt200.1 bt200.2.1 bt200.2.2.1 bt200.2.2.2.1 bt200.2.2.2.2.2 bt212.1 bt212.2.1 bt212.2.2.1 bt212.2.2.2.1 0).bind fun t223 => (if t223 = true then (if (bt200.2.2.2.2.1 == bt212.2.2.2.2) = true then (if bt207.2.isNone = true then ((R2_InsideOf.f k a0_0 a0_1 a0_2 a0_3 a1_0 a1_1 a1_2 a1_3).bind fun t225 => (some (bt207.1 == t225))) else (none)) else (none)) else (none))) else (none)))))))) = some r := H
  have A6 := am A60
  clear A60
  replace H := Option.bind_eq_some_iff.mp H
  obtain ⟨⟨t200, t201, t202, t203, t204, t205⟩, A70, H⟩ := H
  replace H : ((interval_Within.f k a0_0 a0_1 a0_2 a0_3 a1_0 a1_1 a1_2 a1_3).bind fun bt207 => (if t193 > 0 then ((L2_isSpan.f t194 t195 t196 t197 t198 t194 t195 t196 t197 t193).bind fun t209 => (if t209 = true then ((L2_isSpan.f t200 t201 t202 t203 t205 t200 t201 t202 t203 t193).bind fun t210 => (if t210 = true then ((L2_coded.f bt207.2 t193).bind fun t211 => (if t211 = true then (if t204 = true then (none) else (some (!bt207.1))) else (none))) else (none))) else (none))) else ((R2_MetOf.f k a0_0 a0_1 a0_2 a0_3 a1_0 a1_1 a1_2 a1_3).bind fun bt212 => ((R2_JoinedOf.f k a0_0 a0_1 a0_2 a0_3 a1_0 a1_1 a1_2 a1_3).bind fun bt218 => ((L2_isSpan.f t194 t195 t196 t197 t198 bt218.1 bt218.2.1 bt218.2.2.1 bt218.2.2.2 0).bind fun t222 => (if t222 = true then ((L2_isSpan.f t200 t201 t202 t203 t205 bt212.1 bt212.2.1 bt212.2.2.1 bt212.2.2.2.1 0).bind fun t223 => (if t223 = true then (if (t204 == bt212.2.2.2.2) = true then (if bt207.2.isNone = true then ((R2_InsideOf.f k a0_0 a0_1 a0_2 a0_3 a1_0 a1_1 a1_2 a1_3).bind fun t225 => (some (bt207.1 == t225))) else (none)) else (none)) else (none))) else (none))))))) = some r := H
  have A7 := am A70
  clear A70
  replace H := Option.bind_eq_some_iff.mp H
  obtain ⟨⟨t207, t208⟩, A80, H⟩ := H
  replace H : (if t193 > 0 then ((L2_isSpan.f t194 t195 t196 t197 t198 t194 t195 t196 t197 t193).bind fun t209 => (if t209 = true then ((L2_isSpan.f t200 t201 t202 t203 t205 t200 t201 t202 t203 t193).bind fun t210 => (if t210 = true then ((L2_coded.f t208 t193).bind fun t211 => (if t211 = true then (if t204 = true then (none) else (some (!t207))) else (none))) else (none))) else (none))) else ((R2_MetOf.f k a0_0 a0_1 a0_2 a0_3 a1_0 a1_1 a1_2 a1_3).bind fun bt212 => ((R2_JoinedOf.f k a0_0 a0_1 a0_2 a0_3 a1_0 a1_1 a1_2 a1_3).bind fun bt218 => ((L2_isSpan.f t194 t195 t196 t197 t198 bt218.1 bt218.2.1 bt218.2.2.1 bt218.2.2.2 0).bind fun t222 => (if t222 = true then ((L2_isSpan.f t200 t201 t202 t203 t205 bt212.1 bt212.2.1 bt212.2.2.1 bt212.2.2.2.1 0).bind fun t223 => (if t223 = true then (if (t204 == bt212.2.2.2.2) = true then (if t208.isNone = true then ((R2_InsideOf.f k a0_0 a0_1 a0_2 a0_3 a1_0 a1_1 a1_2 a1_3).bind fun t225 => (some (t207 == t225))) else (none)) else (none)) else (none))) else (none)))))) = some r := H
  have A8 := am A80
  clear A80
  by_cases c9 : t193 > 0
  ·rw [if_pos c9] at H
   have c9b0 : decide (0 < t193) = true := decide_eq_true c9
   clear c9
   replace H := Option.bind_eq_some_iff.mp H
   obtain ⟨t209, A100, H⟩ := H
   replace H : (if t209 = true then ((L2_isSpan.f t200 t201 t202 t203 t205 t200 t201 t202 t203 t193).bind fun t210 => (if t210 = true then ((L2_coded.f t208 t193).bind fun t211 => (if t211 = true then (if t204 = true then (none) else (some (!t207))) else (none))) else (none))) else (none)) = some r := H
   have A10 := am A100
   clear A100
   by_cases c11 : t209 = true
   ·subst c11
    have H1 : ((L2_isSpan.f t200 t201 t202 t203 t205 t200 t201 t202 t203 t193).bind fun t210 => (if t210 = true then ((L2_coded.f t208 t193).bind fun t211 => (if t211 = true then (if t204 = true then (none) else (some (!t207))) else (none))) else (none))) = some r := by rw [if_pos rfl] at H; exact H
    clear H
    have H := H1
    clear H1
    replace H := Option.bind_eq_some_iff.mp H
    obtain ⟨t210, A120, H⟩ := H
    replace H : (if t210 = true then ((L2_coded.f t208 t193).bind fun t211 => (if t211 = true then (if t204 = true then (none) else (some (!t207))) else (none))) else (none)) = some r := H
    have A12 := am A120
    clear A120
    by_cases c13 : t210 = true
    ·subst c13
     have H1 : ((L2_coded.f t208 t193).bind fun t211 => (if t211 = true then (if t204 = true then (none) else (some (!t207))) else (none))) = some r := by rw [if_pos rfl] at H; exact H
     clear H
     have H := H1
     clear H1
     replace H := Option.bind_eq_some_iff.mp H
     obtain ⟨t211, A140, H⟩ := H
     replace H : (if t211 = true then (if t204 = true then (none) else (some (!t207))) else (none)) = some r := H
     have A14 := am A140
     clear A140
     by_cases c15 : t211 = true
     ·subst c15
      have H1 : (if t204 = true then (none) else (some (!t207))) = some r := by rw [if_pos rfl] at H; exact H
      clear H
      have H := H1
      clear H1
      by_cases c16 : t204 = true
      ·subst c16
       have H1 : (none) = some r := by rw [if_pos rfl] at H; exact H
       clear H
       have H := H1
       clear H1
       exact absurd H (by simp)
      replace c16 := Bool.eq_false_iff.mpr c16
      subst c16
      have H1 : (some (!t207)) = some r := by rw [if_neg (show ¬ (false = true) by decide)] at H; exact H
      clear H
      have H := H1
      clear H1
      obtain rfl := Option.some.inj H
      go_enter Tryd.func7, Tryd.ntmps7
      go_wp2_with (first | ((with_reducible refine gate_dst (N := 2) rfl ?_); refine box_event ?hg (N := 2) ?hd (cs := #[.bool a0_0, .bool a0_1, .int .i64 a0_2, .int .i64 a0_3]) (t := 23) ?hr ?_; (case hd => rfl); (case hg => rfl); (case hr => first | (go_simp; done) | (go_simp; rfl)); intro gb190 hg w17 hbox hb; have n0_ := am (below_step pw hb); have n1_ := am (hbox); have n2_ := am ((by rw [hg]; exact (below_size pw) : w.heap.size ≤ gb190)); have n3_ := am ((by rw [hg]; exact (below_size pw) : w.heap.size ≤ gb190)); clear HB; have HB := n0_; have BK190 := n1_; have GW190 := n2_; have GE190 := n3_; clear n0_ n1_ n2_ n3_; clear hb hbox hg) | ((with_reducible refine gate_dst (N := 3) rfl ?_); refine box_event ?hg (N := 3) ?hd (cs := #[.bool a1_0, .bool a1_1, .int .i64 a1_2, .int .i64 a1_3]) (t := 23) ?hr ?_; (case hd => rfl); (case hg => rfl); (case hr => first | (go_simp; done) | (go_simp; rfl)); intro gb191 hg w18 hbox hb; have n0_ := bb BK190 hb; have n1_ := am (below_step pw hb); have n2_ := am (hbox); have n3_ := am ((by rw [hg]; exact (below_size pw) : w.heap.size ≤ gb191)); have n4_ := am ((by rw [hg]; exact (below_size pw) : w.heap.size ≤ gb191)); have n5_ := am ((by rw [hg]; exact Nat.ne_of_lt (blk_lt pk) : gb190 ≠ gb191)); have n6_ := am ((by rw [hg]; exact Nat.ne_of_gt (blk_lt pk) : gb191 ≠ gb190)); clear BK190; clear HB; have BK190 := n0_; have HB := n1_; have BK191 := n2_; have GW191 := n3_; have GE191 := n4_; have NB190_191 := n5_; have NB191_190 := n6_; clear n0_ n1_ n2_ n3_ n4_ n5_ n6_; clear hb hbox hg) | ((with_reducible refine gate_callee (f := 12) rfl ?_); refine goesL_ (some 16) rfl rfl Tryd.func12 kk rfl #[] rfl (by (try simp only [List.map_toArray, List.map_cons, List.map_nil]); first | done | rfl | (simp only [List.length_drop, List.length_take]; rfl)) ?_; (with_reducible refine (L2_three.calls k  true _ A3.out (am (ErrAt.below hE2.out pw)).out (am (ErrAt.below hE3.out pw)).out).mono ?_); rintro e w19 ⟨rfl, hb⟩; refine ⟨_, rfl, ?_⟩; have n0_ := bb BK190 hb; have n1_ := bb BK191 hb; have n2_ := am (below_step pw hb); clear BK190; clear BK191; clear HB; have BK190 := n0_; have BK191 := n1_; have HB := n2_; clear n0_ n1_ n2_; (try clear hb); (try clear hb2); (try clear hk); (try clear hi); have hnb20 := NB190_191.out; have hnc20 := NB191_190.out; have hcz21_0 : w19.cell? ⟨gb190, 0, none⟩ = some (.bool a0_0) := bc BK190 0; have hcz21_1 : w19.cell? ⟨gb190, 1, none⟩ = some (.bool a0_1) := bc BK190 1; have hcz21_2 : w19.cell? ⟨gb190, 2, none⟩ = some (.int .i64 a0_2) := bc BK190 2; have hcz21_3 : w19.cell? ⟨gb190, 3, none⟩ = some (.int .i64 a0_3) := bc BK190 3; have hfz21_0 := blk_frozen BK190.out 0; have hfz21_1 := blk_frozen BK190.out 1; have hfz21_2 := blk_frozen BK190.out 2; have hfz21_3 := blk_frozen BK190.out 3; have hcz22_0 : w19.cell? ⟨gb191, 0, none⟩ = some (.bool a1_0) := bc BK191 0; have hcz22_1 : w19.cell? ⟨gb191, 1, none⟩ = some (.bool a1_1) := bc BK191 1; have hcz22_2 : w19.cell? ⟨gb191, 2, none⟩ = some (.int .i64 a1_2) := bc BK191 2; have hcz22_3 : w19.cell? ⟨gb191, 3, none⟩ = some (.int .i64 a1_3) := bc BK191 3; have hfz22_0 := blk_frozen BK191.out 0; have hfz22_1 := blk_frozen BK191.out 1; have hfz22_2 := blk_frozen BK191.out 2; have hfz22_3 := blk_frozen BK191.out 3) | ((with_reducible refine gate_callee (f := 32) rfl ?_); refine goesL_ (some 21) rfl rfl Tryd.func32 kk rfl #[.agg #[.bool a0_0, .bool a0_1, .int .i64 a0_2, .int .i64 a0_3], .agg #[.bool a1_0, .bool a1_1, .int .i64 a1_2, .int .i64 a1_3]] rfl (by (try simp only [List.map_toArray, List.map_cons, List.map_nil]); first | done | rfl | (simp only [List.length_drop, List.length_take]; rfl)) ?_; (with_reducible refine (R2_TwoIntervals.calls k a0_0 a0_1 a0_2 a0_3 a1_0 a1_1 a1_2 a1_3 t193 _ A5.out).mono ?_); rintro e w23 ⟨rfl, hb⟩; refine ⟨_, rfl, ?_⟩; have n0_ := bb BK190 hb; have n1_ := bb BK191 hb; have n2_ := am (below_step pw hb); clear BK190; clear BK191; clear HB; have BK190 := n0_; have BK191 := n1_; have HB := n2_; clear n0_ n1_ n2_; (try clear hb); (try clear hb2); (try clear hk); (try clear hi); have hcz24_0 : w23.cell? ⟨gb190, 0, none⟩ = some (.bool a0_0) := bc BK190 0; have hcz24_1 : w23.cell? ⟨gb190, 1, none⟩ = some (.bool a0_1) := bc BK190 1; have hcz24_2 : w23.cell? ⟨gb190, 2, none⟩ = some (.int .i64 a0_2) := bc BK190 2; have hcz24_3 : w23.cell? ⟨gb190, 3, none⟩ = some (.int .i64 a0_3) := bc BK190 3; have hfz24_0 := blk_frozen BK190.out 0; have hfz24_1 := blk_frozen BK190.out 1; have hfz24_2 := blk_frozen BK190.out 2; have hfz24_3 := blk_frozen BK190.out 3; have hcz25_0 : w23.cell? ⟨gb191, 0, none⟩ = some (.bool a1_0) := bc BK191 0; have hcz25_1 : w23.cell? ⟨gb191, 1, none⟩ = some (.bool a1_1) := bc BK191 1; have hcz25_2 : w23.cell? ⟨gb191, 2, none⟩ = some (.int .i64 a1_2) := bc BK191 2; have hcz25_3 : w23.cell? ⟨gb191, 3, none⟩ = some (.int .i64 a1_3) := bc BK191 3; have hfz25_0 := blk_frozen BK191.out 0; have hfz25_1 := blk_frozen BK191.out 1; have hfz25_2 := blk_frozen BK191.out 2; have hfz25_3 := blk_frozen BK191.out 3) | ((with_reducible refine gate_callee (f := 33) rfl ?_); refine goesL_ (some 25) rfl rfl Tryd.func33 kk rfl #[.agg #[.bool a0_0, .bool a0_1, .int .i64 a0_2, .int .i64 a0_3], .agg #[.bool a1_0, .bool a1_1, .int .i64 a1_2, .int .i64 a1_3]] rfl (by (try simp only [List.map_toArray, List.map_cons, List.map_nil]); first | done | rfl | (simp only [List.length_drop, List.length_take]; rfl)) ?_; (with_reducible refine (interval_Join.calls k a0_0 a0_1 a0_2 a0_3 a1_0 a1_1 a1_2 a1_3 t194 t195 t196 t197 t198 _ A6.out (am (ErrAt.below hE2.out pw)).out (am (ErrAt.below hE3.out pw)).out).mono ?_); rintro e w26 ⟨rfl, hb⟩; refine ⟨_, rfl, ?_⟩; have n0_ := bb BK190 hb; have n1_ := bb BK191 hb; have n2_ := am (below_step pw hb); clear BK190; clear BK191; clear HB; have BK190 := n0_; have BK191 := n1_; have HB := n2_; clear n0_ n1_ n2_; (try clear hb); (try clear hb2); (try clear hk); (try clear hi); (try simp only [errW_none, errW_some])) | ((with_reducible refine gate_dst (N := 7) rfl ?_); refine box_event ?hg (N := 7) ?hd (cs := #[.bool false, .bool false, .int .i64 0, .int .i64 0]) (t := 23) ?hr ?_; (case hd => rfl); (case hg => rfl); (case hr => first | (go_simp; done) | (go_simp; rfl)); intro gb199 hg w27 hbox hb; have n0_ := bb BK190 hb; have n1_ := bb BK191 hb; have n2_ := am (below_step pw hb); have n3_ := am (hbox); have n4_ := am ((by rw [hg]; exact (below_size pw) : w.heap.size ≤ gb199)); have n5_ := am ((by rw [hg]; exact (below_size pw) : w.heap.size ≤ gb199)); have n6_ := am ((by rw [hg]; exact Nat.ne_of_lt (blk_lt pk) : gb190 ≠ gb199)); have n7_ := am ((by rw [hg]; exact Nat.ne_of_gt (blk_lt pk) : gb199 ≠ gb190)); have n8_ := am ((by rw [hg]; exact Nat.ne_of_lt (blk_lt pk) : gb191 ≠ gb199)); have n9_ := am ((by rw [hg]; exact Nat.ne_of_gt (blk_lt pk) : gb199 ≠ gb191)); clear BK190; clear BK191; clear HB; have BK190 := n0_; have BK191 := n1_; have HB := n2_; have BK199 := n3_; have GW199 := n4_; have GE199 := n5_; have NB190_199 := n6_; have NB199_190 := n7_; have NB191_199 := n8_; have NB199_191 := n9_; clear n0_ n1_ n2_ n3_ n4_ n5_ n6_ n7_ n8_ n9_; clear hb hbox hg; have hnb28 := NB199_190.out; have hnc28 := NB190_199.out; have hnb29 := NB199_191.out; have hnc29 := NB191_199.out; have hcz30_0 : w27.cell? ⟨gb199, 0, none⟩ = some (.bool false) := bc BK199 0; have hcz30_1 : w27.cell? ⟨gb199, 1, none⟩ = some (.bool false) := bc BK199 1; have hcz30_2 : w27.cell? ⟨gb199, 2, none⟩ = some (.int .i64 0) := bc BK199 2; have hcz30_3 : w27.cell? ⟨gb199, 3, none⟩ = some (.int .i64 0) := bc BK199 3; have hfz30_0 := blk_frozen BK199.out 0; have hfz30_1 := blk_frozen BK199.out 1; have hfz30_2 := blk_frozen BK199.out 2; have hfz30_3 := blk_frozen BK199.out 3; have hcz31_0 : w27.cell? ⟨gb190, 0, none⟩ = some (.bool a0_0) := bc BK190 0; have hcz31_1 : w27.cell? ⟨gb190, 1, none⟩ = some (.bool a0_1) := bc BK190 1; have hcz31_2 : w27.cell? ⟨gb190, 2, none⟩ = some (.int .i64 a0_2) := bc BK190 2; have hcz31_3 : w27.cell? ⟨gb190, 3, none⟩ = some (.int .i64 a0_3) := bc BK190 3; have hfz31_0 := blk_frozen BK190.out 0; have hfz31_1 := blk_frozen BK190.out 1; have hfz31_2 := blk_frozen BK190.out 2; have hfz31_3 := blk_frozen BK190.out 3; have hcz32_0 : w27.cell? ⟨gb191, 0, none⟩ = some (.bool a1_0) := bc BK191 0; have hcz32_1 : w27.cell? ⟨gb191, 1, none⟩ = some (.bool a1_1) := bc BK191 1; have hcz32_2 : w27.cell? ⟨gb191, 2, none⟩ = some (.int .i64 a1_2) := bc BK191 2; have hcz32_3 : w27.cell? ⟨gb191, 3, none⟩ = some (.int .i64 a1_3) := bc BK191 3; have hfz32_0 := blk_frozen BK191.out 0; have hfz32_1 := blk_frozen BK191.out 1; have hfz32_2 := blk_frozen BK191.out 2; have hfz32_3 := blk_frozen BK191.out 3) | ((with_reducible refine gate_callee (f := 34) rfl ?_); refine goesL_ (some 31) rfl rfl Tryd.func34 kk rfl #[.agg #[.bool a0_0, .bool a0_1, .int .i64 a0_2, .int .i64 a0_3], .agg #[.bool a1_0, .bool a1_1, .int .i64 a1_2, .int .i64 a1_3]] rfl (by (try simp only [List.map_toArray, List.map_cons, List.map_nil]); first | done | rfl | (simp only [List.length_drop, List.length_take]; rfl)) ?_; (with_reducible refine (interval_Meet.calls k a0_0 a0_1 a0_2 a0_3 a1_0 a1_1 a1_2 a1_3 t200 t201 t202 t203 false t205 _ A7.out (am (ErrAt.below hE2.out pw)).out (am (ErrAt.below hE3.out pw)).out).mono ?_); rintro e w33 ⟨rfl, hb⟩; refine ⟨_, rfl, ?_⟩; have n0_ := am (blk_below (g := gb190) (o := .cells #[.bool a0_0, .bool a0_1, .int .i64 a0_2, .int .i64 a0_3] 23 (0, 0)) (by (with_reducible repeat (first | refine blk_drewN ?_ _ | refine blk_drew ?_ | refine blk_alloc ?_ _)); refine blk_far ?_ NB190_199.out _; (with_reducible repeat (first | refine blk_drewN ?_ _ | refine blk_drew ?_ | refine blk_alloc ?_ _)); refine blk_far ?_ NB190_199.out _; (with_reducible repeat (first | refine blk_drewN ?_ _ | refine blk_drew ?_ | refine blk_alloc ?_ _)); refine blk_far ?_ NB190_199.out _; (with_reducible repeat (first | refine blk_drewN ?_ _ | refine blk_drew ?_ | refine blk_alloc ?_ _)); refine blk_far ?_ NB190_199.out _; (with_reducible repeat (first | refine blk_drewN ?_ _ | refine blk_drew ?_ | refine blk_alloc ?_ _)); exact BK190.out) hb); have n1_ := am (blk_below (g := gb191) (o := .cells #[.bool a1_0, .bool a1_1, .int .i64 a1_2, .int .i64 a1_3] 23 (0, 0)) (by (with_reducible repeat (first | refine blk_drewN ?_ _ | refine blk_drew ?_ | refine blk_alloc ?_ _)); refine blk_far ?_ NB191_199.out _; (with_reducible repeat (first | refine blk_drewN ?_ _ | refine blk_drew ?_ | refine blk_alloc ?_ _)); refine blk_far ?_ NB191_199.out _; (with_reducible repeat (first | refine blk_drewN ?_ _ | refine blk_drew ?_ | refine blk_alloc ?_ _)); refine blk_far ?_ NB191_199.out _; (with_reducible repeat (first | refine blk_drewN ?_ _ | refine blk_drew ?_ | refine blk_alloc ?_ _)); refine blk_far ?_ NB191_199.out _; (with_reducible repeat (first | refine blk_drewN ?_ _ | refine blk_drew ?_ | refine blk_alloc ?_ _)); exact BK191.out) hb); have n2_ := am (blk_below (g := gb199) (o := .cells #[.bool t194, .bool t195, .int .i64 t196, .int .i64 t197] 23 (0, 0)) (by (with_reducible repeat (first | refine blk_drewN ?_ _ | refine blk_drew ?_ | refine blk_alloc ?_ _)); refine blk_put (cs := #[.bool t194, .bool t195, .int .i64 t196, .int .i64 0]) ?_ 3 _ rfl; (with_reducible repeat (first | refine blk_drewN ?_ _ | refine blk_drew ?_ | refine blk_alloc ?_ _)); refine blk_put (cs := #[.bool t194, .bool t195, .int .i64 0, .int .i64 0]) ?_ 2 _ rfl; (with_reducible repeat (first | refine blk_drewN ?_ _ | refine blk_drew ?_ | refine blk_alloc ?_ _)); refine blk_put (cs := #[.bool t194, .bool false, .int .i64 0, .int .i64 0]) ?_ 1 _ rfl; (with_reducible repeat (first | refine blk_drewN ?_ _ | refine blk_drew ?_ | refine blk_alloc ?_ _)); refine blk_put (cs := #[.bool false, .bool false, .int .i64 0, .int .i64 0]) ?_ 0 _ rfl; (with_reducible repeat (first | refine blk_drewN ?_ _ | refine blk_drew ?_ | refine blk_alloc ?_ _)); exact BK199.out) hb); have n3_ := am (below_step pw hb); clear BK190; clear BK191; clear BK199; clear HB; have BK190 := n0_; have BK191 := n1_; have BK199 := n2_; have HB := n3_; clear n0_ n1_ n2_ n3_; (try clear hb); (try clear hb2); (try clear hk); (try clear hi); (try simp only [errW_none, errW_some])) | ((with_reducible refine gate_dst (N := 9) rfl ?_); refine box_event ?hg (N := 9) ?hd (cs := #[.bool false, .bool false, .int .i64 0, .int .i64 0]) (t := 23) ?hr ?_; (case hd => rfl); (case hg => rfl); (case hr => first | (go_simp; done) | (go_simp; rfl)); intro gb206 hg w34 hbox hb; have n0_ := bb BK190 hb; have n1_ := bb BK191 hb; have n2_ := bb BK199 hb; have n3_ := am (below_step pw hb); have n4_ := am (hbox); have n5_ := am ((by rw [hg]; exact (below_size pw) : w.heap.size ≤ gb206)); have n6_ := am ((by rw [hg]; exact (below_size pw) : w.heap.size ≤ gb206)); have n7_ := am ((by rw [hg]; exact Nat.ne_of_lt (blk_lt pk) : gb190 ≠ gb206)); have n8_ := am ((by rw [hg]; exact Nat.ne_of_gt (blk_lt pk) : gb206 ≠ gb190)); have n9_ := am ((by rw [hg]; exact Nat.ne_of_lt (blk_lt pk) : gb191 ≠ gb206)); have n10_ := am ((by rw [hg]; exact Nat.ne_of_gt (blk_lt pk) : gb206 ≠ gb191)); have n11_ := am ((by rw [hg]; exact Nat.ne_of_lt (blk_lt pk) : gb199 ≠ gb206)); have n12_ := am ((by rw [hg]; exact Nat.ne_of_gt (blk_lt pk) : gb206 ≠ gb199)); clear BK190; clear BK191; clear BK199; clear HB; have BK190 := n0_; have BK191 := n1_; have BK199 := n2_; have HB := n3_; have BK206 := n4_; have GW206 := n5_; have GE206 := n6_; have NB190_206 := n7_; have NB206_190 := n8_; have NB191_206 := n9_; have NB206_191 := n10_; have NB199_206 := n11_; have NB206_199 := n12_; clear n0_ n1_ n2_ n3_ n4_ n5_ n6_ n7_ n8_ n9_ n10_ n11_ n12_; clear hb hbox hg; have hnb35 := NB206_190.out; have hnc35 := NB190_206.out; have hnb36 := NB206_191.out; have hnc36 := NB191_206.out; have hnb37 := NB206_199.out; have hnc37 := NB199_206.out; have hcz38_0 : w34.cell? ⟨gb206, 0, none⟩ = some (.bool false) := bc BK206 0; have hcz38_1 : w34.cell? ⟨gb206, 1, none⟩ = some (.bool false) := bc BK206 1; have hcz38_2 : w34.cell? ⟨gb206, 2, none⟩ = some (.int .i64 0) := bc BK206 2; have hcz38_3 : w34.cell? ⟨gb206, 3, none⟩ = some (.int .i64 0) := bc BK206 3; have hfz38_0 := blk_frozen BK206.out 0; have hfz38_1 := blk_frozen BK206.out 1; have hfz38_2 := blk_frozen BK206.out 2; have hfz38_3 := blk_frozen BK206.out 3; have hcz39_0 : w34.cell? ⟨gb190, 0, none⟩ = some (.bool a0_0) := bc BK190 0; have hcz39_1 : w34.cell? ⟨gb190, 1, none⟩ = some (.bool a0_1) := bc BK190 1; have hcz39_2 : w34.cell? ⟨gb190, 2, none⟩ = some (.int .i64 a0_2) := bc BK190 2; have hcz39_3 : w34.cell? ⟨gb190, 3, none⟩ = some (.int .i64 a0_3) := bc BK190 3; have hfz39_0 := blk_frozen BK190.out 0; have hfz39_1 := blk_frozen BK190.out 1; have hfz39_2 := blk_frozen BK190.out 2; have hfz39_3 := blk_frozen BK190.out 3; have hcz40_0 : w34.cell? ⟨gb191, 0, none⟩ = some (.bool a1_0) := bc BK191 0; have hcz40_1 : w34.cell? ⟨gb191, 1, none⟩ = some (.bool a1_1) := bc BK191 1; have hcz40_2 : w34.cell? ⟨gb191, 2, none⟩ = some (.int .i64 a1_2) := bc BK191 2; have hcz40_3 : w34.cell? ⟨gb191, 3, none⟩ = some (.int .i64 a1_3) := bc BK191 3; have hfz40_0 := blk_frozen BK191.out 0; have hfz40_1 := blk_frozen BK191.out 1; have hfz40_2 := blk_frozen BK191.out 2; have hfz40_3 := blk_frozen BK191.out 3) | ((with_reducible refine gate_callee (f := 35) rfl ?_); refine goesL_ (some 38) rfl rfl Tryd.func35 kk rfl #[.agg #[.bool a0_0, .bool a0_1, .int .i64 a0_2, .int .i64 a0_3], .agg #[.bool a1_0, .bool a1_1, .int .i64 a1_2, .int .i64 a1_3]] rfl (by (try simp only [List.map_toArray, List.map_cons, List.map_nil]); first | done | rfl | (simp only [List.length_drop, List.length_take]; rfl)) ?_; (with_reducible refine (interval_Within.calls k a0_0 a0_1 a0_2 a0_3 a1_0 a1_1 a1_2 a1_3 t207 t208 _ A8.out (am (ErrAt.below hE2.out pw)).out (am (ErrAt.below hE3.out pw)).out).mono ?_); rintro e w41 ⟨rfl, hb⟩; refine ⟨_, rfl, ?_⟩; have n0_ := am (blk_below (g := gb190) (o := .cells #[.bool a0_0, .bool a0_1, .int .i64 a0_2, .int .i64 a0_3] 23 (0, 0)) (by (with_reducible repeat (first | refine blk_drewN ?_ _ | refine blk_drew ?_ | refine blk_alloc ?_ _)); refine blk_far ?_ NB190_206.out _; (with_reducible repeat (first | refine blk_drewN ?_ _ | refine blk_drew ?_ | refine blk_alloc ?_ _)); refine blk_far ?_ NB190_206.out _; (with_reducible repeat (first | refine blk_drewN ?_ _ | refine blk_drew ?_ | refine blk_alloc ?_ _)); refine blk_far ?_ NB190_206.out _; (with_reducible repeat (first | refine blk_drewN ?_ _ | refine blk_drew ?_ | refine blk_alloc ?_ _)); refine blk_far ?_ NB190_206.out _; (with_reducible repeat (first | refine blk_drewN ?_ _ | refine blk_drew ?_ | refine blk_alloc ?_ _)); exact BK190.out) hb); have n1_ := am (blk_below (g := gb191) (o := .cells #[.bool a1_0, .bool a1_1, .int .i64 a1_2, .int .i64 a1_3] 23 (0, 0)) (by (with_reducible repeat (first | refine blk_drewN ?_ _ | refine blk_drew ?_ | refine blk_alloc ?_ _)); refine blk_far ?_ NB191_206.out _; (with_reducible repeat (first | refine blk_drewN ?_ _ | refine blk_drew ?_ | refine blk_alloc ?_ _)); refine blk_far ?_ NB191_206.out _; (with_reducible repeat (first | refine blk_drewN ?_ _ | refine blk_drew ?_ | refine blk_alloc ?_ _)); refine blk_far ?_ NB191_206.out _; (with_reducible repeat (first | refine blk_drewN ?_ _ | refine blk_drew ?_ | refine blk_alloc ?_ _)); refine blk_far ?_ NB191_206.out _; (with_reducible repeat (first | refine blk_drewN ?_ _ | refine blk_drew ?_ | refine blk_alloc ?_ _)); exact BK191.out) hb); have n2_ := am (blk_below (g := gb199) (o := .cells #[.bool t194, .bool t195, .int .i64 t196, .int .i64 t197] 23 (0, 0)) (by (with_reducible repeat (first | refine blk_drewN ?_ _ | refine blk_drew ?_ | refine blk_alloc ?_ _)); refine blk_far ?_ NB199_206.out _; (with_reducible repeat (first | refine blk_drewN ?_ _ | refine blk_drew ?_ | refine blk_alloc ?_ _)); refine blk_far ?_ NB199_206.out _; (with_reducible repeat (first | refine blk_drewN ?_ _ | refine blk_drew ?_ | refine blk_alloc ?_ _)); refine blk_far ?_ NB199_206.out _; (with_reducible repeat (first | refine blk_drewN ?_ _ | refine blk_drew ?_ | refine blk_alloc ?_ _)); refine blk_far ?_ NB199_206.out _; (with_reducible repeat (first | refine blk_drewN ?_ _ | refine blk_drew ?_ | refine blk_alloc ?_ _)); exact BK199.out) hb); have n3_ := am (blk_below (g := gb206) (o := .cells #[.bool t200, .bool t201, .int .i64 t202, .int .i64 t203] 23 (0, 0)) (by (with_reducible repeat (first | refine blk_drewN ?_ _ | refine blk_drew ?_ | refine blk_alloc ?_ _)); refine blk_put (cs := #[.bool t200, .bool t201, .int .i64 t202, .int .i64 0]) ?_ 3 _ rfl; (with_reducible repeat (first | refine blk_drewN ?_ _ | refine blk_drew ?_ | refine blk_alloc ?_ _)); refine blk_put (cs := #[.bool t200, .bool t201, .int .i64 0, .int .i64 0]) ?_ 2 _ rfl; (with_reducible repeat (first | refine blk_drewN ?_ _ | refine blk_drew ?_ | refine blk_alloc ?_ _)); refine blk_put (cs := #[.bool t200, .bool false, .int .i64 0, .int .i64 0]) ?_ 1 _ rfl; (with_reducible repeat (first | refine blk_drewN ?_ _ | refine blk_drew ?_ | refine blk_alloc ?_ _)); refine blk_put (cs := #[.bool false, .bool false, .int .i64 0, .int .i64 0]) ?_ 0 _ rfl; (with_reducible repeat (first | refine blk_drewN ?_ _ | refine blk_drew ?_ | refine blk_alloc ?_ _)); exact BK206.out) hb); have n4_ := am (below_step pw hb); clear BK190; clear BK191; clear BK199; clear BK206; clear HB; have BK190 := n0_; have BK191 := n1_; have BK199 := n2_; have BK206 := n3_; have HB := n4_; clear n0_ n1_ n2_ n3_ n4_; (try clear hb); (try clear hb2); (try clear hk); (try clear hi); (try simp only [errW_none, errW_some]); have hcz42_0 : w41.cell? ⟨gb199, 0, none⟩ = some (.bool t194) := bc BK199 0; have hcz42_1 : w41.cell? ⟨gb199, 1, none⟩ = some (.bool t195) := bc BK199 1; have hcz42_2 : w41.cell? ⟨gb199, 2, none⟩ = some (.int .i64 t196) := bc BK199 2; have hcz42_3 : w41.cell? ⟨gb199, 3, none⟩ = some (.int .i64 t197) := bc BK199 3; have hfz42_0 := blk_frozen BK199.out 0; have hfz42_1 := blk_frozen BK199.out 1; have hfz42_2 := blk_frozen BK199.out 2; have hfz42_3 := blk_frozen BK199.out 3; have CA10 := fun (W : World) (hE9_ : ErrAll W) => L2_isSpan.calls t194 t195 t196 t197 t198 t194 t195 t196 t197 t193 true W A10.out hE9_; try simp only [errW_none, errW_some] at CA10) | (go_at_call 36; (with_reducible refine (CA10 _ (ErrAll.below hE9.out pw)).mono ?_); rintro e w43 ⟨rfl, hb⟩; have n0_ := bb BK190 hb; have n1_ := bb BK191 hb; have n2_ := bb BK199 hb; have n3_ := bb BK206 hb; have n4_ := am (below_step pw hb); clear BK190; clear BK191; clear BK199; clear BK206; clear HB; have BK190 := n0_; have BK191 := n1_; have BK199 := n2_; have BK206 := n3_; have HB := n4_; clear n0_ n1_ n2_ n3_ n4_; (try clear hb); (try clear hb2); (try clear hk); (try clear hi); have hcz44_0 : w43.cell? ⟨gb206, 0, none⟩ = some (.bool t200) := bc BK206 0; have hcz44_1 : w43.cell? ⟨gb206, 1, none⟩ = some (.bool t201) := bc BK206 1; have hcz44_2 : w43.cell? ⟨gb206, 2, none⟩ = some (.int .i64 t202) := bc BK206 2; have hcz44_3 : w43.cell? ⟨gb206, 3, none⟩ = some (.int .i64 t203) := bc BK206 3; have hfz44_0 := blk_frozen BK206.out 0; have hfz44_1 := blk_frozen BK206.out 1; have hfz44_2 := blk_frozen BK206.out 2; have hfz44_3 := blk_frozen BK206.out 3; have CA12 := fun (W : World) (hE9_ : ErrAll W) => L2_isSpan.calls t200 t201 t202 t203 t205 t200 t201 t202 t203 t193 true W A12.out hE9_; try simp only [errW_none, errW_some] at CA12) | (go_at_call 36; (with_reducible refine (CA12 _ (ErrAll.below hE9.out pw)).mono ?_); rintro e w45 ⟨rfl, hb⟩; have n0_ := bb BK190 hb; have n1_ := bb BK191 hb; have n2_ := bb BK199 hb; have n3_ := bb BK206 hb; have n4_ := am (below_step pw hb); clear BK190; clear BK191; clear BK199; clear BK206; clear HB; have BK190 := n0_; have BK191 := n1_; have BK199 := n2_; have BK206 := n3_; have HB := n4_; clear n0_ n1_ n2_ n3_ n4_; (try clear hb); (try clear hb2); (try clear hk); (try clear hi); have CA14 := fun (W : World) (hE9_ : ErrAll W) => L2_coded.calls t208 t193 true W A14.out hE9_; try simp only [errW_none, errW_some] at CA14) | (go_at_call 14; (with_reducible refine (CA14 _ (ErrAll.below hE9.out pw)).mono ?_); rintro e w46 ⟨rfl, hb⟩; have n0_ := bb BK190 hb; have n1_ := bb BK191 hb; have n2_ := bb BK199 hb; have n3_ := bb BK206 hb; have n4_ := am (below_step pw hb); clear BK190; clear BK191; clear BK199; clear BK206; clear HB; have BK190 := n0_; have BK191 := n1_; have BK199 := n2_; have BK206 := n3_; have HB := n4_; clear n0_ n1_ n2_ n3_ n4_; (try clear hb); (try clear hb2); (try clear hk); (try clear hi)))
      go_ret
      exact ⟨pe, pw⟩
     replace c15 := Bool.eq_false_iff.mpr c15
     subst c15
     have H1 : (none) = some r := by rw [if_neg (show ¬ (false = true) by decide)] at H; exact H
     clear H
     have H := H1
     clear H1
     exact absurd H (by simp)
    replace c13 := Bool.eq_false_iff.mpr c13
    subst c13
    have H1 : (none) = some r := by rw [if_neg (show ¬ (false = true) by decide)] at H; exact H
    clear H
    have H := H1
    clear H1
    exact absurd H (by simp)
   replace c11 := Bool.eq_false_iff.mpr c11
   subst c11
   have H1 : (none) = some r := by rw [if_neg (show ¬ (false = true) by decide)] at H; exact H
   clear H
   have H := H1
   clear H1
   exact absurd H (by simp)
  rw [if_neg c9] at H
  have c9b0 : decide (0 < t193) = false := decide_eq_false c9
  clear c9
  replace H := Option.bind_eq_some_iff.mp H
  obtain ⟨⟨t212, t213, t214, t215, t216⟩, A470, H⟩ := H
  replace H : ((R2_JoinedOf.f k a0_0 a0_1 a0_2 a0_3 a1_0 a1_1 a1_2 a1_3).bind fun bt218 => ((L2_isSpan.f t194 t195 t196 t197 t198 bt218.1 bt218.2.1 bt218.2.2.1 bt218.2.2.2 0).bind fun t222 => (if t222 = true then ((L2_isSpan.f t200 t201 t202 t203 t205 t212 t213 t214 t215 0).bind fun t223 => (if t223 = true then (if (t204 == t216) = true then (if t208.isNone = true then ((R2_InsideOf.f k a0_0 a0_1 a0_2 a0_3 a1_0 a1_1 a1_2 a1_3).bind fun t225 => (some (t207 == t225))) else (none)) else (none)) else (none))) else (none)))) = some r := H
  have A47 := am A470
  clear A470
  replace H := Option.bind_eq_some_iff.mp H
  obtain ⟨⟨t218, t219, t220, t221⟩, A480, H⟩ := H
  replace H : ((L2_isSpan.f t194 t195 t196 t197 t198 t218 t219 t220 t221 0).bind fun t222 => (if t222 = true then ((L2_isSpan.f t200 t201 t202 t203 t205 t212 t213 t214 t215 0).bind fun t223 => (if t223 = true then (if (t204 == t216) = true then (if t208.isNone = true then ((R2_InsideOf.f k a0_0 a0_1 a0_2 a0_3 a1_0 a1_1 a1_2 a1_3).bind fun t225 => (some (t207 == t225))) else (none)) else (none)) else (none))) else (none))) = some r := H
  have A48 := am A480
  clear A480
  replace H := Option.bind_eq_some_iff.mp H
  obtain ⟨t222, A490, H⟩ := H
  replace H : (if t222 = true then ((L2_isSpan.f t200 t201 t202 t203 t205 t212 t213 t214 t215 0).bind fun t223 => (if t223 = true then (if (t204 == t216) = true then (if t208.isNone = true then ((R2_InsideOf.f k a0_0 a0_1 a0_2 a0_3 a1_0 a1_1 a1_2 a1_3).bind fun t225 => (some (t207 == t225))) else (none)) else (none)) else (none))) else (none)) = some r := H
  have A49 := am A490
  clear A490
  by_cases c50 : t222 = true
  ·subst c50
   have H1 : ((L2_isSpan.f t200 t201 t202 t203 t205 t212 t213 t214 t215 0).bind fun t223 => (if t223 = true then (if (t204 == t216) = true then (if t208.isNone = true then ((R2_InsideOf.f k a0_0 a0_1 a0_2 a0_3 a1_0 a1_1 a1_2 a1_3).bind fun t225 => (some (t207 == t225))) else (none)) else (none)) else (none))) = some r := by rw [if_pos rfl] at H; exact H
   clear H
   have H := H1
   clear H1
   replace H := Option.bind_eq_some_iff.mp H
   obtain ⟨t223, A510, H⟩ := H
   replace H : (if t223 = true then (if (t204 == t216) = true then (if t208.isNone = true then ((R2_InsideOf.f k a0_0 a0_1 a0_2 a0_3 a1_0 a1_1 a1_2 a1_3).bind fun t225 => (some (t207 == t225))) else (none)) else (none)) else (none)) = some r := H
   have A51 := am A510
   clear A510
   by_cases c52 : t223 = true
   ·subst c52
    have H1 : (if (t204 == t216) = true then (if t208.isNone = true then ((R2_InsideOf.f k a0_0 a0_1 a0_2 a0_3 a1_0 a1_1 a1_2 a1_3).bind fun t225 => (some (t207 == t225))) else (none)) else (none)) = some r := by rw [if_pos rfl] at H; exact H
    clear H
    have H := H1
    clear H1
    by_cases c53 : (t204 == t216) = true
    ·rw [if_pos c53] at H
     have c53b0 : (t204 == t216) = true := c53
     (try (have c53b1 : decide (t204 = t216) = true := by simpa using c53))
     (try (have c53b2 : (t204 == t216) = true := by simpa using c53))
     clear c53
     rcases t208 with _ | q224
     ·have H1 : ((R2_InsideOf.f k a0_0 a0_1 a0_2 a0_3 a1_0 a1_1 a1_2 a1_3).bind fun t225 => (some (t207 == t225))) = some r := by rw [if_pos (show (none : Option Int).isNone = true by rfl)] at H; exact H
      clear H
      have H := H1
      clear H1
      try simp only [errW_none, errW_some]
      replace H := Option.bind_eq_some_iff.mp H
      obtain ⟨t225, A540, H⟩ := H
      replace H : (some (t207 == t225)) = some r := H
      have A54 := am A540
      clear A540
      obtain rfl := Option.some.inj H
      go_enter Tryd.func7, Tryd.ntmps7
      try go_wp2_with (first | ((with_reducible refine gate_dst (N := 2) rfl ?_); refine box_event ?hg (N := 2) ?hd (cs := #[.bool a0_0, .bool a0_1, .int .i64 a0_2, .int .i64 a0_3]) (t := 23) ?hr ?_; (case hd => rfl); (case hg => rfl); (case hr => first | (go_simp; done) | (go_simp; rfl)); intro gb190 hg w55 hbox hb; have n0_ := am (below_step pw hb); have n1_ := am (hbox); have n2_ := am ((by rw [hg]; exact (below_size pw) : w.heap.size ≤ gb190)); have n3_ := am ((by rw [hg]; exact (below_size pw) : w.heap.size ≤ gb190)); clear HB; have HB := n0_; have BK190 := n1_; have GW190 := n2_; have GE190 := n3_; clear n0_ n1_ n2_ n3_; clear hb hbox hg) | ((with_reducible refine gate_dst (N := 3) rfl ?_); refine box_event ?hg (N := 3) ?hd (cs := #[.bool a1_0, .bool a1_1, .int .i64 a1_2, .int .i64 a1_3]) (t := 23) ?hr ?_; (case hd => rfl); (case hg => rfl); (case hr => first | (go_simp; done) | (go_simp; rfl)); intro gb191 hg w56 hbox hb; have n0_ := bb BK190 hb; have n1_ := am (below_step pw hb); have n2_ := am (hbox); have n3_ := am ((by rw [hg]; exact (below_size pw) : w.heap.size ≤ gb191)); have n4_ := am ((by rw [hg]; exact (below_size pw) : w.heap.size ≤ gb191)); have n5_ := am ((by rw [hg]; exact Nat.ne_of_lt (blk_lt pk) : gb190 ≠ gb191)); have n6_ := am ((by rw [hg]; exact Nat.ne_of_gt (blk_lt pk) : gb191 ≠ gb190)); clear BK190; clear HB; have BK190 := n0_; have HB := n1_; have BK191 := n2_; have GW191 := n3_; have GE191 := n4_; have NB190_191 := n5_; have NB191_190 := n6_; clear n0_ n1_ n2_ n3_ n4_ n5_ n6_; clear hb hbox hg) | ((with_reducible refine gate_callee (f := 12) rfl ?_); refine goesL_ (some 16) rfl rfl Tryd.func12 kk rfl #[] rfl (by (try simp only [List.map_toArray, List.map_cons, List.map_nil]); first | done | rfl | (simp only [List.length_drop, List.length_take]; rfl)) ?_; (with_reducible refine (L2_three.calls k  true _ A3.out (am (ErrAt.below hE2.out pw)).out (am (ErrAt.below hE3.out pw)).out).mono ?_); rintro e w57 ⟨rfl, hb⟩; refine ⟨_, rfl, ?_⟩; have n0_ := bb BK190 hb; have n1_ := bb BK191 hb; have n2_ := am (below_step pw hb); clear BK190; clear BK191; clear HB; have BK190 := n0_; have BK191 := n1_; have HB := n2_; clear n0_ n1_ n2_; (try clear hb); (try clear hb2); (try clear hk); (try clear hi); have hnb58 := NB190_191.out; have hnc58 := NB191_190.out; have hcz59_0 : w57.cell? ⟨gb190, 0, none⟩ = some (.bool a0_0) := bc BK190 0; have hcz59_1 : w57.cell? ⟨gb190, 1, none⟩ = some (.bool a0_1) := bc BK190 1; have hcz59_2 : w57.cell? ⟨gb190, 2, none⟩ = some (.int .i64 a0_2) := bc BK190 2; have hcz59_3 : w57.cell? ⟨gb190, 3, none⟩ = some (.int .i64 a0_3) := bc BK190 3; have hfz59_0 := blk_frozen BK190.out 0; have hfz59_1 := blk_frozen BK190.out 1; have hfz59_2 := blk_frozen BK190.out 2; have hfz59_3 := blk_frozen BK190.out 3; have hcz60_0 : w57.cell? ⟨gb191, 0, none⟩ = some (.bool a1_0) := bc BK191 0; have hcz60_1 : w57.cell? ⟨gb191, 1, none⟩ = some (.bool a1_1) := bc BK191 1; have hcz60_2 : w57.cell? ⟨gb191, 2, none⟩ = some (.int .i64 a1_2) := bc BK191 2; have hcz60_3 : w57.cell? ⟨gb191, 3, none⟩ = some (.int .i64 a1_3) := bc BK191 3; have hfz60_0 := blk_frozen BK191.out 0; have hfz60_1 := blk_frozen BK191.out 1; have hfz60_2 := blk_frozen BK191.out 2; have hfz60_3 := blk_frozen BK191.out 3) | ((with_reducible refine gate_callee (f := 32) rfl ?_); refine goesL_ (some 21) rfl rfl Tryd.func32 kk rfl #[.agg #[.bool a0_0, .bool a0_1, .int .i64 a0_2, .int .i64 a0_3], .agg #[.bool a1_0, .bool a1_1, .int .i64 a1_2, .int .i64 a1_3]] rfl (by (try simp only [List.map_toArray, List.map_cons, List.map_nil]); first | done | rfl | (simp only [List.length_drop, List.length_take]; rfl)) ?_; (with_reducible refine (R2_TwoIntervals.calls k a0_0 a0_1 a0_2 a0_3 a1_0 a1_1 a1_2 a1_3 t193 _ A5.out).mono ?_); rintro e w61 ⟨rfl, hb⟩; refine ⟨_, rfl, ?_⟩; have n0_ := bb BK190 hb; have n1_ := bb BK191 hb; have n2_ := am (below_step pw hb); clear BK190; clear BK191; clear HB; have BK190 := n0_; have BK191 := n1_; have HB := n2_; clear n0_ n1_ n2_; (try clear hb); (try clear hb2); (try clear hk); (try clear hi); have hcz62_0 : w61.cell? ⟨gb190, 0, none⟩ = some (.bool a0_0) := bc BK190 0; have hcz62_1 : w61.cell? ⟨gb190, 1, none⟩ = some (.bool a0_1) := bc BK190 1; have hcz62_2 : w61.cell? ⟨gb190, 2, none⟩ = some (.int .i64 a0_2) := bc BK190 2; have hcz62_3 : w61.cell? ⟨gb190, 3, none⟩ = some (.int .i64 a0_3) := bc BK190 3; have hfz62_0 := blk_frozen BK190.out 0; have hfz62_1 := blk_frozen BK190.out 1; have hfz62_2 := blk_frozen BK190.out 2; have hfz62_3 := blk_frozen BK190.out 3; have hcz63_0 : w61.cell? ⟨gb191, 0, none⟩ = some (.bool a1_0) := bc BK191 0; have hcz63_1 : w61.cell? ⟨gb191, 1, none⟩ = some (.bool a1_1) := bc BK191 1; have hcz63_2 : w61.cell? ⟨gb191, 2, none⟩ = some (.int .i64 a1_2) := bc BK191 2; have hcz63_3 : w61.cell? ⟨gb191, 3, none⟩ = some (.int .i64 a1_3) := bc BK191 3; have hfz63_0 := blk_frozen BK191.out 0; have hfz63_1 := blk_frozen BK191.out 1; have hfz63_2 := blk_frozen BK191.out 2; have hfz63_3 := blk_frozen BK191.out 3) | ((with_reducible refine gate_callee (f := 33) rfl ?_); refine goesL_ (some 25) rfl rfl Tryd.func33 kk rfl #[.agg #[.bool a0_0, .bool a0_1, .int .i64 a0_2, .int .i64 a0_3], .agg #[.bool a1_0, .bool a1_1, .int .i64 a1_2, .int .i64 a1_3]] rfl (by (try simp only [List.map_toArray, List.map_cons, List.map_nil]); first | done | rfl | (simp only [List.length_drop, List.length_take]; rfl)) ?_; (with_reducible refine (interval_Join.calls k a0_0 a0_1 a0_2 a0_3 a1_0 a1_1 a1_2 a1_3 t194 t195 t196 t197 t198 _ A6.out (am (ErrAt.below hE2.out pw)).out (am (ErrAt.below hE3.out pw)).out).mono ?_); rintro e w64 ⟨rfl, hb⟩; refine ⟨_, rfl, ?_⟩; have n0_ := bb BK190 hb; have n1_ := bb BK191 hb; have n2_ := am (below_step pw hb); clear BK190; clear BK191; clear HB; have BK190 := n0_; have BK191 := n1_; have HB := n2_; clear n0_ n1_ n2_; (try clear hb); (try clear hb2); (try clear hk); (try clear hi); (try simp only [errW_none, errW_some])) | ((with_reducible refine gate_dst (N := 7) rfl ?_); refine box_event ?hg (N := 7) ?hd (cs := #[.bool false, .bool false, .int .i64 0, .int .i64 0]) (t := 23) ?hr ?_; (case hd => rfl); (case hg => rfl); (case hr => first | (go_simp; done) | (go_simp; rfl)); intro gb199 hg w65 hbox hb; have n0_ := bb BK190 hb; have n1_ := bb BK191 hb; have n2_ := am (below_step pw hb); have n3_ := am (hbox); have n4_ := am ((by rw [hg]; exact (below_size pw) : w.heap.size ≤ gb199)); have n5_ := am ((by rw [hg]; exact (below_size pw) : w.heap.size ≤ gb199)); have n6_ := am ((by rw [hg]; exact Nat.ne_of_lt (blk_lt pk) : gb190 ≠ gb199)); have n7_ := am ((by rw [hg]; exact Nat.ne_of_gt (blk_lt pk) : gb199 ≠ gb190)); have n8_ := am ((by rw [hg]; exact Nat.ne_of_lt (blk_lt pk) : gb191 ≠ gb199)); have n9_ := am ((by rw [hg]; exact Nat.ne_of_gt (blk_lt pk) : gb199 ≠ gb191)); clear BK190; clear BK191; clear HB; have BK190 := n0_; have BK191 := n1_; have HB := n2_; have BK199 := n3_; have GW199 := n4_; have GE199 := n5_; have NB190_199 := n6_; have NB199_190 := n7_; have NB191_199 := n8_; have NB199_191 := n9_; clear n0_ n1_ n2_ n3_ n4_ n5_ n6_ n7_ n8_ n9_; clear hb hbox hg; have hnb66 := NB199_190.out; have hnc66 := NB190_199.out; have hnb67 := NB199_191.out; have hnc67 := NB191_199.out; have hcz68_0 : w65.cell? ⟨gb199, 0, none⟩ = some (.bool false) := bc BK199 0; have hcz68_1 : w65.cell? ⟨gb199, 1, none⟩ = some (.bool false) := bc BK199 1; have hcz68_2 : w65.cell? ⟨gb199, 2, none⟩ = some (.int .i64 0) := bc BK199 2; have hcz68_3 : w65.cell? ⟨gb199, 3, none⟩ = some (.int .i64 0) := bc BK199 3; have hfz68_0 := blk_frozen BK199.out 0; have hfz68_1 := blk_frozen BK199.out 1; have hfz68_2 := blk_frozen BK199.out 2; have hfz68_3 := blk_frozen BK199.out 3; have hcz69_0 : w65.cell? ⟨gb190, 0, none⟩ = some (.bool a0_0) := bc BK190 0; have hcz69_1 : w65.cell? ⟨gb190, 1, none⟩ = some (.bool a0_1) := bc BK190 1; have hcz69_2 : w65.cell? ⟨gb190, 2, none⟩ = some (.int .i64 a0_2) := bc BK190 2; have hcz69_3 : w65.cell? ⟨gb190, 3, none⟩ = some (.int .i64 a0_3) := bc BK190 3; have hfz69_0 := blk_frozen BK190.out 0; have hfz69_1 := blk_frozen BK190.out 1; have hfz69_2 := blk_frozen BK190.out 2; have hfz69_3 := blk_frozen BK190.out 3; have hcz70_0 : w65.cell? ⟨gb191, 0, none⟩ = some (.bool a1_0) := bc BK191 0; have hcz70_1 : w65.cell? ⟨gb191, 1, none⟩ = some (.bool a1_1) := bc BK191 1; have hcz70_2 : w65.cell? ⟨gb191, 2, none⟩ = some (.int .i64 a1_2) := bc BK191 2; have hcz70_3 : w65.cell? ⟨gb191, 3, none⟩ = some (.int .i64 a1_3) := bc BK191 3; have hfz70_0 := blk_frozen BK191.out 0; have hfz70_1 := blk_frozen BK191.out 1; have hfz70_2 := blk_frozen BK191.out 2; have hfz70_3 := blk_frozen BK191.out 3) | ((with_reducible refine gate_callee (f := 34) rfl ?_); refine goesL_ (some 31) rfl rfl Tryd.func34 kk rfl #[.agg #[.bool a0_0, .bool a0_1, .int .i64 a0_2, .int .i64 a0_3], .agg #[.bool a1_0, .bool a1_1, .int .i64 a1_2, .int .i64 a1_3]] rfl (by (try simp only [List.map_toArray, List.map_cons, List.map_nil]); first | done | rfl | (simp only [List.length_drop, List.length_take]; rfl)) ?_; (with_reducible refine (interval_Meet.calls k a0_0 a0_1 a0_2 a0_3 a1_0 a1_1 a1_2 a1_3 t200 t201 t202 t203 t204 t205 _ A7.out (am (ErrAt.below hE2.out pw)).out (am (ErrAt.below hE3.out pw)).out).mono ?_); rintro e w71 ⟨rfl, hb⟩; refine ⟨_, rfl, ?_⟩; have n0_ := am (blk_below (g := gb190) (o := .cells #[.bool a0_0, .bool a0_1, .int .i64 a0_2, .int .i64 a0_3] 23 (0, 0)) (by (with_reducible repeat (first | refine blk_drewN ?_ _ | refine blk_drew ?_ | refine blk_alloc ?_ _)); refine blk_far ?_ NB190_199.out _; (with_reducible repeat (first | refine blk_drewN ?_ _ | refine blk_drew ?_ | refine blk_alloc ?_ _)); refine blk_far ?_ NB190_199.out _; (with_reducible repeat (first | refine blk_drewN ?_ _ | refine blk_drew ?_ | refine blk_alloc ?_ _)); refine blk_far ?_ NB190_199.out _; (with_reducible repeat (first | refine blk_drewN ?_ _ | refine blk_drew ?_ | refine blk_alloc ?_ _)); refine blk_far ?_ NB190_199.out _; (with_reducible repeat (first | refine blk_drewN ?_ _ | refine blk_drew ?_ | refine blk_alloc ?_ _)); exact BK190.out) hb); have n1_ := am (blk_below (g := gb191) (o := .cells #[.bool a1_0, .bool a1_1, .int .i64 a1_2, .int .i64 a1_3] 23 (0, 0)) (by (with_reducible repeat (first | refine blk_drewN ?_ _ | refine blk_drew ?_ | refine blk_alloc ?_ _)); refine blk_far ?_ NB191_199.out _; (with_reducible repeat (first | refine blk_drewN ?_ _ | refine blk_drew ?_ | refine blk_alloc ?_ _)); refine blk_far ?_ NB191_199.out _; (with_reducible repeat (first | refine blk_drewN ?_ _ | refine blk_drew ?_ | refine blk_alloc ?_ _)); refine blk_far ?_ NB191_199.out _; (with_reducible repeat (first | refine blk_drewN ?_ _ | refine blk_drew ?_ | refine blk_alloc ?_ _)); refine blk_far ?_ NB191_199.out _; (with_reducible repeat (first | refine blk_drewN ?_ _ | refine blk_drew ?_ | refine blk_alloc ?_ _)); exact BK191.out) hb); have n2_ := am (blk_below (g := gb199) (o := .cells #[.bool t194, .bool t195, .int .i64 t196, .int .i64 t197] 23 (0, 0)) (by (with_reducible repeat (first | refine blk_drewN ?_ _ | refine blk_drew ?_ | refine blk_alloc ?_ _)); refine blk_put (cs := #[.bool t194, .bool t195, .int .i64 t196, .int .i64 0]) ?_ 3 _ rfl; (with_reducible repeat (first | refine blk_drewN ?_ _ | refine blk_drew ?_ | refine blk_alloc ?_ _)); refine blk_put (cs := #[.bool t194, .bool t195, .int .i64 0, .int .i64 0]) ?_ 2 _ rfl; (with_reducible repeat (first | refine blk_drewN ?_ _ | refine blk_drew ?_ | refine blk_alloc ?_ _)); refine blk_put (cs := #[.bool t194, .bool false, .int .i64 0, .int .i64 0]) ?_ 1 _ rfl; (with_reducible repeat (first | refine blk_drewN ?_ _ | refine blk_drew ?_ | refine blk_alloc ?_ _)); refine blk_put (cs := #[.bool false, .bool false, .int .i64 0, .int .i64 0]) ?_ 0 _ rfl; (with_reducible repeat (first | refine blk_drewN ?_ _ | refine blk_drew ?_ | refine blk_alloc ?_ _)); exact BK199.out) hb); have n3_ := am (below_step pw hb); clear BK190; clear BK191; clear BK199; clear HB; have BK190 := n0_; have BK191 := n1_; have BK199 := n2_; have HB := n3_; clear n0_ n1_ n2_ n3_; (try clear hb); (try clear hb2); (try clear hk); (try clear hi); (try simp only [errW_none, errW_some])) | ((with_reducible refine gate_dst (N := 9) rfl ?_); refine box_event ?hg (N := 9) ?hd (cs := #[.bool false, .bool false, .int .i64 0, .int .i64 0]) (t := 23) ?hr ?_; (case hd => rfl); (case hg => rfl); (case hr => first | (go_simp; done) | (go_simp; rfl)); intro gb206 hg w72 hbox hb; have n0_ := bb BK190 hb; have n1_ := bb BK191 hb; have n2_ := bb BK199 hb; have n3_ := am (below_step pw hb); have n4_ := am (hbox); have n5_ := am ((by rw [hg]; exact (below_size pw) : w.heap.size ≤ gb206)); have n6_ := am ((by rw [hg]; exact (below_size pw) : w.heap.size ≤ gb206)); have n7_ := am ((by rw [hg]; exact Nat.ne_of_lt (blk_lt pk) : gb190 ≠ gb206)); have n8_ := am ((by rw [hg]; exact Nat.ne_of_gt (blk_lt pk) : gb206 ≠ gb190)); have n9_ := am ((by rw [hg]; exact Nat.ne_of_lt (blk_lt pk) : gb191 ≠ gb206)); have n10_ := am ((by rw [hg]; exact Nat.ne_of_gt (blk_lt pk) : gb206 ≠ gb191)); have n11_ := am ((by rw [hg]; exact Nat.ne_of_lt (blk_lt pk) : gb199 ≠ gb206)); have n12_ := am ((by rw [hg]; exact Nat.ne_of_gt (blk_lt pk) : gb206 ≠ gb199)); clear BK190; clear BK191; clear BK199; clear HB; have BK190 := n0_; have BK191 := n1_; have BK199 := n2_; have HB := n3_; have BK206 := n4_; have GW206 := n5_; have GE206 := n6_; have NB190_206 := n7_; have NB206_190 := n8_; have NB191_206 := n9_; have NB206_191 := n10_; have NB199_206 := n11_; have NB206_199 := n12_; clear n0_ n1_ n2_ n3_ n4_ n5_ n6_ n7_ n8_ n9_ n10_ n11_ n12_; clear hb hbox hg; have hnb73 := NB206_190.out; have hnc73 := NB190_206.out; have hnb74 := NB206_191.out; have hnc74 := NB191_206.out; have hnb75 := NB206_199.out; have hnc75 := NB199_206.out; have hcz76_0 : w72.cell? ⟨gb206, 0, none⟩ = some (.bool false) := bc BK206 0; have hcz76_1 : w72.cell? ⟨gb206, 1, none⟩ = some (.bool false) := bc BK206 1; have hcz76_2 : w72.cell? ⟨gb206, 2, none⟩ = some (.int .i64 0) := bc BK206 2; have hcz76_3 : w72.cell? ⟨gb206, 3, none⟩ = some (.int .i64 0) := bc BK206 3; have hfz76_0 := blk_frozen BK206.out 0; have hfz76_1 := blk_frozen BK206.out 1; have hfz76_2 := blk_frozen BK206.out 2; have hfz76_3 := blk_frozen BK206.out 3; have hcz77_0 : w72.cell? ⟨gb190, 0, none⟩ = some (.bool a0_0) := bc BK190 0; have hcz77_1 : w72.cell? ⟨gb190, 1, none⟩ = some (.bool a0_1) := bc BK190 1; have hcz77_2 : w72.cell? ⟨gb190, 2, none⟩ = some (.int .i64 a0_2) := bc BK190 2; have hcz77_3 : w72.cell? ⟨gb190, 3, none⟩ = some (.int .i64 a0_3) := bc BK190 3; have hfz77_0 := blk_frozen BK190.out 0; have hfz77_1 := blk_frozen BK190.out 1; have hfz77_2 := blk_frozen BK190.out 2; have hfz77_3 := blk_frozen BK190.out 3; have hcz78_0 : w72.cell? ⟨gb191, 0, none⟩ = some (.bool a1_0) := bc BK191 0; have hcz78_1 : w72.cell? ⟨gb191, 1, none⟩ = some (.bool a1_1) := bc BK191 1; have hcz78_2 : w72.cell? ⟨gb191, 2, none⟩ = some (.int .i64 a1_2) := bc BK191 2; have hcz78_3 : w72.cell? ⟨gb191, 3, none⟩ = some (.int .i64 a1_3) := bc BK191 3; have hfz78_0 := blk_frozen BK191.out 0; have hfz78_1 := blk_frozen BK191.out 1; have hfz78_2 := blk_frozen BK191.out 2; have hfz78_3 := blk_frozen BK191.out 3) | ((with_reducible refine gate_callee (f := 35) rfl ?_); refine goesL_ (some 38) rfl rfl Tryd.func35 kk rfl #[.agg #[.bool a0_0, .bool a0_1, .int .i64 a0_2, .int .i64 a0_3], .agg #[.bool a1_0, .bool a1_1, .int .i64 a1_2, .int .i64 a1_3]] rfl (by (try simp only [List.map_toArray, List.map_cons, List.map_nil]); first | done | rfl | (simp only [List.length_drop, List.length_take]; rfl)) ?_; (with_reducible refine (interval_Within.calls k a0_0 a0_1 a0_2 a0_3 a1_0 a1_1 a1_2 a1_3 t207 none _ A8.out (am (ErrAt.below hE2.out pw)).out (am (ErrAt.below hE3.out pw)).out).mono ?_); rintro e w79 ⟨rfl, hb⟩; refine ⟨_, rfl, ?_⟩; have n0_ := am (blk_below (g := gb190) (o := .cells #[.bool a0_0, .bool a0_1, .int .i64 a0_2, .int .i64 a0_3] 23 (0, 0)) (by (with_reducible repeat (first | refine blk_drewN ?_ _ | refine blk_drew ?_ | refine blk_alloc ?_ _)); refine blk_far ?_ NB190_206.out _; (with_reducible repeat (first | refine blk_drewN ?_ _ | refine blk_drew ?_ | refine blk_alloc ?_ _)); refine blk_far ?_ NB190_206.out _; (with_reducible repeat (first | refine blk_drewN ?_ _ | refine blk_drew ?_ | refine blk_alloc ?_ _)); refine blk_far ?_ NB190_206.out _; (with_reducible repeat (first | refine blk_drewN ?_ _ | refine blk_drew ?_ | refine blk_alloc ?_ _)); refine blk_far ?_ NB190_206.out _; (with_reducible repeat (first | refine blk_drewN ?_ _ | refine blk_drew ?_ | refine blk_alloc ?_ _)); exact BK190.out) hb); have n1_ := am (blk_below (g := gb191) (o := .cells #[.bool a1_0, .bool a1_1, .int .i64 a1_2, .int .i64 a1_3] 23 (0, 0)) (by (with_reducible repeat (first | refine blk_drewN ?_ _ | refine blk_drew ?_ | refine blk_alloc ?_ _)); refine blk_far ?_ NB191_206.out _; (with_reducible repeat (first | refine blk_drewN ?_ _ | refine blk_drew ?_ | refine blk_alloc ?_ _)); refine blk_far ?_ NB191_206.out _; (with_reducible repeat (first | refine blk_drewN ?_ _ | refine blk_drew ?_ | refine blk_alloc ?_ _)); refine blk_far ?_ NB191_206.out _; (with_reducible repeat (first | refine blk_drewN ?_ _ | refine blk_drew ?_ | refine blk_alloc ?_ _)); refine blk_far ?_ NB191_206.out _; (with_reducible repeat (first | refine blk_drewN ?_ _ | refine blk_drew ?_ | refine blk_alloc ?_ _)); exact BK191.out) hb); have n2_ := am (blk_below (g := gb199) (o := .cells #[.bool t194, .bool t195, .int .i64 t196, .int .i64 t197] 23 (0, 0)) (by (with_reducible repeat (first | refine blk_drewN ?_ _ | refine blk_drew ?_ | refine blk_alloc ?_ _)); refine blk_far ?_ NB199_206.out _; (with_reducible repeat (first | refine blk_drewN ?_ _ | refine blk_drew ?_ | refine blk_alloc ?_ _)); refine blk_far ?_ NB199_206.out _; (with_reducible repeat (first | refine blk_drewN ?_ _ | refine blk_drew ?_ | refine blk_alloc ?_ _)); refine blk_far ?_ NB199_206.out _; (with_reducible repeat (first | refine blk_drewN ?_ _ | refine blk_drew ?_ | refine blk_alloc ?_ _)); refine blk_far ?_ NB199_206.out _; (with_reducible repeat (first | refine blk_drewN ?_ _ | refine blk_drew ?_ | refine blk_alloc ?_ _)); exact BK199.out) hb); have n3_ := am (blk_below (g := gb206) (o := .cells #[.bool t200, .bool t201, .int .i64 t202, .int .i64 t203] 23 (0, 0)) (by (with_reducible repeat (first | refine blk_drewN ?_ _ | refine blk_drew ?_ | refine blk_alloc ?_ _)); refine blk_put (cs := #[.bool t200, .bool t201, .int .i64 t202, .int .i64 0]) ?_ 3 _ rfl; (with_reducible repeat (first | refine blk_drewN ?_ _ | refine blk_drew ?_ | refine blk_alloc ?_ _)); refine blk_put (cs := #[.bool t200, .bool t201, .int .i64 0, .int .i64 0]) ?_ 2 _ rfl; (with_reducible repeat (first | refine blk_drewN ?_ _ | refine blk_drew ?_ | refine blk_alloc ?_ _)); refine blk_put (cs := #[.bool t200, .bool false, .int .i64 0, .int .i64 0]) ?_ 1 _ rfl; (with_reducible repeat (first | refine blk_drewN ?_ _ | refine blk_drew ?_ | refine blk_alloc ?_ _)); refine blk_put (cs := #[.bool false, .bool false, .int .i64 0, .int .i64 0]) ?_ 0 _ rfl; (with_reducible repeat (first | refine blk_drewN ?_ _ | refine blk_drew ?_ | refine blk_alloc ?_ _)); exact BK206.out) hb); have n4_ := am (below_step pw hb); clear BK190; clear BK191; clear BK199; clear BK206; clear HB; have BK190 := n0_; have BK191 := n1_; have BK199 := n2_; have BK206 := n3_; have HB := n4_; clear n0_ n1_ n2_ n3_ n4_; (try clear hb); (try clear hb2); (try clear hk); (try clear hi); (try simp only [errW_none, errW_some]); have hcz80_0 : w79.cell? ⟨gb190, 0, none⟩ = some (.bool a0_0) := bc BK190 0; have hcz80_1 : w79.cell? ⟨gb190, 1, none⟩ = some (.bool a0_1) := bc BK190 1; have hcz80_2 : w79.cell? ⟨gb190, 2, none⟩ = some (.int .i64 a0_2) := bc BK190 2; have hcz80_3 : w79.cell? ⟨gb190, 3, none⟩ = some (.int .i64 a0_3) := bc BK190 3; have hfz80_0 := blk_frozen BK190.out 0; have hfz80_1 := blk_frozen BK190.out 1; have hfz80_2 := blk_frozen BK190.out 2; have hfz80_3 := blk_frozen BK190.out 3; have hcz81_0 : w79.cell? ⟨gb191, 0, none⟩ = some (.bool a1_0) := bc BK191 0; have hcz81_1 : w79.cell? ⟨gb191, 1, none⟩ = some (.bool a1_1) := bc BK191 1; have hcz81_2 : w79.cell? ⟨gb191, 2, none⟩ = some (.int .i64 a1_2) := bc BK191 2; have hcz81_3 : w79.cell? ⟨gb191, 3, none⟩ = some (.int .i64 a1_3) := bc BK191 3; have hfz81_0 := blk_frozen BK191.out 0; have hfz81_1 := blk_frozen BK191.out 1; have hfz81_2 := blk_frozen BK191.out 2; have hfz81_3 := blk_frozen BK191.out 3) | ((with_reducible refine gate_callee (f := 37) rfl ?_); refine goesL_ (some 71) rfl rfl Tryd.func37 kk rfl #[.agg #[.bool a0_0, .bool a0_1, .int .i64 a0_2, .int .i64 a0_3], .agg #[.bool a1_0, .bool a1_1, .int .i64 a1_2, .int .i64 a1_3]] rfl (by (try simp only [List.map_toArray, List.map_cons, List.map_nil]); first | done | rfl | (simp only [List.length_drop, List.length_take]; rfl)) ?_; (with_reducible refine (R2_MetOf.calls k a0_0 a0_1 a0_2 a0_3 a1_0 a1_1 a1_2 a1_3 t212 t213 t214 t215 t216 _ A47.out).mono ?_); rintro e w82 ⟨rfl, hb⟩; refine ⟨_, rfl, ?_⟩; have n0_ := bb BK190 hb; have n1_ := bb BK191 hb; have n2_ := bb BK199 hb; have n3_ := bb BK206 hb; have n4_ := am (below_step pw hb); clear BK190; clear BK191; clear BK199; clear BK206; clear HB; have BK190 := n0_; have BK191 := n1_; have BK199 := n2_; have BK206 := n3_; have HB := n4_; clear n0_ n1_ n2_ n3_ n4_; (try clear hb); (try clear hb2); (try clear hk); (try clear hi)) | ((with_reducible refine gate_dst (N := 14) rfl ?_); refine box_event ?hg (N := 14) ?hd (cs := #[.bool false, .bool false, .int .i64 0, .int .i64 0]) (t := 23) ?hr ?_; (case hd => rfl); (case hg => rfl); (case hr => first | (go_simp; done) | (go_simp; rfl)); intro gb217 hg w83 hbox hb; have n0_ := bb BK190 hb; have n1_ := bb BK191 hb; have n2_ := bb BK199 hb; have n3_ := bb BK206 hb; have n4_ := am (below_step pw hb); have n5_ := am (hbox); have n6_ := am ((by rw [hg]; exact (below_size pw) : w.heap.size ≤ gb217)); have n7_ := am ((by rw [hg]; exact (below_size pw) : w.heap.size ≤ gb217)); have n8_ := am ((by rw [hg]; exact Nat.ne_of_lt (blk_lt pk) : gb190 ≠ gb217)); have n9_ := am ((by rw [hg]; exact Nat.ne_of_gt (blk_lt pk) : gb217 ≠ gb190)); have n10_ := am ((by rw [hg]; exact Nat.ne_of_lt (blk_lt pk) : gb191 ≠ gb217)); have n11_ := am ((by rw [hg]; exact Nat.ne_of_gt (blk_lt pk) : gb217 ≠ gb191)); have n12_ := am ((by rw [hg]; exact Nat.ne_of_lt (blk_lt pk) : gb199 ≠ gb217)); have n13_ := am ((by rw [hg]; exact Nat.ne_of_gt (blk_lt pk) : gb217 ≠ gb199)); have n14_ := am ((by rw [hg]; exact Nat.ne_of_lt (blk_lt pk) : gb206 ≠ gb217)); have n15_ := am ((by rw [hg]; exact Nat.ne_of_gt (blk_lt pk) : gb217 ≠ gb206)); clear BK190; clear BK191; clear BK199; clear BK206; clear HB; have BK190 := n0_; have BK191 := n1_; have BK199 := n2_; have BK206 := n3_; have HB := n4_; have BK217 := n5_; have GW217 := n6_; have GE217 := n7_; have NB190_217 := n8_; have NB217_190 := n9_; have NB191_217 := n10_; have NB217_191 := n11_; have NB199_217 := n12_; have NB217_199 := n13_; have NB206_217 := n14_; have NB217_206 := n15_; clear n0_ n1_ n2_ n3_ n4_ n5_ n6_ n7_ n8_ n9_ n10_ n11_ n12_ n13_ n14_ n15_; clear hb hbox hg; have hnb84 := NB217_190.out; have hnc84 := NB190_217.out; have hnb85 := NB217_191.out; have hnc85 := NB191_217.out; have hnb86 := NB217_199.out; have hnc86 := NB199_217.out; have hnb87 := NB217_206.out; have hnc87 := NB206_217.out; have hcz88_0 : w83.cell? ⟨gb217, 0, none⟩ = some (.bool false) := bc BK217 0; have hcz88_1 : w83.cell? ⟨gb217, 1, none⟩ = some (.bool false) := bc BK217 1; have hcz88_2 : w83.cell? ⟨gb217, 2, none⟩ = some (.int .i64 0) := bc BK217 2; have hcz88_3 : w83.cell? ⟨gb217, 3, none⟩ = some (.int .i64 0) := bc BK217 3; have hfz88_0 := blk_frozen BK217.out 0; have hfz88_1 := blk_frozen BK217.out 1; have hfz88_2 := blk_frozen BK217.out 2; have hfz88_3 := blk_frozen BK217.out 3))
      have n0_ : Aside0 (((((w83.setCell ⟨gb217, 0, none⟩ (.bool t212)).setCell ⟨gb217, 1, none⟩ (.bool t213)).setCell ⟨gb217, 2, none⟩ (.int .i64 t214)).setCell ⟨gb217, 3, none⟩ (.int .i64 t215)).heap[gb190]? = some (.cells #[.bool a0_0, .bool a0_1, .int .i64 a0_2, .int .i64 a0_3] 23 (0, 0))) := ⟨by (with_reducible repeat (first | refine blk_drewN ?_ _ | refine blk_drew ?_ | refine blk_alloc ?_ _)); refine blk_far ?_ NB190_217.out _; (with_reducible repeat (first | refine blk_drewN ?_ _ | refine blk_drew ?_ | refine blk_alloc ?_ _)); refine blk_far ?_ NB190_217.out _; (with_reducible repeat (first | refine blk_drewN ?_ _ | refine blk_drew ?_ | refine blk_alloc ?_ _)); refine blk_far ?_ NB190_217.out _; (with_reducible repeat (first | refine blk_drewN ?_ _ | refine blk_drew ?_ | refine blk_alloc ?_ _)); refine blk_far ?_ NB190_217.out _; (with_reducible repeat (first | refine blk_drewN ?_ _ | refine blk_drew ?_ | refine blk_alloc ?_ _)); exact BK190.out⟩
      have n1_ : Aside0 (((((w83.setCell ⟨gb217, 0, none⟩ (.bool t212)).setCell ⟨gb217, 1, none⟩ (.bool t213)).setCell ⟨gb217, 2, none⟩ (.int .i64 t214)).setCell ⟨gb217, 3, none⟩ (.int .i64 t215)).heap[gb191]? = some (.cells #[.bool a1_0, .bool a1_1, .int .i64 a1_2, .int .i64 a1_3] 23 (0, 0))) := ⟨by (with_reducible repeat (first | refine blk_drewN ?_ _ | refine blk_drew ?_ | refine blk_alloc ?_ _)); refine blk_far ?_ NB191_217.out _; (with_reducible repeat (first | refine blk_drewN ?_ _ | refine blk_drew ?_ | refine blk_alloc ?_ _)); refine blk_far ?_ NB191_217.out _; (with_reducible repeat (first | refine blk_drewN ?_ _ | refine blk_drew ?_ | refine blk_alloc ?_ _)); refine blk_far ?_ NB191_217.out _; (with_reducible repeat (first | refine blk_drewN ?_ _ | refine blk_drew ?_ | refine blk_alloc ?_ _)); refine blk_far ?_ NB191_217.out _; (with_reducible repeat (first | refine blk_drewN ?_ _ | refine blk_drew ?_ | refine blk_alloc ?_ _)); exact BK191.out⟩
      have n2_ : Aside0 (((((w83.setCell ⟨gb217, 0, none⟩ (.bool t212)).setCell ⟨gb217, 1, none⟩ (.bool t213)).setCell ⟨gb217, 2, none⟩ (.int .i64 t214)).setCell ⟨gb217, 3, none⟩ (.int .i64 t215)).heap[gb199]? = some (.cells #[.bool t194, .bool t195, .int .i64 t196, .int .i64 t197] 23 (0, 0))) := ⟨by (with_reducible repeat (first | refine blk_drewN ?_ _ | refine blk_drew ?_ | refine blk_alloc ?_ _)); refine blk_far ?_ NB199_217.out _; (with_reducible repeat (first | refine blk_drewN ?_ _ | refine blk_drew ?_ | refine blk_alloc ?_ _)); refine blk_far ?_ NB199_217.out _; (with_reducible repeat (first | refine blk_drewN ?_ _ | refine blk_drew ?_ | refine blk_alloc ?_ _)); refine blk_far ?_ NB199_217.out _; (with_reducible repeat (first | refine blk_drewN ?_ _ | refine blk_drew ?_ | refine blk_alloc ?_ _)); refine blk_far ?_ NB199_217.out _; (with_reducible repeat (first | refine blk_drewN ?_ _ | refine blk_drew ?_ | refine blk_alloc ?_ _)); exact BK199.out⟩
      have n3_ : Aside0 (((((w83.setCell ⟨gb217, 0, none⟩ (.bool t212)).setCell ⟨gb217, 1, none⟩ (.bool t213)).setCell ⟨gb217, 2, none⟩ (.int .i64 t214)).setCell ⟨gb217, 3, none⟩ (.int .i64 t215)).heap[gb206]? = some (.cells #[.bool t200, .bool t201, .int .i64 t202, .int .i64 t203] 23 (0, 0))) := ⟨by (with_reducible repeat (first | refine blk_drewN ?_ _ | refine blk_drew ?_ | refine blk_alloc ?_ _)); refine blk_far ?_ NB206_217.out _; (with_reducible repeat (first | refine blk_drewN ?_ _ | refine blk_drew ?_ | refine blk_alloc ?_ _)); refine blk_far ?_ NB206_217.out _; (with_reducible repeat (first | refine blk_drewN ?_ _ | refine blk_drew ?_ | refine blk_alloc ?_ _)); refine blk_far ?_ NB206_217.out _; (with_reducible repeat (first | refine blk_drewN ?_ _ | refine blk_drew ?_ | refine blk_alloc ?_ _)); refine blk_far ?_ NB206_217.out _; (with_reducible repeat (first | refine blk_drewN ?_ _ | refine blk_drew ?_ | refine blk_alloc ?_ _)); exact BK206.out⟩
      have n4_ : Aside0 (((((w83.setCell ⟨gb217, 0, none⟩ (.bool t212)).setCell ⟨gb217, 1, none⟩ (.bool t213)).setCell ⟨gb217, 2, none⟩ (.int .i64 t214)).setCell ⟨gb217, 3, none⟩ (.int .i64 t215)).heap[gb217]? = some (.cells #[.bool t212, .bool t213, .int .i64 t214, .int .i64 t215] 23 (0, 0))) := ⟨by (with_reducible repeat (first | refine blk_drewN ?_ _ | refine blk_drew ?_ | refine blk_alloc ?_ _)); refine blk_put (cs := #[.bool t212, .bool t213, .int .i64 t214, .int .i64 0]) ?_ 3 _ rfl; (with_reducible repeat (first | refine blk_drewN ?_ _ | refine blk_drew ?_ | refine blk_alloc ?_ _)); refine blk_put (cs := #[.bool t212, .bool t213, .int .i64 0, .int .i64 0]) ?_ 2 _ rfl; (with_reducible repeat (first | refine blk_drewN ?_ _ | refine blk_drew ?_ | refine blk_alloc ?_ _)); refine blk_put (cs := #[.bool t212, .bool false, .int .i64 0, .int .i64 0]) ?_ 1 _ rfl; (with_reducible repeat (first | refine blk_drewN ?_ _ | refine blk_drew ?_ | refine blk_alloc ?_ _)); refine blk_put (cs := #[.bool false, .bool false, .int .i64 0, .int .i64 0]) ?_ 0 _ rfl; (with_reducible repeat (first | refine blk_drewN ?_ _ | refine blk_drew ?_ | refine blk_alloc ?_ _)); exact BK217.out⟩
      have n5_ : Aside0 (Below w.heap.size w ((((w83.setCell ⟨gb217, 0, none⟩ (.bool t212)).setCell ⟨gb217, 1, none⟩ (.bool t213)).setCell ⟨gb217, 2, none⟩ (.int .i64 t214)).setCell ⟨gb217, 3, none⟩ (.int .i64 t215))) := ⟨pw⟩
      (try clear BK190)
      (try clear BK191)
      (try clear BK199)
      (try clear BK206)
      (try clear BK217)
      (try clear HB)
      generalize ((((w83.setCell ⟨gb217, 0, none⟩ (.bool t212)).setCell ⟨gb217, 1, none⟩ (.bool t213)).setCell ⟨gb217, 2, none⟩ (.int .i64 t214)).setCell ⟨gb217, 3, none⟩ (.int .i64 t215)) = w89 at n0_ n1_ n2_ n3_ n4_ n5_ ⊢
      revert n0_ n1_ n2_ n3_ n4_ n5_
      intro BK190 BK191 BK199 BK206 BK217 HB
      have n0_ := am (blk_drew BK190.out)
      have n1_ := am (blk_drew BK191.out)
      have n2_ := am (blk_drew BK199.out)
      have n3_ := am (blk_drew BK206.out)
      have n4_ := am (blk_drew BK217.out)
      have n5_ := am (below_drew1 HB.out)
      clear BK190 BK191 BK199 BK206 BK217 HB
      revert n0_ n1_ n2_ n3_ n4_ n5_
      intro BK190 BK191 BK199 BK206 BK217 HB
      refine start_ (n := 29) (S := fun w' => w'.cell? ⟨gb199, 0, none⟩ = some (.bool t194) ∧ w'.cell? ⟨gb199, 1, none⟩ = some (.bool t195) ∧ w'.cell? ⟨gb199, 2, none⟩ = some (.int .i64 t196) ∧ w'.cell? ⟨gb199, 3, none⟩ = some (.int .i64 t197) ∧ w'.cell? ⟨gb190, 0, none⟩ = some (.bool a0_0) ∧ w'.cell? ⟨gb190, 1, none⟩ = some (.bool a0_1) ∧ w'.cell? ⟨gb190, 2, none⟩ = some (.int .i64 a0_2) ∧ w'.cell? ⟨gb190, 3, none⟩ = some (.int .i64 a0_3) ∧ w'.cell? ⟨gb191, 0, none⟩ = some (.bool a1_0) ∧ w'.cell? ⟨gb191, 1, none⟩ = some (.bool a1_1) ∧ w'.cell? ⟨gb191, 2, none⟩ = some (.int .i64 a1_2) ∧ w'.cell? ⟨gb191, 3, none⟩ = some (.int .i64 a1_3) ∧ w'.cell? ⟨gb206, 0, none⟩ = some (.bool t200) ∧ w'.cell? ⟨gb206, 1, none⟩ = some (.bool t201) ∧ w'.cell? ⟨gb206, 2, none⟩ = some (.int .i64 t202) ∧ w'.cell? ⟨gb206, 3, none⟩ = some (.int .i64 t203) ∧ w'.cell? ⟨gb217, 0, none⟩ = some (.bool t212) ∧ w'.cell? ⟨gb217, 1, none⟩ = some (.bool t213) ∧ w'.cell? ⟨gb217, 2, none⟩ = some (.int .i64 t214) ∧ w'.cell? ⟨gb217, 3, none⟩ = some (.int .i64 t215)) (ds := []) #[false, false, false, false, false, false, false, false, false, false, false, false, false, false, false, false, false, false, false, false, false, false, false, false, false, false, false, false, false] kk rfl rfl ⟨bc BK199 0, bc BK199 1, bc BK199 2, bc BK199 3, bc BK190 0, bc BK190 1, bc BK190 2, bc BK190 3, bc BK191 0, bc BK191 1, bc BK191 2, bc BK191 3, bc BK206 0, bc BK206 1, bc BK206 2, bc BK206 3, bc BK217 0, bc BK217 1, bc BK217 2, bc BK217 3⟩ (fun hHeld => ?_); refine with_tabW L2_IntervalLattice.tab11 L2_IntervalLattice.bits11 (fun HT_ HW_ => ?_)
      generalize w89.drew = w90 at BK190 BK191 BK199 BK206 BK217 HB hHeld ⊢
      refine pure_ (i := 1) (N := some 75) (v := ?_) (a' := ?_) #[false, true, false, false, false, false, false, false, false, false, false, false, false, false, false, false, false, false, false, false, false, false, false, false, false, false, false, false, false] rfl rfl (any_of HT_.out kk) (fun _ _ _ h => h) (Or.inl ⟨by rfl, ?_⟩) ?_ ?_
      rotate_left
      ·intro w'
       go_simp
       with_reducible rfl
      rotate_left
      ·simp only [Act.put, List.setIfInBounds_toArray, List.set_cons_zero, List.set_cons_succ, i64_w, i32_w]
       rfl
      refine take_ (i := 0) (N := some 74) (v := ?_) (a' := ?_) #[true, true, false, false, false, false, false, false, false, false, false, false, false, false, false, false, false, false, false, false, false, false, false, false, false, false, false, false, false] rfl rfl (take_ofW HT_.out HW_.out kk) (fun _ _ _ h => h) (Or.inl ⟨by rfl, ?_⟩) hHeld ?_ ?_
      rotate_left
      ·rintro w' ⟨s0, s1, s2, s3, s4, s5, s6, s7, s8, s9, s10, s11, s12, s13, s14, s15, s16, s17, s18, s19⟩
       go_simp
       with_reducible rfl
      rotate_left
      ·simp only [Act.put, List.setIfInBounds_toArray, List.set_cons_zero, List.set_cons_succ, i64_w, i32_w]
       rfl
      refine take_ (i := 2) (N := some 76) (v := ?_) (a' := ?_) #[true, true, true, false, false, false, false, false, false, false, false, false, false, false, false, false, false, false, false, false, false, false, false, false, false, false, false, false, false] rfl rfl (take_ofW HT_.out HW_.out kk) (fun _ _ _ h => h) (Or.inl ⟨by rfl, ?_⟩) hHeld ?_ ?_
      rotate_left
      ·rintro w' ⟨s0, s1, s2, s3, s4, s5, s6, s7, s8, s9, s10, s11, s12, s13, s14, s15, s16, s17, s18, s19⟩
       go_simp
       with_reducible rfl
      rotate_left
      ·simp only [Act.put, List.setIfInBounds_toArray, List.set_cons_zero, List.set_cons_succ, i64_w, i32_w]
       rfl
      refine take_ (i := 3) (N := some 77) (v := ?_) (a' := ?_) #[true, true, true, true, false, false, false, false, false, false, false, false, false, false, false, false, false, false, false, false, false, false, false, false, false, false, false, false, false] rfl rfl (take_ofW HT_.out HW_.out kk) (fun _ _ _ h => h) (Or.inl ⟨by rfl, ?_⟩) hHeld ?_ ?_
      rotate_left
      ·rintro w' ⟨s0, s1, s2, s3, s4, s5, s6, s7, s8, s9, s10, s11, s12, s13, s14, s15, s16, s17, s18, s19⟩
       go_simp
       with_reducible rfl
      rotate_left
      ·simp only [Act.put, List.setIfInBounds_toArray, List.set_cons_zero, List.set_cons_succ, i64_w, i32_w]
       rfl
      refine one_ (i := 4) (N := some 78) #[true, true, true, true, true, false, false, false, false, false, false, false, false, false, false, false, false, false, false, false, false, false, false, false, false, false, false, false, false] rfl rfl (one_of HT_.out kk) (by decide) (fun K hK => ?_)
      refine goes_ Tryd.func38 kk rfl #[.agg #[.bool a0_0, .bool a0_1, .int .i64 a0_2, .int .i64 a0_3], .agg #[.bool a1_0, .bool a1_1, .int .i64 a1_2, .int .i64 a1_3]] (by rfl) rfl rfl (by (try simp only [List.map_toArray, List.map_cons, List.map_nil]); first | done | rfl | (simp only [List.length_drop, List.length_take]; rfl)) ?_
      with_reducible refine (R2_JoinedOf.calls k a0_0 a0_1 a0_2 a0_3 a1_0 a1_1 a1_2 a1_3 t218 t219 t220 t221 _ A48.out).mono ?_
      rintro e w91 ⟨rfl, hb⟩
      refine ⟨_, rfl, ?_⟩
      have n0_ := bb BK190 hb
      have n1_ := bb BK191 hb
      have n2_ := bb BK199 hb
      have n3_ := bb BK206 hb
      have n4_ := bb BK217 hb
      have n5_ := am (below_step pw hb)
      clear BK190 BK191 BK199 BK206 BK217 HB
      revert n0_ n1_ n2_ n3_ n4_ n5_
      intro BK190 BK191 BK199 BK206 BK217 HB
      (try clear hb)
      (try clear hb2)
      (try clear hk)
      (try clear hi)
      have CA49 := fun (W : World) (hE9_ : ErrAll W) => L2_isSpan.calls t194 t195 t196 t197 t198 t218 t219 t220 t221 0 true W A49.out hE9_
      try simp only [errW_none, errW_some] at CA49
      refine hK.out _ _ ⟨bc BK199 0, bc BK199 1, bc BK199 2, bc BK199 3, bc BK190 0, bc BK190 1, bc BK190 2, bc BK190 3, bc BK191 0, bc BK191 1, bc BK191 2, bc BK191 3, bc BK206 0, bc BK206 1, bc BK206 2, bc BK206 3, bc BK217 0, bc BK217 1, bc BK217 2, bc BK217 3⟩ (fun hHeld => ?_)
      clear hK K
      refine norm_ (a' := ?_) ?_ ?_
      rotate_left
      ·show Act.put _ (some 78) _ = _
       simp only [Act.put, List.setIfInBounds_toArray, List.set_cons_zero, List.set_cons_succ, i64_w, i32_w]
       rfl
      refine one_ (i := 5) (N := some 79) #[true, true, true, true, true, true, false, false, false, false, false, false, false, false, false, false, false, false, false, false, false, false, false, false, false, false, false, false, false] rfl rfl (one_of HT_.out kk) (by decide) (fun K hK => ?_)
      refine goes_ Tryd.func36 kk rfl #[.agg #[.bool t194, .bool t195, .int .i64 t196, .int .i64 t197], errW t198, .agg #[.bool t218, .bool t219, .int .i64 t220, .int .i64 t221], .int .i64 0] (by rfl) rfl rfl (by (try simp only [List.map_toArray, List.map_cons, List.map_nil]); first | done | rfl | (simp only [List.length_drop, List.length_take]; rfl)) ?_
      with_reducible refine (CA49 _ (ErrAll.below hE9.out pw)).mono ?_
      rintro e w92 ⟨rfl, hb⟩
      refine ⟨_, rfl, ?_⟩
      have n0_ := bb BK190 hb
      have n1_ := bb BK191 hb
      have n2_ := bb BK199 hb
      have n3_ := bb BK206 hb
      have n4_ := bb BK217 hb
      have n5_ := am (below_step pw hb)
      clear BK190 BK191 BK199 BK206 BK217 HB
      revert n0_ n1_ n2_ n3_ n4_ n5_
      intro BK190 BK191 BK199 BK206 BK217 HB
      (try clear hb)
      (try clear hb2)
      (try clear hk)
      (try clear hi)
      have CA51 := fun (W : World) (hE9_ : ErrAll W) => L2_isSpan.calls t200 t201 t202 t203 t205 t212 t213 t214 t215 0 true W A51.out hE9_
      try simp only [errW_none, errW_some] at CA51
      refine hK.out _ _ ⟨bc BK199 0, bc BK199 1, bc BK199 2, bc BK199 3, bc BK190 0, bc BK190 1, bc BK190 2, bc BK190 3, bc BK191 0, bc BK191 1, bc BK191 2, bc BK191 3, bc BK206 0, bc BK206 1, bc BK206 2, bc BK206 3, bc BK217 0, bc BK217 1, bc BK217 2, bc BK217 3⟩ (fun hHeld => ?_)
      clear hK K
      refine norm_ (a' := ?_) ?_ ?_
      rotate_left
      ·show Act.put _ (some 79) _ = _
       simp only [Act.put, List.setIfInBounds_toArray, List.set_cons_zero, List.set_cons_succ, i64_w, i32_w]
       rfl
      refine pure_ (i := 6) (N := some 80) (v := ?_) (a' := ?_) #[true, true, true, true, true, true, true, false, false, false, false, false, false, false, false, false, false, false, false, false, false, false, false, false, false, false, false, false, false] rfl rfl (any_of HT_.out kk) (fun _ _ _ h => h) (Or.inl ⟨by rfl, ?_⟩) ?_ ?_
      rotate_left
      ·intro w'
       go_simp
       with_reducible rfl
      rotate_left
      ·simp only [Act.put, List.setIfInBounds_toArray, List.set_cons_zero, List.set_cons_succ, i64_w, i32_w]
       rfl
      refine pure_ (i := 8) (N := some 82) (v := ?_) (a' := ?_) #[true, true, true, true, true, true, true, false, true, false, false, false, false, false, false, false, false, false, false, false, false, false, false, false, false, false, false, false, false] rfl rfl (any_of HT_.out kk) (fun _ _ _ h => h) (Or.inl ⟨by rfl, ?_⟩) ?_ ?_
      rotate_left
      ·intro w'
       go_simp
       with_reducible rfl
      rotate_left
      ·simp only [Act.put, List.setIfInBounds_toArray, List.set_cons_zero, List.set_cons_succ, i64_w, i32_w]
       rfl
      refine take_ (i := 7) (N := some 81) (v := ?_) (a' := ?_) #[true, true, true, true, true, true, true, true, true, false, false, false, false, false, false, false, false, false, false, false, false, false, false, false, false, false, false, false, false] rfl rfl (take_ofW HT_.out HW_.out kk) (fun _ _ _ h => h) (Or.inl ⟨by rfl, ?_⟩) hHeld ?_ ?_
      rotate_left
      ·rintro w' ⟨s0, s1, s2, s3, s4, s5, s6, s7, s8, s9, s10, s11, s12, s13, s14, s15, s16, s17, s18, s19⟩
       go_simp
       with_reducible rfl
      rotate_left
      ·simp only [Act.put, List.setIfInBounds_toArray, List.set_cons_zero, List.set_cons_succ, i64_w, i32_w]
       rfl
      refine take_ (i := 9) (N := some 83) (v := ?_) (a' := ?_) #[true, true, true, true, true, true, true, true, true, true, false, false, false, false, false, false, false, false, false, false, false, false, false, false, false, false, false, false, false] rfl rfl (take_ofW HT_.out HW_.out kk) (fun _ _ _ h => h) (Or.inl ⟨by rfl, ?_⟩) hHeld ?_ ?_
      rotate_left
      ·rintro w' ⟨s0, s1, s2, s3, s4, s5, s6, s7, s8, s9, s10, s11, s12, s13, s14, s15, s16, s17, s18, s19⟩
       go_simp
       with_reducible rfl
      rotate_left
      ·simp only [Act.put, List.setIfInBounds_toArray, List.set_cons_zero, List.set_cons_succ, i64_w, i32_w]
       rfl
      refine one_ (i := 10) (N := some 84) #[true, true, true, true, true, true, true, true, true, true, true, false, false, false, false, false, false, false, false, false, false, false, false, false, false, false, false, false, false] rfl rfl (one_of HT_.out kk) (by decide) (fun K hK => ?_)
      refine goes_ Tryd.func36 kk rfl #[.agg #[.bool t200, .bool t201, .int .i64 t202, .int .i64 t203], errW t205, .agg #[.bool t212, .bool t213, .int .i64 t214, .int .i64 t215], .int .i64 0] (by rfl) rfl rfl (by (try simp only [List.map_toArray, List.map_cons, List.map_nil]); first | done | rfl | (simp only [List.length_drop, List.length_take]; rfl)) ?_
      with_reducible refine (CA51 _ (ErrAll.below hE9.out pw)).mono ?_
      rintro e w93 ⟨rfl, hb⟩
      refine ⟨_, rfl, ?_⟩
      have n0_ := bb BK190 hb
      have n1_ := bb BK191 hb
      have n2_ := bb BK199 hb
      have n3_ := bb BK206 hb
      have n4_ := bb BK217 hb
      have n5_ := am (below_step pw hb)
      clear BK190 BK191 BK199 BK206 BK217 HB
      revert n0_ n1_ n2_ n3_ n4_ n5_
      intro BK190 BK191 BK199 BK206 BK217 HB
      (try clear hb)
      (try clear hb2)
      (try clear hk)
      (try clear hi)
      refine hK.out _ _ ⟨bc BK199 0, bc BK199 1, bc BK199 2, bc BK199 3, bc BK190 0, bc BK190 1, bc BK190 2, bc BK190 3, bc BK191 0, bc BK191 1, bc BK191 2, bc BK191 3, bc BK206 0, bc BK206 1, bc BK206 2, bc BK206 3, bc BK217 0, bc BK217 1, bc BK217 2, bc BK217 3⟩ (fun hHeld => ?_)
      clear hK K
      refine norm_ (a' := ?_) ?_ ?_
      rotate_left
      ·show Act.put _ (some 84) _ = _
       simp only [Act.put, List.setIfInBounds_toArray, List.set_cons_zero, List.set_cons_succ, i64_w, i32_w]
       rfl
      refine pure_ (i := 11) (N := some 85) (v := ?_) (a' := ?_) #[true, true, true, true, true, true, true, true, true, true, true, true, false, false, false, false, false, false, false, false, false, false, false, false, false, false, false, false, false] rfl rfl (any_of HT_.out kk) (fun _ _ _ h => h) (Or.inl ⟨by rfl, ?_⟩) ?_ ?_
      rotate_left
      ·intro w'
       go_simp
       with_reducible rfl
      rotate_left
      ·simp only [Act.put, List.setIfInBounds_toArray, List.set_cons_zero, List.set_cons_succ, i64_w, i32_w]
       rfl
      refine pure_ (i := 12) (N := some 86) (v := ?_) (a' := ?_) #[true, true, true, true, true, true, true, true, true, true, true, true, true, false, false, false, false, false, false, false, false, false, false, false, false, false, false, false, false] rfl rfl (any_of HT_.out kk) (fun _ _ _ h => h) (Or.inl ⟨by rfl, ?_⟩) ?_ ?_
      rotate_left
      ·intro w'
       go_simp
       with_reducible rfl
      rotate_left
      ·simp only [Act.put, List.setIfInBounds_toArray, List.set_cons_zero, List.set_cons_succ, i64_w, i32_w]
       rfl
      refine pure_ (i := 13) (N := some 87) (v := ?_) (a' := ?_) #[true, true, true, true, true, true, true, true, true, true, true, true, true, true, false, false, false, false, false, false, false, false, false, false, false, false, false, false, false] rfl rfl (any_of HT_.out kk) (fun _ _ _ h => h) (Or.inl ⟨by rfl, ?_⟩) ?_ ?_
      rotate_left
      ·intro w'
       go_simp
       with_reducible rfl
      rotate_left
      ·simp only [Act.put, List.setIfInBounds_toArray, List.set_cons_zero, List.set_cons_succ, i64_w, i32_w]
       rfl
      refine pure_ (i := 14) (N := some 88) (v := ?_) (a' := ?_) #[true, true, true, true, true, true, true, true, true, true, true, true, true, true, true, false, false, false, false, false, false, false, false, false, false, false, false, false, false] rfl rfl (any_of HT_.out kk) (fun _ _ _ h => h) (Or.inl ⟨by rfl, ?_⟩) ?_ ?_
      rotate_left
      ·intro w'
       go_simp
       with_reducible rfl
      rotate_left
      ·simp only [Act.put, List.setIfInBounds_toArray, List.set_cons_zero, List.set_cons_succ, i64_w, i32_w]
       rfl
      refine pure_ (i := 15) (N := some 89) (v := ?_) (a' := ?_) #[true, true, true, true, true, true, true, true, true, true, true, true, true, true, true, true, false, false, false, false, false, false, false, false, false, false, false, false, false] rfl rfl (any_of HT_.out kk) (fun _ _ _ h => h) (Or.inl ⟨by rfl, ?_⟩) ?_ ?_
      rotate_left
      ·intro w'
       go_simp
       with_reducible rfl
      rotate_left
      ·simp only [Act.put, List.setIfInBounds_toArray, List.set_cons_zero, List.set_cons_succ, i64_w, i32_w]
       rfl
      refine pure_ (i := 16) (N := some 90) (v := ?_) (a' := ?_) #[true, true, true, true, true, true, true, true, true, true, true, true, true, true, true, true, true, false, false, false, false, false, false, false, false, false, false, false, false] rfl rfl (any_of HT_.out kk) (fun _ _ _ h => h) (Or.inl ⟨by rfl, ?_⟩) ?_ ?_
      rotate_left
      ·intro w'
       go_simp
       with_reducible rfl
      rotate_left
      ·simp only [Act.put, List.setIfInBounds_toArray, List.set_cons_zero, List.set_cons_succ, i64_w, i32_w]
       rfl
      refine pure_ (i := 17) (N := some 91) (v := ?_) (a' := ?_) #[true, true, true, true, true, true, true, true, true, true, true, true, true, true, true, true, true, true, false, false, false, false, false, false, false, false, false, false, false] rfl rfl (any_of HT_.out kk) (fun _ _ _ h => h) (Or.inl ⟨by rfl, ?_⟩) ?_ ?_
      rotate_left
      ·intro w'
       go_simp
       with_reducible rfl
      rotate_left
      ·simp only [Act.put, List.setIfInBounds_toArray, List.set_cons_zero, List.set_cons_succ, i64_w, i32_w]
       rfl
      refine pure_ (i := 18) (N := some 92) (v := ?_) (a' := ?_) #[true, true, true, true, true, true, true, true, true, true, true, true, true, true, true, true, true, true, true, false, false, false, false, false, false, false, false, false, false] rfl rfl (any_of HT_.out kk) (fun _ _ _ h => h) (Or.inl ⟨by rfl, ?_⟩) ?_ ?_
      rotate_left
      ·intro w'
       go_simp
       with_reducible rfl
      rotate_left
      ·simp only [Act.put, List.setIfInBounds_toArray, List.set_cons_zero, List.set_cons_succ, i64_w, i32_w]
       rfl
      refine pure_ (i := 19) (N := some 93) (v := ?_) (a' := ?_) #[true, true, true, true, true, true, true, true, true, true, true, true, true, true, true, true, true, true, true, true, false, false, false, false, false, false, false, false, false] rfl rfl (any_of HT_.out kk) (fun _ _ _ h => h) (Or.inl ⟨by rfl, ?_⟩) ?_ ?_
      rotate_left
      ·intro w'
       go_simp
       with_reducible rfl
      rotate_left
      ·simp only [Act.put, List.setIfInBounds_toArray, List.set_cons_zero, List.set_cons_succ, i64_w, i32_w]
       rfl
      refine pure_ (i := 20) (N := some 94) (v := ?_) (a' := ?_) #[true, true, true, true, true, true, true, true, true, true, true, true, true, true, true, true, true, true, true, true, true, false, false, false, false, false, false, false, false] rfl rfl (any_of HT_.out kk) (fun _ _ _ h => h) (Or.inl ⟨by rfl, ?_⟩) ?_ ?_
      rotate_left
      ·intro w'
       go_simp
       with_reducible rfl
      rotate_left
      ·simp only [Act.put, List.setIfInBounds_toArray, List.set_cons_zero, List.set_cons_succ, i64_w, i32_w]
       rfl
      refine pure_ (i := 21) (N := some 95) (v := ?_) (a' := ?_) #[true, true, true, true, true, true, true, true, true, true, true, true, true, true, true, true, true, true, true, true, true, true, false, false, false, false, false, false, false] rfl rfl (any_of HT_.out kk) (fun _ _ _ h => h) (Or.inl ⟨by rfl, ?_⟩) ?_ ?_
      rotate_left
      ·intro w'
       go_simp
       with_reducible rfl
      rotate_left
      ·simp only [Act.put, List.setIfInBounds_toArray, List.set_cons_zero, List.set_cons_succ, i64_w, i32_w]
       rfl
      refine pure_ (i := 22) (N := some 96) (v := ?_) (a' := ?_) #[true, true, true, true, true, true, true, true, true, true, true, true, true, true, true, true, true, true, true, true, true, true, true, false, false, false, false, false, false] rfl rfl (any_of HT_.out kk) (fun _ _ _ h => h) (Or.inl ⟨by rfl, ?_⟩) ?_ ?_
      rotate_left
      ·intro w'
       go_simp
       with_reducible rfl
      rotate_left
      ·simp only [Act.put, List.setIfInBounds_toArray, List.set_cons_zero, List.set_cons_succ, i64_w, i32_w]
       rfl
      refine take_ (i := 23) (N := some 97) (v := ?_) (a' := ?_) #[true, true, true, true, true, true, true, true, true, true, true, true, true, true, true, true, true, true, true, true, true, true, true, true, false, false, false, false, false] rfl rfl (take_ofW HT_.out HW_.out kk) (fun _ _ _ h => h) (Or.inl ⟨by rfl, ?_⟩) hHeld ?_ ?_
      rotate_left
      ·rintro w' ⟨s0, s1, s2, s3, s4, s5, s6, s7, s8, s9, s10, s11, s12, s13, s14, s15, s16, s17, s18, s19⟩
       go_simp
       with_reducible rfl
      rotate_left
      ·simp only [Act.put, List.setIfInBounds_toArray, List.set_cons_zero, List.set_cons_succ, i64_w, i32_w]
       rfl
      refine take_ (i := 24) (N := some 98) (v := ?_) (a' := ?_) #[true, true, true, true, true, true, true, true, true, true, true, true, true, true, true, true, true, true, true, true, true, true, true, true, true, false, false, false, false] rfl rfl (take_ofW HT_.out HW_.out kk) (fun _ _ _ h => h) (Or.inl ⟨by rfl, ?_⟩) hHeld ?_ ?_
      rotate_left
      ·rintro w' ⟨s0, s1, s2, s3, s4, s5, s6, s7, s8, s9, s10, s11, s12, s13, s14, s15, s16, s17, s18, s19⟩
       go_simp
       with_reducible rfl
      rotate_left
      ·simp only [Act.put, List.setIfInBounds_toArray, List.set_cons_zero, List.set_cons_succ, i64_w, i32_w]
       rfl
      refine one_ (i := 25) (N := some 99) #[true, true, true, true, true, true, true, true, true, true, true, true, true, true, true, true, true, true, true, true, true, true, true, true, true, true, false, false, false] rfl rfl (one_of HT_.out kk) (by decide) (fun K hK => ?_)
      refine goes_ Tryd.func39 kk rfl #[.agg #[.bool a0_0, .bool a0_1, .int .i64 a0_2, .int .i64 a0_3], .agg #[.bool a1_0, .bool a1_1, .int .i64 a1_2, .int .i64 a1_3]] (by rfl) rfl rfl (by (try simp only [List.map_toArray, List.map_cons, List.map_nil]); first | done | rfl | (simp only [List.length_drop, List.length_take]; rfl)) ?_
      with_reducible refine (R2_InsideOf.calls k a0_0 a0_1 a0_2 a0_3 a1_0 a1_1 a1_2 a1_3 t225 _ A54.out).mono ?_
      rintro e w94 ⟨rfl, hb⟩
      refine ⟨_, rfl, ?_⟩
      have n0_ := bb BK190 hb
      have n1_ := bb BK191 hb
      have n2_ := bb BK199 hb
      have n3_ := bb BK206 hb
      have n4_ := bb BK217 hb
      have n5_ := am (below_step pw hb)
      clear BK190 BK191 BK199 BK206 BK217 HB
      revert n0_ n1_ n2_ n3_ n4_ n5_
      intro BK190 BK191 BK199 BK206 BK217 HB
      (try clear hb)
      (try clear hb2)
      (try clear hk)
      (try clear hi)
      refine hK.out _ _ ⟨bc BK199 0, bc BK199 1, bc BK199 2, bc BK199 3, bc BK190 0, bc BK190 1, bc BK190 2, bc BK190 3, bc BK191 0, bc BK191 1, bc BK191 2, bc BK191 3, bc BK206 0, bc BK206 1, bc BK206 2, bc BK206 3, bc BK217 0, bc BK217 1, bc BK217 2, bc BK217 3⟩ (fun hHeld => ?_)
      clear hK K
      refine norm_ (a' := ?_) ?_ ?_
      rotate_left
      ·show Act.put _ (some 99) _ = _
       simp only [Act.put, List.setIfInBounds_toArray, List.set_cons_zero, List.set_cons_succ, i64_w, i32_w]
       rfl
      refine pure_ (i := 26) (N := some 100) (v := ?_) (a' := ?_) #[true, true, true, true, true, true, true, true, true, true, true, true, true, true, true, true, true, true, true, true, true, true, true, true, true, true, true, false, false] rfl rfl (any_of HT_.out kk) (fun _ _ _ h => h) (Or.inl ⟨by rfl, ?_⟩) ?_ ?_
      rotate_left
      ·intro w'
       go_simp
       with_reducible rfl
      rotate_left
      ·simp only [Act.put, List.setIfInBounds_toArray, List.set_cons_zero, List.set_cons_succ, i64_w, i32_w]
       rfl
      refine pure_ (i := 27) (N := some 101) (v := ?_) (a' := ?_) #[true, true, true, true, true, true, true, true, true, true, true, true, true, true, true, true, true, true, true, true, true, true, true, true, true, true, true, true, false] rfl rfl (any_of HT_.out kk) (fun _ _ _ h => h) (Or.inl ⟨by rfl, ?_⟩) ?_ ?_
      rotate_left
      ·intro w'
       go_simp
       with_reducible rfl
      rotate_left
      ·simp only [Act.put, List.setIfInBounds_toArray, List.set_cons_zero, List.set_cons_succ, i64_w, i32_w]
       rfl
      refine pure_ (i := 28) (N := some 4) (v := ?_) (a' := ?_) #[true, true, true, true, true, true, true, true, true, true, true, true, true, true, true, true, true, true, true, true, true, true, true, true, true, true, true, true, true] rfl rfl (any_of HT_.out kk) (fun _ _ _ h => h) (Or.inl ⟨by rfl, ?_⟩) ?_ ?_
      rotate_left
      ·intro w'
       go_simp
       with_reducible rfl
      rotate_left
      ·simp only [Act.put, List.setIfInBounds_toArray, List.set_cons_zero, List.set_cons_succ, i64_w, i32_w]
       rfl
      refine done_ (done_of HT_.out kk) ?_
      try go_wp2
      go_ret
      exact ⟨pe, pw⟩
     have H1 : (none) = some r := by rw [if_neg (show ¬ (some q224).isNone = true by simp)] at H; exact H
     clear H
     have H := H1
     clear H1
     try simp only [errW_none, errW_some]
     exact absurd H (by simp)
    rw [if_neg c53] at H
    have c53b0 : (t204 == t216) = false := by simpa using c53
    (try (have c53b1 : decide (t204 = t216) = false := by simpa using c53))
    (try (have c53b2 : (t204 == t216) = false := by simpa using c53))
    (try (have c53b3 : ¬ (t204 = t216) := by simpa using c53))
    clear c53
    exact absurd H (by simp)
   replace c52 := Bool.eq_false_iff.mpr c52
   subst c52
   have H1 : (none) = some r := by rw [if_neg (show ¬ (false = true) by decide)] at H; exact H
   clear H
   have H := H1
   clear H1
   exact absurd H (by simp)
  replace c50 := Bool.eq_false_iff.mpr c50
  subst c50
  have H1 : (none) = some r := by rw [if_neg (show ¬ (false = true) by decide)] at H; exact H
  clear H
  have H := H1
  clear H1
  exact absurd H (by simp)
 replace c4 := Bool.eq_false_iff.mpr c4
 subst c4
 have H1 : (none) = some r := by rw [if_neg (show ¬ (false = true) by decide)] at H; exact H
 clear H
 have H := H1
 clear H1
 exact absurd H (by simp)

end Go.Proofs.YtimgfgambeffeaaDoor.I
