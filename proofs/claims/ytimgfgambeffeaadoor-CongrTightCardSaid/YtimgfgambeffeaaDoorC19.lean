-- Written by wip/xprint.py (the session's program over the kit's print).
import Derived.Test.YtimgfgambeffeaaDoorEb
import Derived.Test.YtimgfgambeffeaaDoorC0
import Derived.Test.YtimgfgambeffeaaDoorC4
import Derived.Test.YtimgfgambeffeaaDoorC17
import Derived.Test.YtimgfgambeffeaaDoorC18
namespace Go.Proofs.YtimgfgambeffeaaDoor.C
open Go.RowKit Go.Proofs.YtimgfgambeffeaaDoorW.PrintWords Go.Proofs.YtimgfgambeffeaaDoorW.PrintLast Go.Proofs.YtimgfgambeffeaaDoorW.PrintMore Go.Proofs.Rcg
attribute [local go_sem] max2_int min2_int max_two min_two max_three min_three max_four min_four   -- for this text's walks alone
set_option linter.unusedVariables false
set_option linter.unusedSimpArgs false

/-! ### congr_Tight: function 52 -/
mutual
def congr_Tight.j1 : Nat → Int → Int → Bool → Bool → Int → Int → Option (Bool × Bool × Int × Int × Bool × Option Int)
 | 0, _, _, _, _, _, _ => none
 | k + 1, x429000, x429001, x430000, x430001, x430002, x430003 => if x430001 = true then (congr_Tight.j2 k x430000 x430001 x430002 x430003) else (if x429001 = 0 then (none) else (congr_Tight.j2 k x430000 x430001 x430002 (wrap64 (x430003 - (Int.tmod (wrap64 ((Int.tmod (wrap64 (x430003 - x429000)) x429001) + x429001)) x429001)))))
def congr_Tight.j2 : Nat → Bool → Bool → Int → Int → Option (Bool × Bool × Int × Int × Bool × Option Int)
 | 0, _, _, _, _ => none
 | k + 1, x430000, x430001, x430002, x430003 => if x430000 = true then (congr_Tight.j3 k false x430000 x430001 x430002 x430003) else (if x430001 = true then (congr_Tight.j3 k false x430000 x430001 x430002 x430003) else (congr_Tight.j3 k (decide (x430002 > x430003)) x430000 x430001 x430002 x430003))
def congr_Tight.j3 : Nat → Bool → Bool → Bool → Int → Int → Option (Bool × Bool × Int × Int × Bool × Option Int)
 | 0, _, _, _, _, _ => none
 | k + 1, x94, x430000, x430001, x430002, x430003 => if x94 = true then (some (false, false, 0, 0, false, none)) else (if x430000 = true then (if x430001 = true then (some (x430000, x430001, x430002, x430003, true, none)) else (some (x430000, x430001, x430002, mx x430003 (-1099511627776), true, none))) else (if x430001 = true then (some (x430000, x430001, mn x430002 1099511627776, x430003, true, none)) else (some (x430000, x430001, mn x430002 1099511627776, mx x430003 (-1099511627776), true, none))))
def congr_Tight.l0 : Nat → Int → Int → Bool → Bool → Int → Int → Option (Bool × Bool × Int × Int × Bool × Option Int)
 | 0, _, _, _, _, _, _ => none
 | k + 1, x429000, x429001, x430000, x430001, x430002, x430003 => (congr_Has.f k x429000 x429001 x430002).bind fun t440 => (if t440 = true then (congr_Tight.j1 k x429000 x429001 x430000 x430001 x430002 x430003) else (if x429001 = 0 then (none) else (congr_Tight.l0 k x429000 x429001 x430000 x430001 (wrap64 (x430002 + (Int.tmod (wrap64 ((Int.tmod (wrap64 (x429000 - x430002)) x429001) + x429001)) x429001))) x430003)))
end
def congr_Tight.f (k : Nat) (a0_0 : Int) (a0_1 : Int) (a1_0 : Bool) (a1_1 : Bool) (a1_2 : Int) (a1_3 : Int) : Option (Bool × Bool × Int × Int × Bool × Option Int) := (congr_Valid.f k a0_0 a0_1).bind fun t431 => (if t431.isNone = true then ((interval_Valid.f k a1_0 a1_1 a1_2 a1_3).bind fun t433 => (if t433.isNone = true then (if a0_1 = 0 then ((interval_Has.f k a1_0 a1_1 a1_2 a1_3 a0_0).bind fun t435 => (if t435 = true then ((interval_One.f k a0_0).bind fun bt436 => (some (bt436.1, bt436.2.1, bt436.2.2.1, bt436.2.2.2, true, none))) else (some (false, false, 0, 0, false, none)))) else (if a1_0 = true then (congr_Tight.j1 k a0_0 a0_1 a1_0 a1_1 a1_2 a1_3) else (congr_Tight.l0 k a0_0 a0_1 a1_0 a1_1 a1_2 a1_3))) else (some (false, false, 0, 0, false, some (t433.getD 0))))) else (some (false, false, 0, 0, false, some (t431.getD 0))))
theorem congr_Tight.mono_l : ∀ k, (∀ y0 y1 y2 y3 y4 y5, LeO (congr_Tight.j1 k y0 y1 y2 y3 y4 y5) (congr_Tight.j1 (k + 1) y0 y1 y2 y3 y4 y5)) ∧ (∀ y0 y1 y2 y3, LeO (congr_Tight.j2 k y0 y1 y2 y3) (congr_Tight.j2 (k + 1) y0 y1 y2 y3)) ∧ (∀ y0 y1 y2 y3 y4, LeO (congr_Tight.j3 k y0 y1 y2 y3 y4) (congr_Tight.j3 (k + 1) y0 y1 y2 y3 y4)) ∧ (∀ y0 y1 y2 y3 y4 y5, LeO (congr_Tight.l0 k y0 y1 y2 y3 y4 y5) (congr_Tight.l0 (k + 1) y0 y1 y2 y3 y4 y5))
 | 0 => ⟨fun _ _ _ _ _ _ r h => by simp [congr_Tight.j1] at h, fun _ _ _ _ r h => by simp [congr_Tight.j2] at h, fun _ _ _ _ _ r h => by simp [congr_Tight.j3] at h, fun _ _ _ _ _ _ r h => by simp [congr_Tight.l0] at h⟩
 | k + 1 => by
  obtain ⟨ih0, ih1, ih2, ih3⟩ := congr_Tight.mono_l k
  refine ⟨?_, ?_, ?_, ?_⟩
  ·intro y0 y1 y2 y3 y4 y5
   unfold congr_Tight.j1
   repeat' first
   | (with_reducible exact ih0 _ _ _ _ _ _)
   | (with_reducible exact ih1 _ _ _ _)
   | (with_reducible exact ih2 _ _ _ _ _)
   | (with_reducible exact ih3 _ _ _ _ _ _)
   | (with_reducible exact congr_Has.mono _ _ _ _)
   | (with_reducible exact congr_Valid.mono _ _ _)
   | (with_reducible exact interval_Has.mono _ _ _ _ _ _)
   | (with_reducible exact interval_One.mono _ _)
   | (with_reducible exact interval_Valid.mono _ _ _ _ _)
   | (with_reducible exact LeO.refl _)
   | (with_reducible exact LeO.none _)
   | (with_reducible refine LeO.ite ?_ ?_)
   | (with_reducible refine LeO.bind ?_ (fun _ => ?_))
   | exact ih0 _ _ _ _ _ _
   | exact ih1 _ _ _ _
   | exact ih2 _ _ _ _ _
   | exact ih3 _ _ _ _ _ _
   | exact congr_Has.mono _ _ _ _
   | exact congr_Valid.mono _ _ _
   | exact interval_Has.mono _ _ _ _ _ _
   | exact interval_One.mono _ _
   | exact interval_Valid.mono _ _ _ _ _
   | exact LeO.none _
   | refine LeO.ite ?_ ?_
   | refine LeO.bind ?_ (fun _ => ?_)
  ·intro y0 y1 y2 y3
   unfold congr_Tight.j2
   repeat' first
   | (with_reducible exact ih0 _ _ _ _ _ _)
   | (with_reducible exact ih1 _ _ _ _)
   | (with_reducible exact ih2 _ _ _ _ _)
   | (with_reducible exact ih3 _ _ _ _ _ _)
   | (with_reducible exact congr_Has.mono _ _ _ _)
   | (with_reducible exact congr_Valid.mono _ _ _)
   | (with_reducible exact interval_Has.mono _ _ _ _ _ _)
   | (with_reducible exact interval_One.mono _ _)
   | (with_reducible exact interval_Valid.mono _ _ _ _ _)
   | (with_reducible exact LeO.refl _)
   | (with_reducible exact LeO.none _)
   | (with_reducible refine LeO.ite ?_ ?_)
   | (with_reducible refine LeO.bind ?_ (fun _ => ?_))
   | exact ih0 _ _ _ _ _ _
   | exact ih1 _ _ _ _
   | exact ih2 _ _ _ _ _
   | exact ih3 _ _ _ _ _ _
   | exact congr_Has.mono _ _ _ _
   | exact congr_Valid.mono _ _ _
   | exact interval_Has.mono _ _ _ _ _ _
   | exact interval_One.mono _ _
   | exact interval_Valid.mono _ _ _ _ _
   | exact LeO.none _
   | refine LeO.ite ?_ ?_
   | refine LeO.bind ?_ (fun _ => ?_)
  ·intro y0 y1 y2 y3 y4
   unfold congr_Tight.j3
   repeat' first
   | (with_reducible exact ih0 _ _ _ _ _ _)
   | (with_reducible exact ih1 _ _ _ _)
   | (with_reducible exact ih2 _ _ _ _ _)
   | (with_reducible exact ih3 _ _ _ _ _ _)
   | (with_reducible exact congr_Has.mono _ _ _ _)
   | (with_reducible exact congr_Valid.mono _ _ _)
   | (with_reducible exact interval_Has.mono _ _ _ _ _ _)
   | (with_reducible exact interval_One.mono _ _)
   | (with_reducible exact interval_Valid.mono _ _ _ _ _)
   | (with_reducible exact LeO.refl _)
   | (with_reducible exact LeO.none _)
   | (with_reducible refine LeO.ite ?_ ?_)
   | (with_reducible refine LeO.bind ?_ (fun _ => ?_))
   | exact ih0 _ _ _ _ _ _
   | exact ih1 _ _ _ _
   | exact ih2 _ _ _ _ _
   | exact ih3 _ _ _ _ _ _
   | exact congr_Has.mono _ _ _ _
   | exact congr_Valid.mono _ _ _
   | exact interval_Has.mono _ _ _ _ _ _
   | exact interval_One.mono _ _
   | exact interval_Valid.mono _ _ _ _ _
   | exact LeO.none _
   | refine LeO.ite ?_ ?_
   | refine LeO.bind ?_ (fun _ => ?_)
  intro y0 y1 y2 y3 y4 y5
  unfold congr_Tight.l0
  repeat' first
  | (with_reducible exact ih0 _ _ _ _ _ _)
  | (with_reducible exact ih1 _ _ _ _)
  | (with_reducible exact ih2 _ _ _ _ _)
  | (with_reducible exact ih3 _ _ _ _ _ _)
  | (with_reducible exact congr_Has.mono _ _ _ _)
  | (with_reducible exact congr_Valid.mono _ _ _)
  | (with_reducible exact interval_Has.mono _ _ _ _ _ _)
  | (with_reducible exact interval_One.mono _ _)
  | (with_reducible exact interval_Valid.mono _ _ _ _ _)
  | (with_reducible exact LeO.refl _)
  | (with_reducible exact LeO.none _)
  | (with_reducible refine LeO.ite ?_ ?_)
  | (with_reducible refine LeO.bind ?_ (fun _ => ?_))
  | exact ih0 _ _ _ _ _ _
  | exact ih1 _ _ _ _
  | exact ih2 _ _ _ _ _
  | exact ih3 _ _ _ _ _ _
  | exact congr_Has.mono _ _ _ _
  | exact congr_Valid.mono _ _ _
  | exact interval_Has.mono _ _ _ _ _ _
  | exact interval_One.mono _ _
  | exact interval_Valid.mono _ _ _ _ _
  | exact LeO.none _
  | refine LeO.ite ?_ ?_
  | refine LeO.bind ?_ (fun _ => ?_)
theorem congr_Tight.mono : ∀ a0 a1 a2 a3 a4 a5 k, LeO (congr_Tight.f k a0 a1 a2 a3 a4 a5) (congr_Tight.f (k + 1) a0 a1 a2 a3 a4 a5) := by
 intro a0 a1 a2 a3 a4 a5 k
 obtain ⟨ih0, ih1, ih2, ih3⟩ := congr_Tight.mono_l k
 unfold congr_Tight.f
 repeat' first
   | (with_reducible exact ih0 _ _ _ _ _ _)
   | (with_reducible exact ih1 _ _ _ _)
   | (with_reducible exact ih2 _ _ _ _ _)
   | (with_reducible exact ih3 _ _ _ _ _ _)
   | (with_reducible exact congr_Has.mono _ _ _ _)
   | (with_reducible exact congr_Valid.mono _ _ _)
   | (with_reducible exact interval_Has.mono _ _ _ _ _ _)
   | (with_reducible exact interval_One.mono _ _)
   | (with_reducible exact interval_Valid.mono _ _ _ _ _)
   | (with_reducible exact LeO.refl _)
   | (with_reducible exact LeO.none _)
   | (with_reducible refine LeO.ite ?_ ?_)
   | (with_reducible refine LeO.bind ?_ (fun _ => ?_))
   | exact ih0 _ _ _ _ _ _
   | exact ih1 _ _ _ _
   | exact ih2 _ _ _ _ _
   | exact ih3 _ _ _ _ _ _
   | exact congr_Has.mono _ _ _ _
   | exact congr_Valid.mono _ _ _
   | exact interval_Has.mono _ _ _ _ _ _
   | exact interval_One.mono _ _
   | exact interval_Valid.mono _ _ _ _ _
   | exact LeO.none _
   | refine LeO.ite ?_ ?_
   | refine LeO.bind ?_ (fun _ => ?_)
def congr_Tight.T13 : Bool × List (List Nat × List Nat) := (true, [([], []), ([0], [0]), ([], []), ([2], [2]), ([], []), ([4], [4]), ([3, 5], [3, 5]), ([], []), ([7], [7]), ([6, 8], [6, 8]), ([], []), ([10], [10]), ([9, 11], [9, 11]), ([], []), ([13], [13]), ([12, 14], [12, 14]), ([1, 15], [1, 15]), ([0, 1, 2, 3, 4, 5, 6, 7, 8, 9, 10, 11, 12, 13, 14, 15, 16], []), ([17, 16, 0, 1, 2, 3, 4, 5, 6, 7, 8, 9, 10, 11, 12, 13, 14, 15, 16], [16, 17])])
def congr_Tight.B13 : List Nat := [0, 1, 0, 4, 0, 16, 60, 0, 128, 508, 0, 1024, 4092, 0, 8192, 32764, 65535, 131071, 262143]
theorem congr_Tight.tab13 : rtab .any (opsOf Tryd.f52 13) = congr_Tight.T13 := by kernel_rfl
theorem congr_Tight.bits13 : waitsOk congr_Tight.T13.2 congr_Tight.B13 = true := by kernel_rfl
def congr_Tight.T15 : Bool × List (List Nat × List Nat) := (true, [([], []), ([0], [0]), ([], []), ([2], [2]), ([], []), ([4], [4]), ([3, 5], [3, 5]), ([], []), ([7], [7]), ([6, 8], [6, 8]), ([], []), ([10], [10]), ([9, 11], [9, 11]), ([], []), ([13], [13]), ([12, 14], [12, 14]), ([1, 15], [1, 15]), ([0, 1, 2, 3, 4, 5, 6, 7, 8, 9, 10, 11, 12, 13, 14, 15, 16], []), ([17, 16, 0, 1, 2, 3, 4, 5, 6, 7, 8, 9, 10, 11, 12, 13, 14, 15, 16], [16, 17])])
def congr_Tight.B15 : List Nat := [0, 1, 0, 4, 0, 16, 60, 0, 128, 508, 0, 1024, 4092, 0, 8192, 32764, 65535, 131071, 262143]
theorem congr_Tight.tab15 : rtab .any (opsOf Tryd.f52 15) = congr_Tight.T15 := by kernel_rfl
theorem congr_Tight.bits15 : waitsOk congr_Tight.T15.2 congr_Tight.B15 = true := by kernel_rfl
set_option maxHeartbeats 8000000 in
set_option maxRecDepth 100000 in
theorem congr_Tight.calls [EA] (k : Nat) (a0_0 : Int) (a0_1 : Int) (a1_0 : Bool) (a1_1 : Bool) (a1_2 : Int) (a1_3 : Int) (r1 : Bool) (r2 : Bool) (r3 : Int) (r4 : Int) (r5 : Bool) (r6 : Option Int) (w : World) (h : congr_Tight.f k a0_0 a0_1 a1_0 a1_1 a1_2 a1_3 = some (r1, r2, r3, r4, r5, r6)) (h2_ : ErrAt 2 1 w) (h3_ : ErrAt 3 0 w) :
  Calls Tryd.prog 52 #[.agg #[.int .i64 a0_0, .int .i64 a0_1], .agg #[.bool a1_0, .bool a1_1, .int .i64 a1_2, .int .i64 a1_3]] w fun e w' => e = .returned (.tuple #[.agg #[.bool r1, .bool r2, .int .i64 r3, .int .i64 r4], .bool r5, errW r6]) ∧ Below w.heap.size w w' := by
 have hE2 := am h2_
 clear h2_
 have hE3 := am h3_
 clear h3_
 have hu34 := Tryd.underlying34
 have hu23 := Tryd.underlying23
 have hu28 := Tryd.underlying28
 have HB := am (Below.refl w.heap.size w)
 have H : ((congr_Valid.f k a0_0 a0_1).bind fun t431 => (if t431.isNone = true then ((interval_Valid.f k a1_0 a1_1 a1_2 a1_3).bind fun t433 => (if t433.isNone = true then (if a0_1 = 0 then ((interval_Has.f k a1_0 a1_1 a1_2 a1_3 a0_0).bind fun t435 => (if t435 = true then ((interval_One.f k a0_0).bind fun bt436 => (some (bt436.1, bt436.2.1, bt436.2.2.1, bt436.2.2.2, true, none))) else (some (false, false, 0, 0, false, none)))) else (if a1_0 = true then (congr_Tight.j1 k a0_0 a0_1 a1_0 a1_1 a1_2 a1_3) else (congr_Tight.l0 k a0_0 a0_1 a1_0 a1_1 a1_2 a1_3))) else (some (false, false, 0, 0, false, some (t433.getD 0))))) else (some (false, false, 0, 0, false, some (t431.getD 0))))) = some (r1, r2, r3, r4, r5, r6) := h
 clear h
 replace H := Option.bind_eq_some_iff.mp H
 obtain ⟨t431, A30, H⟩ := H
 replace H : (if t431.isNone = true then ((interval_Valid.f k a1_0 a1_1 a1_2 a1_3).bind fun t433 => (if t433.isNone = true then (if a0_1 = 0 then ((interval_Has.f k a1_0 a1_1 a1_2 a1_3 a0_0).bind fun t435 => (if t435 = true then ((interval_One.f k a0_0).bind fun bt436 => (some (bt436.1, bt436.2.1, bt436.2.2.1, bt436.2.2.2, true, none))) else (some (false, false, 0, 0, false, none)))) else (if a1_0 = true then (congr_Tight.j1 k a0_0 a0_1 a1_0 a1_1 a1_2 a1_3) else (congr_Tight.l0 k a0_0 a0_1 a1_0 a1_1 a1_2 a1_3))) else (some (false, false, 0, 0, false, some (t433.getD 0))))) else (some (false, false, 0, 0, false, some (t431.getD 0)))) = some (r1, r2, r3, r4, r5, r6) := H
 have A3 := am A30
 clear A30
 rcases t431 with _ | q432
 ·have H1 : ((interval_Valid.f k a1_0 a1_1 a1_2 a1_3).bind fun t433 => (if t433.isNone = true then (if a0_1 = 0 then ((interval_Has.f k a1_0 a1_1 a1_2 a1_3 a0_0).bind fun t435 => (if t435 = true then ((interval_One.f k a0_0).bind fun bt436 => (some (bt436.1, bt436.2.1, bt436.2.2.1, bt436.2.2.2, true, none))) else (some (false, false, 0, 0, false, none)))) else (if a1_0 = true then (congr_Tight.j1 k a0_0 a0_1 a1_0 a1_1 a1_2 a1_3) else (congr_Tight.l0 k a0_0 a0_1 a1_0 a1_1 a1_2 a1_3))) else (some (false, false, 0, 0, false, some (t433.getD 0))))) = some (r1, r2, r3, r4, r5, r6) := by rw [if_pos (show (none : Option Int).isNone = true by rfl)] at H; exact H
  clear H
  have H := H1
  clear H1
  try simp only [errW_none, errW_some]
  replace H := Option.bind_eq_some_iff.mp H
  obtain ⟨t433, A40, H⟩ := H
  replace H : (if t433.isNone = true then (if a0_1 = 0 then ((interval_Has.f k a1_0 a1_1 a1_2 a1_3 a0_0).bind fun t435 => (if t435 = true then ((interval_One.f k a0_0).bind fun bt436 => (some (bt436.1, bt436.2.1, bt436.2.2.1, bt436.2.2.2, true, none))) else (some (false, false, 0, 0, false, none)))) else (if a1_0 = true then (congr_Tight.j1 k a0_0 a0_1 a1_0 a1_1 a1_2 a1_3) else (congr_Tight.l0 k a0_0 a0_1 a1_0 a1_1 a1_2 a1_3))) else (some (false, false, 0, 0, false, some (t433.getD 0)))) = some (r1, r2, r3, r4, r5, r6) := H
  have A4 := am A40
  clear A40
  rcases t433 with _ | q434
  ·have H1 : (if a0_1 = 0 then ((interval_Has.f k a1_0 a1_1 a1_2 a1_3 a0_0).bind fun t435 => (if t435 = true then ((interval_One.f k a0_0).bind fun bt436 => (some (bt436.1, bt436.2.1, bt436.2.2.1, bt436.2.2.2, true, none))) else (some (false, false, 0, 0, false, none)))) else (if a1_0 = true then (congr_Tight.j1 k a0_0 a0_1 a1_0 a1_1 a1_2 a1_3) else (congr_Tight.l0 k a0_0 a0_1 a1_0 a1_1 a1_2 a1_3))) = some (r1, r2, r3, r4, r5, r6) := by rw [if_pos (show (none : Option Int).isNone = true by rfl)] at H; exact H
   clear H
   have H := H1
   clear H1
   try simp only [errW_none, errW_some]
   by_cases c5 : a0_1 = 0
   ·rw [if_pos c5] at H
    have c5b0 : (a0_1 == 0) = true := beq_iff_eq.mpr c5
    have c5b1 : (a0_1 != 0) = false := bne_eq_false_iff_eq.mpr c5
    clear c5
    replace H := Option.bind_eq_some_iff.mp H
    obtain ⟨t435, A60, H⟩ := H
    replace H : (if t435 = true then ((interval_One.f k a0_0).bind fun bt436 => (some (bt436.1, bt436.2.1, bt436.2.2.1, bt436.2.2.2, true, none))) else (some (false, false, 0, 0, false, none))) = some (r1, r2, r3, r4, r5, r6) := H
    have A6 := am A60
    clear A60
    by_cases c7 : t435 = true
    ·subst c7
     have H1 : ((interval_One.f k a0_0).bind fun bt436 => (some (bt436.1, bt436.2.1, bt436.2.2.1, bt436.2.2.2, true, none))) = some (r1, r2, r3, r4, r5, r6) := by rw [if_pos rfl] at H; exact H
     clear H
     have H := H1
     clear H1
     replace H := Option.bind_eq_some_iff.mp H
     obtain ⟨⟨t436, t437, t438, t439⟩, A80, H⟩ := H
     replace H : (some (t436, t437, t438, t439, true, none)) = some (r1, r2, r3, r4, r5, r6) := H
     have A8 := am A80
     clear A80
     simp only [Option.some.injEq, Prod.mk.injEq] at H
     obtain ⟨rfl, rfl, rfl, rfl, rfl, rfl⟩ := H
     go_enter Tryd.func52, Tryd.ntmps52
     go_wp2_with (first | ((with_reducible refine gate_dst (N := 2) rfl ?_); refine box_event ?hg (N := 2) ?hd (cs := #[.int .i64 a0_0, .int .i64 a0_1]) (t := 34) ?hr ?_; (case hd => rfl); (case hg => rfl); (case hr => first | (go_simp; done) | (go_simp; rfl)); intro gb428 hg w9 hbox hb; have n0_ := am (below_step pw hb); have n1_ := am (hbox); have n2_ := am ((by rw [hg]; exact (below_size pw) : w.heap.size ≤ gb428)); have n3_ := am ((by rw [hg]; exact (below_size pw) : w.heap.size ≤ gb428)); clear HB; have HB := n0_; have BK428 := n1_; have GW428 := n2_; have GE428 := n3_; clear n0_ n1_ n2_ n3_; clear hb hbox hg) | ((with_reducible refine gate_dst (N := 3) rfl ?_); refine box_event ?hg (N := 3) ?hd (cs := #[.bool a1_0, .bool a1_1, .int .i64 a1_2, .int .i64 a1_3]) (t := 23) ?hr ?_; (case hd => rfl); (case hg => rfl); (case hr => first | (go_simp; done) | (go_simp; rfl)); intro gb429 hg w10 hbox hb; have n0_ := bb BK428 hb; have n1_ := am (below_step pw hb); have n2_ := am (hbox); have n3_ := am ((by rw [hg]; exact (below_size pw) : w.heap.size ≤ gb429)); have n4_ := am ((by rw [hg]; exact (below_size pw) : w.heap.size ≤ gb429)); have n5_ := am ((by rw [hg]; exact Nat.ne_of_lt (blk_lt pk) : gb428 ≠ gb429)); have n6_ := am ((by rw [hg]; exact Nat.ne_of_gt (blk_lt pk) : gb429 ≠ gb428)); clear BK428; clear HB; have BK428 := n0_; have HB := n1_; have BK429 := n2_; have GW429 := n3_; have GE429 := n4_; have NB428_429 := n5_; have NB429_428 := n6_; clear n0_ n1_ n2_ n3_ n4_ n5_ n6_; clear hb hbox hg) | ((with_reducible refine gate_dst (N := 4) rfl ?_); refine box_event ?hg (N := 4) ?hd (cs := #[.bool false, .bool false, .int .i64 0, .int .i64 0]) (t := 23) ?hr ?_; (case hd => rfl); (case hg => rfl); (case hr => first | (go_simp; done) | (go_simp; rfl)); intro gb430 hg w11 hbox hb; have n0_ := bb BK428 hb; have n1_ := bb BK429 hb; have n2_ := am (below_step pw hb); have n3_ := am (hbox); have n4_ := am ((by rw [hg]; exact (below_size pw) : w.heap.size ≤ gb430)); have n5_ := am ((by rw [hg]; exact (below_size pw) : w.heap.size ≤ gb430)); have n6_ := am ((by rw [hg]; exact Nat.ne_of_lt (blk_lt pk) : gb428 ≠ gb430)); have n7_ := am ((by rw [hg]; exact Nat.ne_of_gt (blk_lt pk) : gb430 ≠ gb428)); have n8_ := am ((by rw [hg]; exact Nat.ne_of_lt (blk_lt pk) : gb429 ≠ gb430)); have n9_ := am ((by rw [hg]; exact Nat.ne_of_gt (blk_lt pk) : gb430 ≠ gb429)); clear BK428; clear BK429; clear HB; have BK428 := n0_; have BK429 := n1_; have HB := n2_; have BK430 := n3_; have GW430 := n4_; have GE430 := n5_; have NB428_430 := n6_; have NB430_428 := n7_; have NB429_430 := n8_; have NB430_429 := n9_; clear n0_ n1_ n2_ n3_ n4_ n5_ n6_ n7_ n8_ n9_; clear hb hbox hg; have hnb12 := NB428_429.out; have hnc12 := NB429_428.out; have hnb13 := NB428_430.out; have hnc13 := NB430_428.out; have hcz14_0 : w11.cell? ⟨gb428, 0, none⟩ = some (.int .i64 a0_0) := bc BK428 0; have hcz14_1 : w11.cell? ⟨gb428, 1, none⟩ = some (.int .i64 a0_1) := bc BK428 1; have hfz14_0 := blk_frozen BK428.out 0; have hfz14_1 := blk_frozen BK428.out 1) | ((with_reducible refine gate_callee (f := 29) rfl ?_); refine goesL_ (some 10) rfl rfl Tryd.func29 kk rfl #[.agg #[.int .i64 a0_0, .int .i64 a0_1]] rfl (by (try simp only [List.map_toArray, List.map_cons, List.map_nil]); first | done | rfl | (simp only [List.length_drop, List.length_take]; rfl)) ?_; (with_reducible refine (congr_Valid.calls k a0_0 a0_1 none _ A3.out (am (ErrAt.below hE2.out pw)).out (am (ErrAt.below hE3.out pw)).out).mono ?_); rintro e w15 ⟨rfl, hb⟩; refine ⟨_, rfl, ?_⟩; have n0_ := bb BK428 hb; have n1_ := bb BK429 hb; have n2_ := bb BK430 hb; have n3_ := am (below_step pw hb); clear BK428; clear BK429; clear BK430; clear HB; have BK428 := n0_; have BK429 := n1_; have BK430 := n2_; have HB := n3_; clear n0_ n1_ n2_ n3_; (try clear hb); (try clear hb2); (try clear hk); (try clear hi); (try simp only [errW_none, errW_some]); have hnb16 := NB429_430.out; have hnc16 := NB430_429.out; have hcz17_0 : w15.cell? ⟨gb429, 0, none⟩ = some (.bool a1_0) := bc BK429 0; have hcz17_1 : w15.cell? ⟨gb429, 1, none⟩ = some (.bool a1_1) := bc BK429 1; have hcz17_2 : w15.cell? ⟨gb429, 2, none⟩ = some (.int .i64 a1_2) := bc BK429 2; have hcz17_3 : w15.cell? ⟨gb429, 3, none⟩ = some (.int .i64 a1_3) := bc BK429 3; have hfz17_0 := blk_frozen BK429.out 0; have hfz17_1 := blk_frozen BK429.out 1; have hfz17_2 := blk_frozen BK429.out 2; have hfz17_3 := blk_frozen BK429.out 3) | ((with_reducible refine gate_callee (f := 15) rfl ?_); refine goesL_ (some 16) rfl rfl Tryd.func15 kk rfl #[.agg #[.bool a1_0, .bool a1_1, .int .i64 a1_2, .int .i64 a1_3]] rfl (by (try simp only [List.map_toArray, List.map_cons, List.map_nil]); first | done | rfl | (simp only [List.length_drop, List.length_take]; rfl)) ?_; (with_reducible refine (interval_Valid.calls k a1_0 a1_1 a1_2 a1_3 none _ A4.out (am (ErrAt.below hE2.out pw)).out (am (ErrAt.below hE3.out pw)).out).mono ?_); rintro e w18 ⟨rfl, hb⟩; refine ⟨_, rfl, ?_⟩; have n0_ := bb BK428 hb; have n1_ := bb BK429 hb; have n2_ := bb BK430 hb; have n3_ := am (below_step pw hb); clear BK428; clear BK429; clear BK430; clear HB; have BK428 := n0_; have BK429 := n1_; have BK430 := n2_; have HB := n3_; clear n0_ n1_ n2_ n3_; (try clear hb); (try clear hb2); (try clear hk); (try clear hi); (try simp only [errW_none, errW_some]); have hcz19_0 : w18.cell? ⟨gb428, 0, none⟩ = some (.int .i64 a0_0) := bc BK428 0; have hcz19_1 : w18.cell? ⟨gb428, 1, none⟩ = some (.int .i64 a0_1) := bc BK428 1; have hfz19_0 := blk_frozen BK428.out 0; have hfz19_1 := blk_frozen BK428.out 1; have hcz20_0 : w18.cell? ⟨gb429, 0, none⟩ = some (.bool a1_0) := bc BK429 0; have hcz20_1 : w18.cell? ⟨gb429, 1, none⟩ = some (.bool a1_1) := bc BK429 1; have hcz20_2 : w18.cell? ⟨gb429, 2, none⟩ = some (.int .i64 a1_2) := bc BK429 2; have hcz20_3 : w18.cell? ⟨gb429, 3, none⟩ = some (.int .i64 a1_3) := bc BK429 3; have hfz20_0 := blk_frozen BK429.out 0; have hfz20_1 := blk_frozen BK429.out 1; have hfz20_2 := blk_frozen BK429.out 2; have hfz20_3 := blk_frozen BK429.out 3) | ((with_reducible refine gate_callee (f := 16) rfl ?_); refine goesL_ (some 27) rfl rfl Tryd.func16 kk rfl #[.agg #[.bool a1_0, .bool a1_1, .int .i64 a1_2, .int .i64 a1_3], .int .i64 a0_0] rfl (by (try simp only [List.map_toArray, List.map_cons, List.map_nil]); first | done | rfl | (simp only [List.length_drop, List.length_take]; rfl)) ?_; (with_reducible refine (interval_Has.calls k a1_0 a1_1 a1_2 a1_3 a0_0 true _ A6.out (am (ErrAt.below hE2.out pw)).out (am (ErrAt.below hE3.out pw)).out).mono ?_); rintro e w21 ⟨rfl, hb⟩; refine ⟨_, rfl, ?_⟩; have n0_ := bb BK428 hb; have n1_ := bb BK429 hb; have n2_ := bb BK430 hb; have n3_ := am (below_step pw hb); clear BK428; clear BK429; clear BK430; clear HB; have BK428 := n0_; have BK429 := n1_; have BK430 := n2_; have HB := n3_; clear n0_ n1_ n2_ n3_; (try clear hb); (try clear hb2); (try clear hk); (try clear hi); have hcz22_0 : w21.cell? ⟨gb428, 0, none⟩ = some (.int .i64 a0_0) := bc BK428 0; have hcz22_1 : w21.cell? ⟨gb428, 1, none⟩ = some (.int .i64 a0_1) := bc BK428 1; have hfz22_0 := blk_frozen BK428.out 0; have hfz22_1 := blk_frozen BK428.out 1) | ((with_reducible refine gate_callee (f := 72) rfl ?_); refine goesL_ (some 32) rfl rfl Tryd.func72 kk rfl #[.int .i64 a0_0] rfl (by (try simp only [List.map_toArray, List.map_cons, List.map_nil]); first | done | rfl | (simp only [List.length_drop, List.length_take]; rfl)) ?_; (with_reducible refine (interval_One.calls k a0_0 t436 t437 t438 t439 _ A8.out).mono ?_); rintro e w23 ⟨rfl, hb⟩; refine ⟨_, rfl, ?_⟩; have n0_ := bb BK428 hb; have n1_ := bb BK429 hb; have n2_ := bb BK430 hb; have n3_ := am (below_step pw hb); clear BK428; clear BK429; clear BK430; clear HB; have BK428 := n0_; have BK429 := n1_; have BK430 := n2_; have HB := n3_; clear n0_ n1_ n2_ n3_; (try clear hb); (try clear hb2); (try clear hk); (try clear hi); have hcz24_0 : w23.cell? ⟨gb430, 0, none⟩ = some (.bool false) := bc BK430 0; have hcz24_1 : w23.cell? ⟨gb430, 1, none⟩ = some (.bool false) := bc BK430 1; have hcz24_2 : w23.cell? ⟨gb430, 2, none⟩ = some (.int .i64 0) := bc BK430 2; have hcz24_3 : w23.cell? ⟨gb430, 3, none⟩ = some (.int .i64 0) := bc BK430 3; have hfz24_0 := blk_frozen BK430.out 0; have hfz24_1 := blk_frozen BK430.out 1; have hfz24_2 := blk_frozen BK430.out 2; have hfz24_3 := blk_frozen BK430.out 3))
     refine bodyPost_ret (results_ctt rfl _ _ gb430 23 #[.bool t436, .bool t437, .int .i64 t438, .int .i64 t439] (0, 0) _ rfl (by (with_reducible repeat (first | refine blk_drewN ?_ _ | refine blk_drew ?_ | refine blk_alloc ?_ _)); refine blk_put (cs := #[.bool t436, .bool t437, .int .i64 t438, .int .i64 0]) ?_ 3 _ rfl; (with_reducible repeat (first | refine blk_drewN ?_ _ | refine blk_drew ?_ | refine blk_alloc ?_ _)); refine blk_put (cs := #[.bool t436, .bool t437, .int .i64 0, .int .i64 0]) ?_ 2 _ rfl; (with_reducible repeat (first | refine blk_drewN ?_ _ | refine blk_drew ?_ | refine blk_alloc ?_ _)); refine blk_put (cs := #[.bool t436, .bool false, .int .i64 0, .int .i64 0]) ?_ 1 _ rfl; (with_reducible repeat (first | refine blk_drewN ?_ _ | refine blk_drew ?_ | refine blk_alloc ?_ _)); refine blk_put (cs := #[.bool false, .bool false, .int .i64 0, .int .i64 0]) ?_ 0 _ rfl; (with_reducible repeat (first | refine blk_drewN ?_ _ | refine blk_drew ?_ | refine blk_alloc ?_ _)); exact BK430.out) Tryd.underlying23 rfl kk) rfl ?_
     exact ⟨pe, pw⟩
    replace c7 := Bool.eq_false_iff.mpr c7
    subst c7
    have H1 : (some (false, false, 0, 0, false, none)) = some (r1, r2, r3, r4, r5, r6) := by rw [if_neg (show ¬ (false = true) by decide)] at H; exact H
    clear H
    have H := H1
    clear H1
    simp only [Option.some.injEq, Prod.mk.injEq] at H
    obtain ⟨rfl, rfl, rfl, rfl, rfl, rfl⟩ := H
    go_enter Tryd.func52, Tryd.ntmps52
    go_wp2_with (first | ((with_reducible refine gate_dst (N := 2) rfl ?_); refine box_event ?hg (N := 2) ?hd (cs := #[.int .i64 a0_0, .int .i64 a0_1]) (t := 34) ?hr ?_; (case hd => rfl); (case hg => rfl); (case hr => first | (go_simp; done) | (go_simp; rfl)); intro gb428 hg w25 hbox hb; have n0_ := am (below_step pw hb); have n1_ := am (hbox); have n2_ := am ((by rw [hg]; exact (below_size pw) : w.heap.size ≤ gb428)); have n3_ := am ((by rw [hg]; exact (below_size pw) : w.heap.size ≤ gb428)); clear HB; have HB := n0_; have BK428 := n1_; have GW428 := n2_; have GE428 := n3_; clear n0_ n1_ n2_ n3_; clear hb hbox hg) | ((with_reducible refine gate_dst (N := 3) rfl ?_); refine box_event ?hg (N := 3) ?hd (cs := #[.bool a1_0, .bool a1_1, .int .i64 a1_2, .int .i64 a1_3]) (t := 23) ?hr ?_; (case hd => rfl); (case hg => rfl); (case hr => first | (go_simp; done) | (go_simp; rfl)); intro gb429 hg w26 hbox hb; have n0_ := bb BK428 hb; have n1_ := am (below_step pw hb); have n2_ := am (hbox); have n3_ := am ((by rw [hg]; exact (below_size pw) : w.heap.size ≤ gb429)); have n4_ := am ((by rw [hg]; exact (below_size pw) : w.heap.size ≤ gb429)); have n5_ := am ((by rw [hg]; exact Nat.ne_of_lt (blk_lt pk) : gb428 ≠ gb429)); have n6_ := am ((by rw [hg]; exact Nat.ne_of_gt (blk_lt pk) : gb429 ≠ gb428)); clear BK428; clear HB; have BK428 := n0_; have HB := n1_; have BK429 := n2_; have GW429 := n3_; have GE429 := n4_; have NB428_429 := n5_; have NB429_428 := n6_; clear n0_ n1_ n2_ n3_ n4_ n5_ n6_; clear hb hbox hg) | ((with_reducible refine gate_dst (N := 4) rfl ?_); refine box_event ?hg (N := 4) ?hd (cs := #[.bool false, .bool false, .int .i64 0, .int .i64 0]) (t := 23) ?hr ?_; (case hd => rfl); (case hg => rfl); (case hr => first | (go_simp; done) | (go_simp; rfl)); intro gb430 hg w27 hbox hb; have n0_ := bb BK428 hb; have n1_ := bb BK429 hb; have n2_ := am (below_step pw hb); have n3_ := am (hbox); have n4_ := am ((by rw [hg]; exact (below_size pw) : w.heap.size ≤ gb430)); have n5_ := am ((by rw [hg]; exact (below_size pw) : w.heap.size ≤ gb430)); have n6_ := am ((by rw [hg]; exact Nat.ne_of_lt (blk_lt pk) : gb428 ≠ gb430)); have n7_ := am ((by rw [hg]; exact Nat.ne_of_gt (blk_lt pk) : gb430 ≠ gb428)); have n8_ := am ((by rw [hg]; exact Nat.ne_of_lt (blk_lt pk) : gb429 ≠ gb430)); have n9_ := am ((by rw [hg]; exact Nat.ne_of_gt (blk_lt pk) : gb430 ≠ gb429)); clear BK428; clear BK429; clear HB; have BK428 := n0_; have BK429 := n1_; have HB := n2_; have BK430 := n3_; have GW430 := n4_; have GE430 := n5_; have NB428_430 := n6_; have NB430_428 := n7_; have NB429_430 := n8_; have NB430_429 := n9_; clear n0_ n1_ n2_ n3_ n4_ n5_ n6_ n7_ n8_ n9_; clear hb hbox hg; have hnb28 := NB428_429.out; have hnc28 := NB429_428.out; have hnb29 := NB428_430.out; have hnc29 := NB430_428.out; have hcz30_0 : w27.cell? ⟨gb428, 0, none⟩ = some (.int .i64 a0_0) := bc BK428 0; have hcz30_1 : w27.cell? ⟨gb428, 1, none⟩ = some (.int .i64 a0_1) := bc BK428 1; have hfz30_0 := blk_frozen BK428.out 0; have hfz30_1 := blk_frozen BK428.out 1) | ((with_reducible refine gate_callee (f := 29) rfl ?_); refine goesL_ (some 10) rfl rfl Tryd.func29 kk rfl #[.agg #[.int .i64 a0_0, .int .i64 a0_1]] rfl (by (try simp only [List.map_toArray, List.map_cons, List.map_nil]); first | done | rfl | (simp only [List.length_drop, List.length_take]; rfl)) ?_; (with_reducible refine (congr_Valid.calls k a0_0 a0_1 none _ A3.out (am (ErrAt.below hE2.out pw)).out (am (ErrAt.below hE3.out pw)).out).mono ?_); rintro e w31 ⟨rfl, hb⟩; refine ⟨_, rfl, ?_⟩; have n0_ := bb BK428 hb; have n1_ := bb BK429 hb; have n2_ := bb BK430 hb; have n3_ := am (below_step pw hb); clear BK428; clear BK429; clear BK430; clear HB; have BK428 := n0_; have BK429 := n1_; have BK430 := n2_; have HB := n3_; clear n0_ n1_ n2_ n3_; (try clear hb); (try clear hb2); (try clear hk); (try clear hi); (try simp only [errW_none, errW_some]); have hnb32 := NB429_430.out; have hnc32 := NB430_429.out; have hcz33_0 : w31.cell? ⟨gb429, 0, none⟩ = some (.bool a1_0) := bc BK429 0; have hcz33_1 : w31.cell? ⟨gb429, 1, none⟩ = some (.bool a1_1) := bc BK429 1; have hcz33_2 : w31.cell? ⟨gb429, 2, none⟩ = some (.int .i64 a1_2) := bc BK429 2; have hcz33_3 : w31.cell? ⟨gb429, 3, none⟩ = some (.int .i64 a1_3) := bc BK429 3; have hfz33_0 := blk_frozen BK429.out 0; have hfz33_1 := blk_frozen BK429.out 1; have hfz33_2 := blk_frozen BK429.out 2; have hfz33_3 := blk_frozen BK429.out 3) | ((with_reducible refine gate_callee (f := 15) rfl ?_); refine goesL_ (some 16) rfl rfl Tryd.func15 kk rfl #[.agg #[.bool a1_0, .bool a1_1, .int .i64 a1_2, .int .i64 a1_3]] rfl (by (try simp only [List.map_toArray, List.map_cons, List.map_nil]); first | done | rfl | (simp only [List.length_drop, List.length_take]; rfl)) ?_; (with_reducible refine (interval_Valid.calls k a1_0 a1_1 a1_2 a1_3 none _ A4.out (am (ErrAt.below hE2.out pw)).out (am (ErrAt.below hE3.out pw)).out).mono ?_); rintro e w34 ⟨rfl, hb⟩; refine ⟨_, rfl, ?_⟩; have n0_ := bb BK428 hb; have n1_ := bb BK429 hb; have n2_ := bb BK430 hb; have n3_ := am (below_step pw hb); clear BK428; clear BK429; clear BK430; clear HB; have BK428 := n0_; have BK429 := n1_; have BK430 := n2_; have HB := n3_; clear n0_ n1_ n2_ n3_; (try clear hb); (try clear hb2); (try clear hk); (try clear hi); (try simp only [errW_none, errW_some]); have hcz35_0 : w34.cell? ⟨gb428, 0, none⟩ = some (.int .i64 a0_0) := bc BK428 0; have hcz35_1 : w34.cell? ⟨gb428, 1, none⟩ = some (.int .i64 a0_1) := bc BK428 1; have hfz35_0 := blk_frozen BK428.out 0; have hfz35_1 := blk_frozen BK428.out 1; have hcz36_0 : w34.cell? ⟨gb429, 0, none⟩ = some (.bool a1_0) := bc BK429 0; have hcz36_1 : w34.cell? ⟨gb429, 1, none⟩ = some (.bool a1_1) := bc BK429 1; have hcz36_2 : w34.cell? ⟨gb429, 2, none⟩ = some (.int .i64 a1_2) := bc BK429 2; have hcz36_3 : w34.cell? ⟨gb429, 3, none⟩ = some (.int .i64 a1_3) := bc BK429 3; have hfz36_0 := blk_frozen BK429.out 0; have hfz36_1 := blk_frozen BK429.out 1; have hfz36_2 := blk_frozen BK429.out 2; have hfz36_3 := blk_frozen BK429.out 3) | ((with_reducible refine gate_callee (f := 16) rfl ?_); refine goesL_ (some 27) rfl rfl Tryd.func16 kk rfl #[.agg #[.bool a1_0, .bool a1_1, .int .i64 a1_2, .int .i64 a1_3], .int .i64 a0_0] rfl (by (try simp only [List.map_toArray, List.map_cons, List.map_nil]); first | done | rfl | (simp only [List.length_drop, List.length_take]; rfl)) ?_; (with_reducible refine (interval_Has.calls k a1_0 a1_1 a1_2 a1_3 a0_0 false _ A6.out (am (ErrAt.below hE2.out pw)).out (am (ErrAt.below hE3.out pw)).out).mono ?_); rintro e w37 ⟨rfl, hb⟩; refine ⟨_, rfl, ?_⟩; have n0_ := bb BK428 hb; have n1_ := bb BK429 hb; have n2_ := bb BK430 hb; have n3_ := am (below_step pw hb); clear BK428; clear BK429; clear BK430; clear HB; have BK428 := n0_; have BK429 := n1_; have BK430 := n2_; have HB := n3_; clear n0_ n1_ n2_ n3_; (try clear hb); (try clear hb2); (try clear hk); (try clear hi); have hcz38_0 : w37.cell? ⟨gb430, 0, none⟩ = some (.bool false) := bc BK430 0; have hcz38_1 : w37.cell? ⟨gb430, 1, none⟩ = some (.bool false) := bc BK430 1; have hcz38_2 : w37.cell? ⟨gb430, 2, none⟩ = some (.int .i64 0) := bc BK430 2; have hcz38_3 : w37.cell? ⟨gb430, 3, none⟩ = some (.int .i64 0) := bc BK430 3; have hfz38_0 := blk_frozen BK430.out 0; have hfz38_1 := blk_frozen BK430.out 1; have hfz38_2 := blk_frozen BK430.out 2; have hfz38_3 := blk_frozen BK430.out 3))
    refine bodyPost_ret (results_ctt rfl _ _ gb430 23 #[.bool false, .bool false, .int .i64 0, .int .i64 0] (0, 0) _ rfl (by (with_reducible repeat (first | refine blk_drewN ?_ _ | refine blk_drew ?_ | refine blk_alloc ?_ _)); refine blk_put (cs := #[.bool false, .bool false, .int .i64 0, .int .i64 0]) ?_ 3 _ rfl; (with_reducible repeat (first | refine blk_drewN ?_ _ | refine blk_drew ?_ | refine blk_alloc ?_ _)); refine blk_put (cs := #[.bool false, .bool false, .int .i64 0, .int .i64 0]) ?_ 2 _ rfl; (with_reducible repeat (first | refine blk_drewN ?_ _ | refine blk_drew ?_ | refine blk_alloc ?_ _)); refine blk_put (cs := #[.bool false, .bool false, .int .i64 0, .int .i64 0]) ?_ 1 _ rfl; (with_reducible repeat (first | refine blk_drewN ?_ _ | refine blk_drew ?_ | refine blk_alloc ?_ _)); refine blk_put (cs := #[.bool false, .bool false, .int .i64 0, .int .i64 0]) ?_ 0 _ rfl; (with_reducible repeat (first | refine blk_drewN ?_ _ | refine blk_drew ?_ | refine blk_alloc ?_ _)); exact BK430.out) Tryd.underlying23 rfl kk) rfl ?_
    exact ⟨pe, pw⟩
   rw [if_neg c5] at H
   have c5b0 : (a0_1 == 0) = false := beq_eq_false_iff_ne.mpr c5
   have c5b1 : (a0_1 != 0) = true := bne_iff_ne.mpr c5
   have HC39 := am H
   clear H
   go_enter Tryd.func52, Tryd.ntmps52
   go_upto_if 35 with (first | ((with_reducible refine gate_dst (N := 2) rfl ?_); refine box_event ?hg (N := 2) ?hd (cs := #[.int .i64 a0_0, .int .i64 a0_1]) (t := 34) ?hr ?_; (case hd => rfl); (case hg => rfl); (case hr => first | (go_simp; done) | (go_simp; rfl)); intro gb428 hg w40 hbox hb; have n0_ := am (below_step pw hb); have n1_ := am (hbox); have n2_ := am ((by rw [hg]; exact (below_size pw) : w.heap.size ≤ gb428)); have n3_ := am ((by rw [hg]; exact (below_size pw) : w.heap.size ≤ gb428)); clear HB; have HB := n0_; have BK428 := n1_; have GW428 := n2_; have GE428 := n3_; clear n0_ n1_ n2_ n3_; clear hb hbox hg) | ((with_reducible refine gate_dst (N := 3) rfl ?_); refine box_event ?hg (N := 3) ?hd (cs := #[.bool a1_0, .bool a1_1, .int .i64 a1_2, .int .i64 a1_3]) (t := 23) ?hr ?_; (case hd => rfl); (case hg => rfl); (case hr => first | (go_simp; done) | (go_simp; rfl)); intro gb429 hg w41 hbox hb; have n0_ := bb BK428 hb; have n1_ := am (below_step pw hb); have n2_ := am (hbox); have n3_ := am ((by rw [hg]; exact (below_size pw) : w.heap.size ≤ gb429)); have n4_ := am ((by rw [hg]; exact (below_size pw) : w.heap.size ≤ gb429)); have n5_ := am ((by rw [hg]; exact Nat.ne_of_lt (blk_lt pk) : gb428 ≠ gb429)); have n6_ := am ((by rw [hg]; exact Nat.ne_of_gt (blk_lt pk) : gb429 ≠ gb428)); clear BK428; clear HB; have BK428 := n0_; have HB := n1_; have BK429 := n2_; have GW429 := n3_; have GE429 := n4_; have NB428_429 := n5_; have NB429_428 := n6_; clear n0_ n1_ n2_ n3_ n4_ n5_ n6_; clear hb hbox hg) | ((with_reducible refine gate_dst (N := 4) rfl ?_); refine box_event ?hg (N := 4) ?hd (cs := #[.bool false, .bool false, .int .i64 0, .int .i64 0]) (t := 23) ?hr ?_; (case hd => rfl); (case hg => rfl); (case hr => first | (go_simp; done) | (go_simp; rfl)); intro gb430 hg w42 hbox hb; have n0_ := bb BK428 hb; have n1_ := bb BK429 hb; have n2_ := am (below_step pw hb); have n3_ := am (hbox); have n4_ := am ((by rw [hg]; exact (below_size pw) : w.heap.size ≤ gb430)); have n5_ := am ((by rw [hg]; exact (below_size pw) : w.heap.size ≤ gb430)); have n6_ := am ((by rw [hg]; exact Nat.ne_of_lt (blk_lt pk) : gb428 ≠ gb430)); have n7_ := am ((by rw [hg]; exact Nat.ne_of_gt (blk_lt pk) : gb430 ≠ gb428)); have n8_ := am ((by rw [hg]; exact Nat.ne_of_lt (blk_lt pk) : gb429 ≠ gb430)); have n9_ := am ((by rw [hg]; exact Nat.ne_of_gt (blk_lt pk) : gb430 ≠ gb429)); clear BK428; clear BK429; clear HB; have BK428 := n0_; have BK429 := n1_; have HB := n2_; have BK430 := n3_; have GW430 := n4_; have GE430 := n5_; have NB428_430 := n6_; have NB430_428 := n7_; have NB429_430 := n8_; have NB430_429 := n9_; clear n0_ n1_ n2_ n3_ n4_ n5_ n6_ n7_ n8_ n9_; clear hb hbox hg; have hnb43 := NB428_429.out; have hnc43 := NB429_428.out; have hnb44 := NB428_430.out; have hnc44 := NB430_428.out; have hcz45_0 : w42.cell? ⟨gb428, 0, none⟩ = some (.int .i64 a0_0) := bc BK428 0; have hcz45_1 : w42.cell? ⟨gb428, 1, none⟩ = some (.int .i64 a0_1) := bc BK428 1; have hfz45_0 := blk_frozen BK428.out 0; have hfz45_1 := blk_frozen BK428.out 1) | ((with_reducible refine gate_callee (f := 29) rfl ?_); refine goesL_ (some 10) rfl rfl Tryd.func29 kk rfl #[.agg #[.int .i64 a0_0, .int .i64 a0_1]] rfl (by (try simp only [List.map_toArray, List.map_cons, List.map_nil]); first | done | rfl | (simp only [List.length_drop, List.length_take]; rfl)) ?_; (with_reducible refine (congr_Valid.calls k a0_0 a0_1 none _ A3.out (am (ErrAt.below hE2.out pw)).out (am (ErrAt.below hE3.out pw)).out).mono ?_); rintro e w46 ⟨rfl, hb⟩; refine ⟨_, rfl, ?_⟩; have n0_ := bb BK428 hb; have n1_ := bb BK429 hb; have n2_ := bb BK430 hb; have n3_ := am (below_step pw hb); clear BK428; clear BK429; clear BK430; clear HB; have BK428 := n0_; have BK429 := n1_; have BK430 := n2_; have HB := n3_; clear n0_ n1_ n2_ n3_; (try clear hb); (try clear hb2); (try clear hk); (try clear hi); (try simp only [errW_none, errW_some]); have hnb47 := NB429_430.out; have hnc47 := NB430_429.out; have hcz48_0 : w46.cell? ⟨gb429, 0, none⟩ = some (.bool a1_0) := bc BK429 0; have hcz48_1 : w46.cell? ⟨gb429, 1, none⟩ = some (.bool a1_1) := bc BK429 1; have hcz48_2 : w46.cell? ⟨gb429, 2, none⟩ = some (.int .i64 a1_2) := bc BK429 2; have hcz48_3 : w46.cell? ⟨gb429, 3, none⟩ = some (.int .i64 a1_3) := bc BK429 3; have hfz48_0 := blk_frozen BK429.out 0; have hfz48_1 := blk_frozen BK429.out 1; have hfz48_2 := blk_frozen BK429.out 2; have hfz48_3 := blk_frozen BK429.out 3) | ((with_reducible refine gate_callee (f := 15) rfl ?_); refine goesL_ (some 16) rfl rfl Tryd.func15 kk rfl #[.agg #[.bool a1_0, .bool a1_1, .int .i64 a1_2, .int .i64 a1_3]] rfl (by (try simp only [List.map_toArray, List.map_cons, List.map_nil]); first | done | rfl | (simp only [List.length_drop, List.length_take]; rfl)) ?_; (with_reducible refine (interval_Valid.calls k a1_0 a1_1 a1_2 a1_3 none _ A4.out (am (ErrAt.below hE2.out pw)).out (am (ErrAt.below hE3.out pw)).out).mono ?_); rintro e w49 ⟨rfl, hb⟩; refine ⟨_, rfl, ?_⟩; have n0_ := bb BK428 hb; have n1_ := bb BK429 hb; have n2_ := bb BK430 hb; have n3_ := am (below_step pw hb); clear BK428; clear BK429; clear BK430; clear HB; have BK428 := n0_; have BK429 := n1_; have BK430 := n2_; have HB := n3_; clear n0_ n1_ n2_ n3_; (try clear hb); (try clear hb2); (try clear hk); (try clear hi); (try simp only [errW_none, errW_some]); have hcz50_0 : w49.cell? ⟨gb428, 0, none⟩ = some (.int .i64 a0_0) := bc BK428 0; have hcz50_1 : w49.cell? ⟨gb428, 1, none⟩ = some (.int .i64 a0_1) := bc BK428 1; have hfz50_0 := blk_frozen BK428.out 0; have hfz50_1 := blk_frozen BK428.out 1; have hcz51_0 : w49.cell? ⟨gb429, 0, none⟩ = some (.bool a1_0) := bc BK429 0; have hcz51_1 : w49.cell? ⟨gb429, 1, none⟩ = some (.bool a1_1) := bc BK429 1; have hcz51_2 : w49.cell? ⟨gb429, 2, none⟩ = some (.int .i64 a1_2) := bc BK429 2; have hcz51_3 : w49.cell? ⟨gb429, 3, none⟩ = some (.int .i64 a1_3) := bc BK429 3; have hfz51_0 := blk_frozen BK429.out 0; have hfz51_1 := blk_frozen BK429.out 1; have hfz51_2 := blk_frozen BK429.out 2; have hfz51_3 := blk_frozen BK429.out 3))
   (try simp only [Act.put, List.setIfInBounds_toArray, List.set_cons_zero, List.set_cons_succ])
   go_cut [] (fun wc => ∃ (kq : Nat) (x430002_38 : Int), Aside0 (congr_Tight.j1 kq a0_0 a0_1 a1_0 a1_1 x430002_38 a1_3 = some (r1, r2, r3, r4, r5, r6)) ∧ Aside0 (kq ≤ k) ∧ Aside0 (wc.heap[gb428]? = some (.cells #[.int .i64 a0_0, .int .i64 a0_1] 34 (0, 0))) ∧ Aside0 (wc.heap[gb429]? = some (.cells #[.bool a1_0, .bool a1_1, .int .i64 x430002_38, .int .i64 a1_3] 23 (0, 0))) ∧ Aside0 (wc.heap[gb430]? = some (.cells #[.bool false, .bool false, .int .i64 0, .int .i64 0] 23 (0, 0))) ∧ Aside0 (Below w.heap.size w wc))
   case first =>
    have H := HC39.out
    clear HC39
    by_cases c52 : a1_0 = true
    ·subst c52
     have H1 : (congr_Tight.j1 k a0_0 a0_1 true a1_1 a1_2 a1_3) = some (r1, r2, r3, r4, r5, r6) := by rw [if_pos rfl] at H; exact H
     clear H
     have H := H1
     clear H1
     have H' := am H
     clear H
     go_wp2
     go_meet
     case rel => exact ⟨_, (a1_2), H', ⟨by first | omega | exact Nat.le_refl _⟩, ⟨by (with_reducible repeat (first | refine blk_drewN ?_ _ | refine blk_drew ?_ | refine blk_alloc ?_ _)); exact BK428.out⟩, ⟨by (with_reducible repeat (first | refine blk_drewN ?_ _ | refine blk_drew ?_ | refine blk_alloc ?_ _)); exact BK429.out⟩, ⟨by (with_reducible repeat (first | refine blk_drewN ?_ _ | refine blk_drew ?_ | refine blk_alloc ?_ _)); exact BK430.out⟩, ⟨pw⟩⟩
    replace c52 := Bool.eq_false_iff.mpr c52
    subst c52
    have H1 : (congr_Tight.l0 k a0_0 a0_1 false a1_1 a1_2 a1_3) = some (r1, r2, r3, r4, r5, r6) := by rw [if_neg (show ¬ (false = true) by decide)] at H; exact H
    clear H
    have H := H1
    clear H1
    have H' := am H
    clear H
    go_wp2
    go_loopg [] k (fun kq w' => ∃ (x430002_1 : Int), Aside0 (congr_Tight.l0 kq a0_0 a0_1 false a1_1 x430002_1 a1_3 = some (r1, r2, r3, r4, r5, r6)) ∧ Aside0 (kq ≤ k) ∧ Aside0 (w'.heap[gb428]? = some (.cells #[.int .i64 a0_0, .int .i64 a0_1] 34 (0, 0))) ∧ Aside0 (w'.heap[gb429]? = some (.cells #[.bool false, .bool a1_1, .int .i64 x430002_1, .int .i64 a1_3] 23 (0, 0))) ∧ Aside0 (w'.heap[gb430]? = some (.cells #[.bool false, .bool false, .int .i64 0, .int .i64 0] 23 (0, 0))) ∧ Aside0 (Below w.heap.size w w'))
    case atStart => exact ⟨(a1_2), H', ⟨Nat.le_refl _⟩, ⟨by (with_reducible repeat (first | refine blk_drewN ?_ _ | refine blk_drew ?_ | refine blk_alloc ?_ _)); exact BK428.out⟩, ⟨by (with_reducible repeat (first | refine blk_drewN ?_ _ | refine blk_drew ?_ | refine blk_alloc ?_ _)); exact BK429.out⟩, ⟨by (with_reducible repeat (first | refine blk_drewN ?_ _ | refine blk_drew ?_ | refine blk_alloc ?_ _)); exact BK430.out⟩, ⟨pw⟩⟩
    case round =>
     clear H'
     try clear c1
     try clear c2
     try clear p2
     try clear c3
     try clear c4
     try clear q4
     try clear c5
     try clear c5b0
     try clear c5b1
     try clear c7
     try clear c12
     try clear c13
     try clear c15
     try clear c16
     try clear c28
     try clear c29
     try clear c32
     try clear c43
     try clear q43
     try clear c44
     try clear c47
     try clear c52
     try clear hcz14_0
     try clear hcz14_1
     try clear hcz17_0
     try clear hcz17_1
     try clear hcz17_2
     try clear hcz17_3
     try clear hcz19_0
     try clear hcz19_1
     try clear hcz20_0
     try clear hcz20_1
     try clear hcz20_2
     try clear hcz20_3
     try clear hcz22_0
     try clear hcz22_1
     try clear hcz24_0
     try clear hcz24_1
     try clear hcz24_2
     try clear hcz24_3
     try clear hcz30_0
     try clear hcz30_1
     try clear hcz33_0
     try clear hcz33_1
     try clear hcz33_2
     try clear hcz33_3
     try clear hcz35_0
     try clear hcz35_1
     try clear hcz36_0
     try clear hcz36_1
     try clear hcz36_2
     try clear hcz36_3
     try clear hcz38_0
     try clear hcz38_1
     try clear hcz38_2
     try clear hcz38_3
     try clear hcz45_0
     try clear hcz45_1
     try clear hcz48_0
     try clear hcz48_1
     try clear hcz48_2
     try clear hcz48_3
     try clear hcz50_0
     try clear hcz50_1
     try clear hcz51_0
     try clear hcz51_1
     try clear hcz51_2
     try clear hcz51_3
     try clear hfz14_0
     try clear hfz14_1
     try clear hfz17_0
     try clear hfz17_1
     try clear hfz17_2
     try clear hfz17_3
     try clear hfz19_0
     try clear hfz19_1
     try clear hfz20_0
     try clear hfz20_1
     try clear hfz20_2
     try clear hfz20_3
     try clear hfz22_0
     try clear hfz22_1
     try clear hfz24_0
     try clear hfz24_1
     try clear hfz24_2
     try clear hfz24_3
     try clear hfz30_0
     try clear hfz30_1
     try clear hfz33_0
     try clear hfz33_1
     try clear hfz33_2
     try clear hfz33_3
     try clear hfz35_0
     try clear hfz35_1
     try clear hfz36_0
     try clear hfz36_1
     try clear hfz36_2
     try clear hfz36_3
     try clear hfz38_0
     try clear hfz38_1
     try clear hfz38_2
     try clear hfz38_3
     try clear hfz45_0
     try clear hfz45_1
     try clear hfz48_0
     try clear hfz48_1
     try clear hfz48_2
     try clear hfz48_3
     try clear hfz50_0
     try clear hfz50_1
     try clear hfz51_0
     try clear hfz51_1
     try clear hfz51_2
     try clear hfz51_3
     try clear q432
     try clear q434
     obtain ⟨x430002_1, HA, HK1, BK428, BK429, BK430, HB⟩ := hrel
     cases gk with
     | zero => exact absurd HA.out (by simp [congr_Tight.l0])
     | succ k1 =>
      have H := HA.out
      clear HA
      simp only [congr_Tight.l0] at H
      replace H := Option.bind_eq_some_iff.mp H
      obtain ⟨t440, A530, H⟩ := H
      replace H : (if t440 = true then (congr_Tight.j1 k1 a0_0 a0_1 false a1_1 x430002_1 a1_3) else (if a0_1 = 0 then (none) else (congr_Tight.l0 k1 a0_0 a0_1 false a1_1 (wrap64 (x430002_1 + (Int.tmod (wrap64 ((Int.tmod (wrap64 (a0_0 - x430002_1)) a0_1) + a0_1)) a0_1))) a1_3))) = some (r1, r2, r3, r4, r5, r6) := H
      have A53 := am A530
      clear A530
      by_cases c54 : t440 = true
      ·subst c54
       have H1 : (congr_Tight.j1 k1 a0_0 a0_1 false a1_1 x430002_1 a1_3) = some (r1, r2, r3, r4, r5, r6) := by rw [if_pos rfl] at H; exact H
       clear H
       have H := H1
       clear H1
       have H' := am H
       clear H
       have hnb55 := NB428_429.out
       have hnc55 := NB429_428.out
       have hnb56 := NB428_430.out
       have hnc56 := NB430_428.out
       have hcz57_0 : wr.cell? ⟨gb428, 0, none⟩ = some (.int .i64 a0_0) := bc BK428 0
       have hcz57_1 : wr.cell? ⟨gb428, 1, none⟩ = some (.int .i64 a0_1) := bc BK428 1
       have hfz57_0 := blk_frozen BK428.out 0
       have hfz57_1 := blk_frozen BK428.out 1
       have hnb58 := NB429_430.out
       have hnc58 := NB430_429.out
       have hcz59_0 : wr.cell? ⟨gb429, 0, none⟩ = some (.bool false) := bc BK429 0
       have hcz59_1 : wr.cell? ⟨gb429, 1, none⟩ = some (.bool a1_1) := bc BK429 1
       have hcz59_2 : wr.cell? ⟨gb429, 2, none⟩ = some (.int .i64 x430002_1) := bc BK429 2
       have hcz59_3 : wr.cell? ⟨gb429, 3, none⟩ = some (.int .i64 a1_3) := bc BK429 3
       have hfz59_0 := blk_frozen BK429.out 0
       have hfz59_1 := blk_frozen BK429.out 1
       have hfz59_2 := blk_frozen BK429.out 2
       have hfz59_3 := blk_frozen BK429.out 3
       go_wp2_with (first | ((with_reducible refine gate_callee (f := 30) rfl ?_); refine goesL_ (some 39) rfl rfl Tryd.func30 kk rfl #[.agg #[.int .i64 a0_0, .int .i64 a0_1], .int .i64 x430002_1] rfl (by (try simp only [List.map_toArray, List.map_cons, List.map_nil]); first | done | rfl | (simp only [List.length_drop, List.length_take]; rfl)) ?_; (with_reducible refine (congr_Has.calls k1 a0_0 a0_1 x430002_1 true _ A53.out (am (ErrAt.below hE2.out pw)).out (am (ErrAt.below hE3.out pw)).out).mono ?_); rintro e w60 ⟨rfl, hb⟩; refine ⟨_, rfl, ?_⟩; have n0_ := bb BK428 hb; have n1_ := bb BK429 hb; have n2_ := bb BK430 hb; have n3_ := am (below_step pw hb); clear BK428; clear BK429; clear BK430; clear HB; have BK428 := n0_; have BK429 := n1_; have BK430 := n2_; have HB := n3_; clear n0_ n1_ n2_ n3_; (try clear hb); (try clear hb2); (try clear hk); (try clear hi)))
       go_meet
       case rel => exact ⟨_, (x430002_1), H', ⟨by have := HK1.out; first | omega | exact Nat.le_refl _⟩, ⟨by (with_reducible repeat (first | refine blk_drewN ?_ _ | refine blk_drew ?_ | refine blk_alloc ?_ _)); exact BK428.out⟩, ⟨by (with_reducible repeat (first | refine blk_drewN ?_ _ | refine blk_drew ?_ | refine blk_alloc ?_ _)); exact BK429.out⟩, ⟨by (with_reducible repeat (first | refine blk_drewN ?_ _ | refine blk_drew ?_ | refine blk_alloc ?_ _)); exact BK430.out⟩, ⟨pw⟩⟩
      replace c54 := Bool.eq_false_iff.mpr c54
      subst c54
      have H1 : (if a0_1 = 0 then (none) else (congr_Tight.l0 k1 a0_0 a0_1 false a1_1 (wrap64 (x430002_1 + (Int.tmod (wrap64 ((Int.tmod (wrap64 (a0_0 - x430002_1)) a0_1) + a0_1)) a0_1))) a1_3)) = some (r1, r2, r3, r4, r5, r6) := by rw [if_neg (show ¬ (false = true) by decide)] at H; exact H
      clear H
      have H := H1
      clear H1
      by_cases c61 : a0_1 = 0
      ·rw [if_pos c61] at H
       exact absurd H (by simp)
      rw [if_neg c61] at H
      have c61b0 : (a0_1 == 0) = false := beq_eq_false_iff_ne.mpr c61
      have c61b1 : (a0_1 != 0) = true := bne_iff_ne.mpr c61
      (first | rw [c61b0] | (simp only [i64_w, i32_w]; rw [c61b0]) | skip)
      have H' := am H
      clear H
      have hnb62 := NB428_429.out
      have hnc62 := NB429_428.out
      have hnb63 := NB428_430.out
      have hnc63 := NB430_428.out
      have hcz64_0 : wr.cell? ⟨gb428, 0, none⟩ = some (.int .i64 a0_0) := bc BK428 0
      have hcz64_1 : wr.cell? ⟨gb428, 1, none⟩ = some (.int .i64 a0_1) := bc BK428 1
      have hfz64_0 := blk_frozen BK428.out 0
      have hfz64_1 := blk_frozen BK428.out 1
      have hnb65 := NB429_430.out
      have hnc65 := NB430_429.out
      have hcz66_0 : wr.cell? ⟨gb429, 0, none⟩ = some (.bool false) := bc BK429 0
      have hcz66_1 : wr.cell? ⟨gb429, 1, none⟩ = some (.bool a1_1) := bc BK429 1
      have hcz66_2 : wr.cell? ⟨gb429, 2, none⟩ = some (.int .i64 x430002_1) := bc BK429 2
      have hcz66_3 : wr.cell? ⟨gb429, 3, none⟩ = some (.int .i64 a1_3) := bc BK429 3
      have hfz66_0 := blk_frozen BK429.out 0
      have hfz66_1 := blk_frozen BK429.out 1
      have hfz66_2 := blk_frozen BK429.out 2
      have hfz66_3 := blk_frozen BK429.out 3
      try go_wp2_with (first | ((with_reducible refine gate_callee (f := 30) rfl ?_); refine goesL_ (some 39) rfl rfl Tryd.func30 kk rfl #[.agg #[.int .i64 a0_0, .int .i64 a0_1], .int .i64 x430002_1] rfl (by (try simp only [List.map_toArray, List.map_cons, List.map_nil]); first | done | rfl | (simp only [List.length_drop, List.length_take]; rfl)) ?_; (with_reducible refine (congr_Has.calls k1 a0_0 a0_1 x430002_1 false _ A53.out (am (ErrAt.below hE2.out pw)).out (am (ErrAt.below hE3.out pw)).out).mono ?_); rintro e w67 ⟨rfl, hb⟩; refine ⟨_, rfl, ?_⟩; have n0_ := bb BK428 hb; have n1_ := bb BK429 hb; have n2_ := bb BK430 hb; have n3_ := am (below_step pw hb); clear BK428; clear BK429; clear BK430; clear HB; have BK428 := n0_; have BK429 := n1_; have BK430 := n2_; have HB := n3_; clear n0_ n1_ n2_ n3_; (try clear hb); (try clear hb2); (try clear hk); (try clear hi)))
      have n0_ := am (blk_drew BK428.out)
      have n1_ := am (blk_drew BK429.out)
      have n2_ := am (blk_drew BK430.out)
      have n3_ := am (below_drew1 HB.out)
      clear BK428 BK429 BK430 HB
      revert n0_ n1_ n2_ n3_
      intro BK428 BK429 BK430 HB
      refine start_ (n := 19) (S := fun w' => w'.cell? ⟨gb429, 0, none⟩ = some (.bool false) ∧ w'.cell? ⟨gb429, 1, none⟩ = some (.bool a1_1) ∧ w'.cell? ⟨gb429, 2, none⟩ = some (.int .i64 x430002_1) ∧ w'.cell? ⟨gb429, 3, none⟩ = some (.int .i64 a1_3) ∧ w'.cell? ⟨gb428, 0, none⟩ = some (.int .i64 a0_0) ∧ w'.cell? ⟨gb428, 1, none⟩ = some (.int .i64 a0_1)) (ds := [18]) #[false, false, false, false, false, false, false, false, false, false, false, false, false, false, false, false, false, false, false] kk rfl rfl ⟨bc BK429 0, bc BK429 1, bc BK429 2, bc BK429 3, bc BK428 0, bc BK428 1⟩ (fun hHeld => ?_); refine with_tabW congr_Tight.tab13 congr_Tight.bits13 (fun HT_ HW_ => ?_)
      generalize w67.drew = w68 at BK428 BK429 BK430 HB hHeld ⊢
      refine pure_ (i := 0) (N := some 41) (v := ?_) (a' := ?_) #[true, false, false, false, false, false, false, false, false, false, false, false, false, false, false, false, false, false, false] rfl rfl (any_of HT_.out kk) (fun _ _ _ h => h) (Or.inl ⟨by rfl, ?_⟩) ?_ ?_
      rotate_left
      ·intro w'
       go_simp
       with_reducible rfl
      rotate_left
      ·simp only [Act.put, List.setIfInBounds_toArray, List.set_cons_zero, List.set_cons_succ, i64_w, i32_w]
       rfl
      refine pure_ (i := 2) (N := some 43) (v := ?_) (a' := ?_) #[true, false, true, false, false, false, false, false, false, false, false, false, false, false, false, false, false, false, false] rfl rfl (any_of HT_.out kk) (fun _ _ _ h => h) (Or.inl ⟨by rfl, ?_⟩) ?_ ?_
      rotate_left
      ·intro w'
       go_simp
       with_reducible rfl
      rotate_left
      ·simp only [Act.put, List.setIfInBounds_toArray, List.set_cons_zero, List.set_cons_succ, i64_w, i32_w]
       rfl
      refine pure_ (i := 4) (N := some 45) (v := ?_) (a' := ?_) #[true, false, true, false, true, false, false, false, false, false, false, false, false, false, false, false, false, false, false] rfl rfl (any_of HT_.out kk) (fun _ _ _ h => h) (Or.inl ⟨by rfl, ?_⟩) ?_ ?_
      rotate_left
      ·intro w'
       go_simp
       with_reducible rfl
      rotate_left
      ·simp only [Act.put, List.setIfInBounds_toArray, List.set_cons_zero, List.set_cons_succ, i64_w, i32_w]
       rfl
      refine pure_ (i := 7) (N := some 48) (v := ?_) (a' := ?_) #[true, false, true, false, true, false, false, true, false, false, false, false, false, false, false, false, false, false, false] rfl rfl (any_of HT_.out kk) (fun _ _ _ h => h) (Or.inl ⟨by rfl, ?_⟩) ?_ ?_
      rotate_left
      ·intro w'
       go_simp
       with_reducible rfl
      rotate_left
      ·simp only [Act.put, List.setIfInBounds_toArray, List.set_cons_zero, List.set_cons_succ, i64_w, i32_w]
       rfl
      refine pure_ (i := 10) (N := some 51) (v := ?_) (a' := ?_) #[true, false, true, false, true, false, false, true, false, false, true, false, false, false, false, false, false, false, false] rfl rfl (any_of HT_.out kk) (fun _ _ _ h => h) (Or.inl ⟨by rfl, ?_⟩) ?_ ?_
      rotate_left
      ·intro w'
       go_simp
       with_reducible rfl
      rotate_left
      ·simp only [Act.put, List.setIfInBounds_toArray, List.set_cons_zero, List.set_cons_succ, i64_w, i32_w]
       rfl
      refine pure_ (i := 13) (N := some 54) (v := ?_) (a' := ?_) #[true, false, true, false, true, false, false, true, false, false, true, false, false, true, false, false, false, false, false] rfl rfl (any_of HT_.out kk) (fun _ _ _ h => h) (Or.inl ⟨by rfl, ?_⟩) ?_ ?_
      rotate_left
      ·intro w'
       go_simp
       with_reducible rfl
      rotate_left
      ·simp only [Act.put, List.setIfInBounds_toArray, List.set_cons_zero, List.set_cons_succ, i64_w, i32_w]
       rfl
      refine take_ (i := 1) (N := some 42) (v := ?_) (a' := ?_) #[true, true, true, false, true, false, false, true, false, false, true, false, false, true, false, false, false, false, false] rfl rfl (take_ofW HT_.out HW_.out kk) (fun _ _ _ h => h) (Or.inl ⟨by rfl, ?_⟩) hHeld ?_ ?_
      rotate_left
      ·rintro w' ⟨s0, s1, s2, s3, s4, s5⟩
       go_simp
       with_reducible rfl
      rotate_left
      ·simp only [Act.put, List.setIfInBounds_toArray, List.set_cons_zero, List.set_cons_succ, i64_w, i32_w]
       rfl
      refine take_ (i := 3) (N := some 44) (v := ?_) (a' := ?_) #[true, true, true, true, true, false, false, true, false, false, true, false, false, true, false, false, false, false, false] rfl rfl (take_ofW HT_.out HW_.out kk) (fun _ _ _ h => h) (Or.inl ⟨by rfl, ?_⟩) hHeld ?_ ?_
      rotate_left
      ·rintro w' ⟨s0, s1, s2, s3, s4, s5⟩
       go_simp
       with_reducible rfl
      rotate_left
      ·simp only [Act.put, List.setIfInBounds_toArray, List.set_cons_zero, List.set_cons_succ, i64_w, i32_w]
       rfl
      refine take_ (i := 5) (N := some 46) (v := ?_) (a' := ?_) #[true, true, true, true, true, true, false, true, false, false, true, false, false, true, false, false, false, false, false] rfl rfl (take_ofW HT_.out HW_.out kk) (fun _ _ _ h => h) (Or.inl ⟨by rfl, ?_⟩) hHeld ?_ ?_
      rotate_left
      ·rintro w' ⟨s0, s1, s2, s3, s4, s5⟩
       go_simp
       with_reducible rfl
      rotate_left
      ·simp only [Act.put, List.setIfInBounds_toArray, List.set_cons_zero, List.set_cons_succ, i64_w, i32_w]
       rfl
      refine pure_ (i := 6) (N := some 47) (v := ?_) (a' := ?_) #[true, true, true, true, true, true, true, true, false, false, true, false, false, true, false, false, false, false, false] rfl rfl (any_of HT_.out kk) (fun _ _ _ h => h) (Or.inl ⟨by rfl, ?_⟩) ?_ ?_
      rotate_left
      ·intro w'
       go_simp
       with_reducible rfl
      rotate_left
      ·simp only [Act.put, List.setIfInBounds_toArray, List.set_cons_zero, List.set_cons_succ, i64_w, i32_w]
       rfl
      refine take_ (i := 8) (N := some 49) (v := ?_) (a' := ?_) #[true, true, true, true, true, true, true, true, true, false, true, false, false, true, false, false, false, false, false] rfl rfl (take_ofW HT_.out HW_.out kk) (fun _ _ _ h => h) (Or.inl ⟨by rfl, ?_⟩) hHeld ?_ ?_
      rotate_left
      ·rintro w' ⟨s0, s1, s2, s3, s4, s5⟩
       go_simp
       with_reducible rfl
      rotate_left
      ·simp only [Act.put, List.setIfInBounds_toArray, List.set_cons_zero, List.set_cons_succ, i64_w, i32_w]
       rfl
      refine pure_ (i := 9) (N := some 50) (v := ?_) (a' := ?_) #[true, true, true, true, true, true, true, true, true, true, true, false, false, true, false, false, false, false, false] rfl rfl (any_of HT_.out kk) (fun _ _ _ h => h) (Or.inl ⟨by rfl, ?_⟩) ?_ ?_
      rotate_left
      ·intro w'
       go_simp
       with_reducible rfl
      rotate_left
      ·simp only [Act.put, List.setIfInBounds_toArray, List.set_cons_zero, List.set_cons_succ, i64_w, i32_w]
       rfl
      refine take_ (i := 11) (N := some 52) (v := ?_) (a' := ?_) #[true, true, true, true, true, true, true, true, true, true, true, true, false, true, false, false, false, false, false] rfl rfl (take_ofW HT_.out HW_.out kk) (fun _ _ _ h => h) (Or.inl ⟨by rfl, ?_⟩) hHeld ?_ ?_
      rotate_left
      ·rintro w' ⟨s0, s1, s2, s3, s4, s5⟩
       go_simp
       with_reducible rfl
      rotate_left
      ·simp only [Act.put, List.setIfInBounds_toArray, List.set_cons_zero, List.set_cons_succ, i64_w, i32_w]
       rfl
      refine pure_ (i := 12) (N := some 53) (v := ?_) (a' := ?_) #[true, true, true, true, true, true, true, true, true, true, true, true, true, true, false, false, false, false, false] rfl rfl (any_of HT_.out kk) (fun _ _ _ h => h) (Or.inl ⟨by rfl, ?_⟩) ?_ ?_
      rotate_left
      ·intro w'
       go_simp
       with_reducible rfl
      rotate_left
      ·simp only [Act.put, List.setIfInBounds_toArray, List.set_cons_zero, List.set_cons_succ, i64_w, i32_w]
       rfl
      refine take_ (i := 14) (N := some 55) (v := ?_) (a' := ?_) #[true, true, true, true, true, true, true, true, true, true, true, true, true, true, true, false, false, false, false] rfl rfl (take_ofW HT_.out HW_.out kk) (fun _ _ _ h => h) (Or.inl ⟨by rfl, ?_⟩) hHeld ?_ ?_
      rotate_left
      ·rintro w' ⟨s0, s1, s2, s3, s4, s5⟩
       go_simp
       with_reducible rfl
      rotate_left
      ·simp only [Act.put, List.setIfInBounds_toArray, List.set_cons_zero, List.set_cons_succ, i64_w, i32_w]
       rfl
      refine pure_ (i := 15) (N := some 56) (v := ?_) (a' := ?_) #[true, true, true, true, true, true, true, true, true, true, true, true, true, true, true, true, false, false, false] rfl rfl (any_of HT_.out kk) (fun _ _ _ h => h) (Or.inl ⟨by rfl, ?_⟩) ?_ ?_
      rotate_left
      ·intro w'
       go_simp
       with_reducible rfl
      rotate_left
      ·simp only [Act.put, List.setIfInBounds_toArray, List.set_cons_zero, List.set_cons_succ, i64_w, i32_w]
       rfl
      refine pure_ (i := 16) (N := some 57) (v := ?_) (a' := ?_) #[true, true, true, true, true, true, true, true, true, true, true, true, true, true, true, true, true, false, false] rfl rfl (any_of HT_.out kk) (fun _ _ _ h => h) (Or.inl ⟨by rfl, ?_⟩) ?_ ?_
      rotate_left
      ·intro w'
       go_simp
       with_reducible rfl
      rotate_left
      ·simp only [Act.put, List.setIfInBounds_toArray, List.set_cons_zero, List.set_cons_succ, i64_w, i32_w]
       rfl
      refine pure_ (i := 17) (N := some 58) (v := ?_) (a' := ?_) #[true, true, true, true, true, true, true, true, true, true, true, true, true, true, true, true, true, true, false] rfl rfl (any_of HT_.out kk) (fun _ _ _ h => h) (Or.inl ⟨by rfl, ?_⟩) ?_ ?_
      rotate_left
      ·intro w'
       go_simp
       with_reducible rfl
      rotate_left
      ·simp only [Act.put, List.setIfInBounds_toArray, List.set_cons_zero, List.set_cons_succ, i64_w, i32_w]
       rfl
      refine last_ (i := 18) (N := none) #[true, true, true, true, true, true, true, true, true, true, true, true, true, true, true, true, true, true, true] rfl rfl (one_of HT_.out kk) (by decide) (fun K hK => ?_)
      have hs69 : w68.cell? ⟨gb429, 2, none⟩ = some (.int .i64 x430002_1) := bc BK429 2
      have hfs69 := blk_frozen BK429.out 2
      have hns69_0 := NB428_429.out
      have hns69_2 := NB430_429.out
      have hms69_0 := NB429_428.out
      have hms69_2 := NB429_430.out
      refine skip_ (w1 := ?_) (by rfl) rfl ?_ ?_
      rotate_left
      ·go_simp
       rfl
      refine hK.out _ _ ?_
      clear hK K
      refine done_ (done_of HT_.out kk) ?_
      try go_wp2
      go_roundg k1
      case measure => have := HK1.out; omega
      case rel => exact ⟨(wrap64 (x430002_1 + (Int.tmod (wrap64 ((Int.tmod (wrap64 (a0_0 - x430002_1)) a0_1) + a0_1)) a0_1))), H', ⟨by have := HK1.out; omega⟩, ⟨by (with_reducible repeat (first | refine blk_drewN ?_ _ | refine blk_drew ?_ | refine blk_alloc ?_ _)); refine blk_far ?_ NB428_429.out _; (with_reducible repeat (first | refine blk_drewN ?_ _ | refine blk_drew ?_ | refine blk_alloc ?_ _)); exact BK428.out⟩, ⟨by (with_reducible repeat (first | refine blk_drewN ?_ _ | refine blk_drew ?_ | refine blk_alloc ?_ _)); refine blk_put (cs := #[.bool false, .bool a1_1, .int .i64 x430002_1, .int .i64 a1_3]) ?_ 2 _ rfl; (with_reducible repeat (first | refine blk_drewN ?_ _ | refine blk_drew ?_ | refine blk_alloc ?_ _)); exact BK429.out⟩, ⟨by (with_reducible repeat (first | refine blk_drewN ?_ _ | refine blk_drew ?_ | refine blk_alloc ?_ _)); refine blk_far ?_ NB430_429.out _; (with_reducible repeat (first | refine blk_drewN ?_ _ | refine blk_drew ?_ | refine blk_alloc ?_ _)); exact BK430.out⟩, ⟨pw⟩⟩
   clear HC39
   try clear c1
   try clear c2
   try clear p2
   try clear c3
   try clear c4
   try clear q4
   try clear c5
   try clear c5b0
   try clear c5b1
   try clear c6
   try clear p6
   try clear c7
   try clear c12
   try clear c13
   try clear c15
   try clear c16
   try clear c28
   try clear c29
   try clear c30
   try clear c32
   try clear c43
   try clear q43
   try clear c44
   try clear c47
   try clear c52
   try clear c54
   try clear c55
   try clear c56
   try clear c58
   try clear c61
   try clear c61b0
   try clear c61b1
   try clear c62
   try clear c63
   try clear p64
   try clear c65
   try clear hcz14_0
   try clear hcz14_1
   try clear hcz17_0
   try clear hcz17_1
   try clear hcz17_2
   try clear hcz17_3
   try clear hcz19_0
   try clear hcz19_1
   try clear hcz20_0
   try clear hcz20_1
   try clear hcz20_2
   try clear hcz20_3
   try clear hcz22_0
   try clear hcz22_1
   try clear hcz24_0
   try clear hcz24_1
   try clear hcz24_2
   try clear hcz24_3
   try clear hcz30_0
   try clear hcz30_1
   try clear hcz33_0
   try clear hcz33_1
   try clear hcz33_2
   try clear hcz33_3
   try clear hcz35_0
   try clear hcz35_1
   try clear hcz36_0
   try clear hcz36_1
   try clear hcz36_2
   try clear hcz36_3
   try clear hcz38_0
   try clear hcz38_1
   try clear hcz38_2
   try clear hcz38_3
   try clear hcz45_0
   try clear hcz45_1
   try clear hcz48_0
   try clear hcz48_1
   try clear hcz48_2
   try clear hcz48_3
   try clear hcz50_0
   try clear hcz50_1
   try clear hcz51_0
   try clear hcz51_1
   try clear hcz51_2
   try clear hcz51_3
   try clear hcz57_0
   try clear hcz57_1
   try clear hcz59_0
   try clear hcz59_1
   try clear hcz59_2
   try clear hcz59_3
   try clear hcz64_0
   try clear hcz64_1
   try clear hcz66_0
   try clear hcz66_1
   try clear hcz66_2
   try clear hcz66_3
   try clear hfz14_0
   try clear hfz14_1
   try clear hfz17_0
   try clear hfz17_1
   try clear hfz17_2
   try clear hfz17_3
   try clear hfz19_0
   try clear hfz19_1
   try clear hfz20_0
   try clear hfz20_1
   try clear hfz20_2
   try clear hfz20_3
   try clear hfz22_0
   try clear hfz22_1
   try clear hfz24_0
   try clear hfz24_1
   try clear hfz24_2
   try clear hfz24_3
   try clear hfz30_0
   try clear hfz30_1
   try clear hfz33_0
   try clear hfz33_1
   try clear hfz33_2
   try clear hfz33_3
   try clear hfz35_0
   try clear hfz35_1
   try clear hfz36_0
   try clear hfz36_1
   try clear hfz36_2
   try clear hfz36_3
   try clear hfz38_0
   try clear hfz38_1
   try clear hfz38_2
   try clear hfz38_3
   try clear hfz45_0
   try clear hfz45_1
   try clear hfz48_0
   try clear hfz48_1
   try clear hfz48_2
   try clear hfz48_3
   try clear hfz50_0
   try clear hfz50_1
   try clear hfz51_0
   try clear hfz51_1
   try clear hfz51_2
   try clear hfz51_3
   try clear hfz57_0
   try clear hfz57_1
   try clear hfz59_0
   try clear hfz59_1
   try clear hfz59_2
   try clear hfz59_3
   try clear hfz64_0
   try clear hfz64_1
   try clear hfz66_0
   try clear hfz66_1
   try clear hfz66_2
   try clear hfz66_3
   try clear p2
   try clear q4
   try clear q43
   try clear q432
   try clear q434
   obtain ⟨kq, x430002_38, HA, HJ38, BK428, BK429, BK430, HB⟩ := hcut
   cases kq with
   | zero => exact absurd HA.out (by simp [congr_Tight.j1])
   | succ kj38 =>
    have H := HA.out
    clear HA
    simp only [congr_Tight.j1] at H
    have HC70 := am H
    clear H
    have hnb71 := NB429_428.out
    have hnc71 := NB428_429.out
    have hnb72 := NB429_430.out
    have hnc72 := NB430_429.out
    have hcz73_0 : wc.cell? ⟨gb429, 0, none⟩ = some (.bool a1_0) := bc BK429 0
    have hcz73_1 : wc.cell? ⟨gb429, 1, none⟩ = some (.bool a1_1) := bc BK429 1
    have hcz73_2 : wc.cell? ⟨gb429, 2, none⟩ = some (.int .i64 x430002_38) := bc BK429 2
    have hcz73_3 : wc.cell? ⟨gb429, 3, none⟩ = some (.int .i64 a1_3) := bc BK429 3
    have hfz73_0 := blk_frozen BK429.out 0
    have hfz73_1 := blk_frozen BK429.out 1
    have hfz73_2 := blk_frozen BK429.out 2
    have hfz73_3 := blk_frozen BK429.out 3
    go_upto_if 61 with (fail)
    go_cut [] (fun wc => ∃ (kq : Nat) (x430003_69 : Int), Aside0 (congr_Tight.j2 kq a1_0 a1_1 x430002_38 x430003_69 = some (r1, r2, r3, r4, r5, r6)) ∧ Aside0 (kq ≤ kj38) ∧ Aside0 (wc.heap[gb428]? = some (.cells #[.int .i64 a0_0, .int .i64 a0_1] 34 (0, 0))) ∧ Aside0 (wc.heap[gb429]? = some (.cells #[.bool a1_0, .bool a1_1, .int .i64 x430002_38, .int .i64 x430003_69] 23 (0, 0))) ∧ Aside0 (wc.heap[gb430]? = some (.cells #[.bool false, .bool false, .int .i64 0, .int .i64 0] 23 (0, 0))) ∧ Aside0 (Below w.heap.size w wc))
    case first =>
     have H := HC70.out
     clear HC70
     by_cases c74 : a1_1 = true
     ·subst c74
      have H1 : (congr_Tight.j2 kj38 a1_0 true x430002_38 a1_3) = some (r1, r2, r3, r4, r5, r6) := by rw [if_pos rfl] at H; exact H
      clear H
      have H := H1
      clear H1
      have H' := am H
      clear H
      go_wp2
      go_meet
      case rel => exact ⟨_, (a1_3), H', ⟨by have := HJ38.out; first | omega | exact Nat.le_refl _⟩, ⟨by (with_reducible repeat (first | refine blk_drewN ?_ _ | refine blk_drew ?_ | refine blk_alloc ?_ _)); exact BK428.out⟩, ⟨by (with_reducible repeat (first | refine blk_drewN ?_ _ | refine blk_drew ?_ | refine blk_alloc ?_ _)); exact BK429.out⟩, ⟨by (with_reducible repeat (first | refine blk_drewN ?_ _ | refine blk_drew ?_ | refine blk_alloc ?_ _)); exact BK430.out⟩, ⟨pw⟩⟩
     replace c74 := Bool.eq_false_iff.mpr c74
     subst c74
     have H1 : (if a0_1 = 0 then (none) else (congr_Tight.j2 kj38 a1_0 false x430002_38 (wrap64 (a1_3 - (Int.tmod (wrap64 ((Int.tmod (wrap64 (a1_3 - a0_0)) a0_1) + a0_1)) a0_1))))) = some (r1, r2, r3, r4, r5, r6) := by rw [if_neg (show ¬ (false = true) by decide)] at H; exact H
     clear H
     have H := H1
     clear H1
     by_cases c75 : a0_1 = 0
     ·rw [if_pos c75] at H
      exact absurd H (by simp)
     rw [if_neg c75] at H
     have c75b0 : (a0_1 == 0) = false := beq_eq_false_iff_ne.mpr c75
     have c75b1 : (a0_1 != 0) = true := bne_iff_ne.mpr c75
     (first | rw [c75b0] | (simp only [i64_w, i32_w]; rw [c75b0]) | skip)
     have H' := am H
     clear H
     try go_wp2
     have n0_ := am (blk_drew BK428.out)
     have n1_ := am (blk_drew BK429.out)
     have n2_ := am (blk_drew BK430.out)
     have n3_ := am (below_drew1 HB.out)
     clear BK428 BK429 BK430 HB
     revert n0_ n1_ n2_ n3_
     intro BK428 BK429 BK430 HB
     refine start_ (n := 19) (S := fun w' => w'.cell? ⟨gb429, 0, none⟩ = some (.bool a1_0) ∧ w'.cell? ⟨gb429, 1, none⟩ = some (.bool false) ∧ w'.cell? ⟨gb429, 2, none⟩ = some (.int .i64 x430002_38) ∧ w'.cell? ⟨gb429, 3, none⟩ = some (.int .i64 a1_3) ∧ w'.cell? ⟨gb428, 0, none⟩ = some (.int .i64 a0_0) ∧ w'.cell? ⟨gb428, 1, none⟩ = some (.int .i64 a0_1)) (ds := [18]) #[false, false, false, false, false, false, false, false, false, false, false, false, false, false, false, false, false, false, false] kk rfl rfl ⟨bc BK429 0, bc BK429 1, bc BK429 2, bc BK429 3, bc BK428 0, bc BK428 1⟩ (fun hHeld => ?_); refine with_tabW congr_Tight.tab15 congr_Tight.bits15 (fun HT_ HW_ => ?_)
     generalize wc.drew = w76 at BK428 BK429 BK430 HB hHeld ⊢
     refine pure_ (i := 0) (N := some 62) (v := ?_) (a' := ?_) #[true, false, false, false, false, false, false, false, false, false, false, false, false, false, false, false, false, false, false] rfl rfl (any_of HT_.out kk) (fun _ _ _ h => h) (Or.inl ⟨by rfl, ?_⟩) ?_ ?_
     rotate_left
     ·intro w'
      go_simp
      with_reducible rfl
     rotate_left
     ·simp only [Act.put, List.setIfInBounds_toArray, List.set_cons_zero, List.set_cons_succ, i64_w, i32_w]
      rfl
     refine pure_ (i := 2) (N := some 64) (v := ?_) (a' := ?_) #[true, false, true, false, false, false, false, false, false, false, false, false, false, false, false, false, false, false, false] rfl rfl (any_of HT_.out kk) (fun _ _ _ h => h) (Or.inl ⟨by rfl, ?_⟩) ?_ ?_
     rotate_left
     ·intro w'
      go_simp
      with_reducible rfl
     rotate_left
     ·simp only [Act.put, List.setIfInBounds_toArray, List.set_cons_zero, List.set_cons_succ, i64_w, i32_w]
      rfl
     refine pure_ (i := 4) (N := some 66) (v := ?_) (a' := ?_) #[true, false, true, false, true, false, false, false, false, false, false, false, false, false, false, false, false, false, false] rfl rfl (any_of HT_.out kk) (fun _ _ _ h => h) (Or.inl ⟨by rfl, ?_⟩) ?_ ?_
     rotate_left
     ·intro w'
      go_simp
      with_reducible rfl
     rotate_left
     ·simp only [Act.put, List.setIfInBounds_toArray, List.set_cons_zero, List.set_cons_succ, i64_w, i32_w]
      rfl
     refine pure_ (i := 7) (N := some 69) (v := ?_) (a' := ?_) #[true, false, true, false, true, false, false, true, false, false, false, false, false, false, false, false, false, false, false] rfl rfl (any_of HT_.out kk) (fun _ _ _ h => h) (Or.inl ⟨by rfl, ?_⟩) ?_ ?_
     rotate_left
     ·intro w'
      go_simp
      with_reducible rfl
     rotate_left
     ·simp only [Act.put, List.setIfInBounds_toArray, List.set_cons_zero, List.set_cons_succ, i64_w, i32_w]
      rfl
     refine pure_ (i := 10) (N := some 72) (v := ?_) (a' := ?_) #[true, false, true, false, true, false, false, true, false, false, true, false, false, false, false, false, false, false, false] rfl rfl (any_of HT_.out kk) (fun _ _ _ h => h) (Or.inl ⟨by rfl, ?_⟩) ?_ ?_
     rotate_left
     ·intro w'
      go_simp
      with_reducible rfl
     rotate_left
     ·simp only [Act.put, List.setIfInBounds_toArray, List.set_cons_zero, List.set_cons_succ, i64_w, i32_w]
      rfl
     refine pure_ (i := 13) (N := some 75) (v := ?_) (a' := ?_) #[true, false, true, false, true, false, false, true, false, false, true, false, false, true, false, false, false, false, false] rfl rfl (any_of HT_.out kk) (fun _ _ _ h => h) (Or.inl ⟨by rfl, ?_⟩) ?_ ?_
     rotate_left
     ·intro w'
      go_simp
      with_reducible rfl
     rotate_left
     ·simp only [Act.put, List.setIfInBounds_toArray, List.set_cons_zero, List.set_cons_succ, i64_w, i32_w]
      rfl
     refine take_ (i := 1) (N := some 63) (v := ?_) (a' := ?_) #[true, true, true, false, true, false, false, true, false, false, true, false, false, true, false, false, false, false, false] rfl rfl (take_ofW HT_.out HW_.out kk) (fun _ _ _ h => h) (Or.inl ⟨by rfl, ?_⟩) hHeld ?_ ?_
     rotate_left
     ·rintro w' ⟨s0, s1, s2, s3, s4, s5⟩
      go_simp
      with_reducible rfl
     rotate_left
     ·simp only [Act.put, List.setIfInBounds_toArray, List.set_cons_zero, List.set_cons_succ, i64_w, i32_w]
      rfl
     refine take_ (i := 3) (N := some 65) (v := ?_) (a' := ?_) #[true, true, true, true, true, false, false, true, false, false, true, false, false, true, false, false, false, false, false] rfl rfl (take_ofW HT_.out HW_.out kk) (fun _ _ _ h => h) (Or.inl ⟨by rfl, ?_⟩) hHeld ?_ ?_
     rotate_left
     ·rintro w' ⟨s0, s1, s2, s3, s4, s5⟩
      go_simp
      with_reducible rfl
     rotate_left
     ·simp only [Act.put, List.setIfInBounds_toArray, List.set_cons_zero, List.set_cons_succ, i64_w, i32_w]
      rfl
     refine take_ (i := 5) (N := some 67) (v := ?_) (a' := ?_) #[true, true, true, true, true, true, false, true, false, false, true, false, false, true, false, false, false, false, false] rfl rfl (take_ofW HT_.out HW_.out kk) (fun _ _ _ h => h) (Or.inl ⟨by rfl, ?_⟩) hHeld ?_ ?_
     rotate_left
     ·rintro w' ⟨s0, s1, s2, s3, s4, s5⟩
      go_simp
      with_reducible rfl
     rotate_left
     ·simp only [Act.put, List.setIfInBounds_toArray, List.set_cons_zero, List.set_cons_succ, i64_w, i32_w]
      rfl
     refine pure_ (i := 6) (N := some 68) (v := ?_) (a' := ?_) #[true, true, true, true, true, true, true, true, false, false, true, false, false, true, false, false, false, false, false] rfl rfl (any_of HT_.out kk) (fun _ _ _ h => h) (Or.inl ⟨by rfl, ?_⟩) ?_ ?_
     rotate_left
     ·intro w'
      go_simp
      with_reducible rfl
     rotate_left
     ·simp only [Act.put, List.setIfInBounds_toArray, List.set_cons_zero, List.set_cons_succ, i64_w, i32_w]
      rfl
     refine take_ (i := 8) (N := some 70) (v := ?_) (a' := ?_) #[true, true, true, true, true, true, true, true, true, false, true, false, false, true, false, false, false, false, false] rfl rfl (take_ofW HT_.out HW_.out kk) (fun _ _ _ h => h) (Or.inl ⟨by rfl, ?_⟩) hHeld ?_ ?_
     rotate_left
     ·rintro w' ⟨s0, s1, s2, s3, s4, s5⟩
      go_simp
      with_reducible rfl
     rotate_left
     ·simp only [Act.put, List.setIfInBounds_toArray, List.set_cons_zero, List.set_cons_succ, i64_w, i32_w]
      rfl
     refine pure_ (i := 9) (N := some 71) (v := ?_) (a' := ?_) #[true, true, true, true, true, true, true, true, true, true, true, false, false, true, false, false, false, false, false] rfl rfl (any_of HT_.out kk) (fun _ _ _ h => h) (Or.inl ⟨by rfl, ?_⟩) ?_ ?_
     rotate_left
     ·intro w'
      go_simp
      with_reducible rfl
     rotate_left
     ·simp only [Act.put, List.setIfInBounds_toArray, List.set_cons_zero, List.set_cons_succ, i64_w, i32_w]
      rfl
     refine take_ (i := 11) (N := some 73) (v := ?_) (a' := ?_) #[true, true, true, true, true, true, true, true, true, true, true, true, false, true, false, false, false, false, false] rfl rfl (take_ofW HT_.out HW_.out kk) (fun _ _ _ h => h) (Or.inl ⟨by rfl, ?_⟩) hHeld ?_ ?_
     rotate_left
     ·rintro w' ⟨s0, s1, s2, s3, s4, s5⟩
      go_simp
      with_reducible rfl
     rotate_left
     ·simp only [Act.put, List.setIfInBounds_toArray, List.set_cons_zero, List.set_cons_succ, i64_w, i32_w]
      rfl
     refine pure_ (i := 12) (N := some 74) (v := ?_) (a' := ?_) #[true, true, true, true, true, true, true, true, true, true, true, true, true, true, false, false, false, false, false] rfl rfl (any_of HT_.out kk) (fun _ _ _ h => h) (Or.inl ⟨by rfl, ?_⟩) ?_ ?_
     rotate_left
     ·intro w'
      go_simp
      with_reducible rfl
     rotate_left
     ·simp only [Act.put, List.setIfInBounds_toArray, List.set_cons_zero, List.set_cons_succ, i64_w, i32_w]
      rfl
     refine take_ (i := 14) (N := some 76) (v := ?_) (a' := ?_) #[true, true, true, true, true, true, true, true, true, true, true, true, true, true, true, false, false, false, false] rfl rfl (take_ofW HT_.out HW_.out kk) (fun _ _ _ h => h) (Or.inl ⟨by rfl, ?_⟩) hHeld ?_ ?_
     rotate_left
     ·rintro w' ⟨s0, s1, s2, s3, s4, s5⟩
      go_simp
      with_reducible rfl
     rotate_left
     ·simp only [Act.put, List.setIfInBounds_toArray, List.set_cons_zero, List.set_cons_succ, i64_w, i32_w]
      rfl
     refine pure_ (i := 15) (N := some 77) (v := ?_) (a' := ?_) #[true, true, true, true, true, true, true, true, true, true, true, true, true, true, true, true, false, false, false] rfl rfl (any_of HT_.out kk) (fun _ _ _ h => h) (Or.inl ⟨by rfl, ?_⟩) ?_ ?_
     rotate_left
     ·intro w'
      go_simp
      with_reducible rfl
     rotate_left
     ·simp only [Act.put, List.setIfInBounds_toArray, List.set_cons_zero, List.set_cons_succ, i64_w, i32_w]
      rfl
     refine pure_ (i := 16) (N := some 78) (v := ?_) (a' := ?_) #[true, true, true, true, true, true, true, true, true, true, true, true, true, true, true, true, true, false, false] rfl rfl (any_of HT_.out kk) (fun _ _ _ h => h) (Or.inl ⟨by rfl, ?_⟩) ?_ ?_
     rotate_left
     ·intro w'
      go_simp
      with_reducible rfl
     rotate_left
     ·simp only [Act.put, List.setIfInBounds_toArray, List.set_cons_zero, List.set_cons_succ, i64_w, i32_w]
      rfl
     refine pure_ (i := 17) (N := some 79) (v := ?_) (a' := ?_) #[true, true, true, true, true, true, true, true, true, true, true, true, true, true, true, true, true, true, false] rfl rfl (any_of HT_.out kk) (fun _ _ _ h => h) (Or.inl ⟨by rfl, ?_⟩) ?_ ?_
     rotate_left
     ·intro w'
      go_simp
      with_reducible rfl
     rotate_left
     ·simp only [Act.put, List.setIfInBounds_toArray, List.set_cons_zero, List.set_cons_succ, i64_w, i32_w]
      rfl
     refine last_ (i := 18) (N := none) #[true, true, true, true, true, true, true, true, true, true, true, true, true, true, true, true, true, true, true] rfl rfl (one_of HT_.out kk) (by decide) (fun K hK => ?_)
     have hs77 : w76.cell? ⟨gb429, 3, none⟩ = some (.int .i64 a1_3) := bc BK429 3
     have hfs77 := blk_frozen BK429.out 3
     have hns77_0 := NB428_429.out
     have hns77_2 := NB430_429.out
     have hms77_0 := NB429_428.out
     have hms77_2 := NB429_430.out
     refine skip_ (w1 := ?_) (by rfl) rfl ?_ ?_
     rotate_left
     ·go_simp
      rfl
     refine hK.out _ _ ?_
     clear hK K
     refine done_ (done_of HT_.out kk) ?_
     try go_wp2
     go_meet
     case rel => exact ⟨_, (wrap64 (a1_3 - (Int.tmod (wrap64 ((Int.tmod (wrap64 (a1_3 - a0_0)) a0_1) + a0_1)) a0_1))), H', ⟨by have := HJ38.out; first | omega | exact Nat.le_refl _⟩, ⟨by (with_reducible repeat (first | refine blk_drewN ?_ _ | refine blk_drew ?_ | refine blk_alloc ?_ _)); refine blk_far ?_ NB428_429.out _; (with_reducible repeat (first | refine blk_drewN ?_ _ | refine blk_drew ?_ | refine blk_alloc ?_ _)); exact BK428.out⟩, ⟨by (with_reducible repeat (first | refine blk_drewN ?_ _ | refine blk_drew ?_ | refine blk_alloc ?_ _)); refine blk_put (cs := #[.bool a1_0, .bool false, .int .i64 x430002_38, .int .i64 a1_3]) ?_ 3 _ rfl; (with_reducible repeat (first | refine blk_drewN ?_ _ | refine blk_drew ?_ | refine blk_alloc ?_ _)); exact BK429.out⟩, ⟨by (with_reducible repeat (first | refine blk_drewN ?_ _ | refine blk_drew ?_ | refine blk_alloc ?_ _)); refine blk_far ?_ NB430_429.out _; (with_reducible repeat (first | refine blk_drewN ?_ _ | refine blk_drew ?_ | refine blk_alloc ?_ _)); exact BK430.out⟩, ⟨pw⟩⟩
    clear HC70
    try clear c1
    try clear c2
    try clear p2
    try clear c3
    try clear c4
    try clear q4
    try clear c5
    try clear c5b0
    try clear c5b1
    try clear c6
    try clear p6
    try clear c7
    try clear c12
    try clear c13
    try clear c15
    try clear c16
    try clear c28
    try clear c29
    try clear c30
    try clear c32
    try clear c43
    try clear q43
    try clear c44
    try clear c47
    try clear c52
    try clear c54
    try clear c55
    try clear c56
    try clear c58
    try clear c61
    try clear c61b0
    try clear c61b1
    try clear c62
    try clear c63
    try clear p64
    try clear c65
    try clear c71
    try clear c72
    try clear c74
    try clear c75
    try clear c75b0
    try clear c75b1
    try clear hcz14_0
    try clear hcz14_1
    try clear hcz17_0
    try clear hcz17_1
    try clear hcz17_2
    try clear hcz17_3
    try clear hcz19_0
    try clear hcz19_1
    try clear hcz20_0
    try clear hcz20_1
    try clear hcz20_2
    try clear hcz20_3
    try clear hcz22_0
    try clear hcz22_1
    try clear hcz24_0
    try clear hcz24_1
    try clear hcz24_2
    try clear hcz24_3
    try clear hcz30_0
    try clear hcz30_1
    try clear hcz33_0
    try clear hcz33_1
    try clear hcz33_2
    try clear hcz33_3
    try clear hcz35_0
    try clear hcz35_1
    try clear hcz36_0
    try clear hcz36_1
    try clear hcz36_2
    try clear hcz36_3
    try clear hcz38_0
    try clear hcz38_1
    try clear hcz38_2
    try clear hcz38_3
    try clear hcz45_0
    try clear hcz45_1
    try clear hcz48_0
    try clear hcz48_1
    try clear hcz48_2
    try clear hcz48_3
    try clear hcz50_0
    try clear hcz50_1
    try clear hcz51_0
    try clear hcz51_1
    try clear hcz51_2
    try clear hcz51_3
    try clear hcz57_0
    try clear hcz57_1
    try clear hcz59_0
    try clear hcz59_1
    try clear hcz59_2
    try clear hcz59_3
    try clear hcz64_0
    try clear hcz64_1
    try clear hcz66_0
    try clear hcz66_1
    try clear hcz66_2
    try clear hcz66_3
    try clear hcz73_0
    try clear hcz73_1
    try clear hcz73_2
    try clear hcz73_3
    try clear hfz14_0
    try clear hfz14_1
    try clear hfz17_0
    try clear hfz17_1
    try clear hfz17_2
    try clear hfz17_3
    try clear hfz19_0
    try clear hfz19_1
    try clear hfz20_0
    try clear hfz20_1
    try clear hfz20_2
    try clear hfz20_3
    try clear hfz22_0
    try clear hfz22_1
    try clear hfz24_0
    try clear hfz24_1
    try clear hfz24_2
    try clear hfz24_3
    try clear hfz30_0
    try clear hfz30_1
    try clear hfz33_0
    try clear hfz33_1
    try clear hfz33_2
    try clear hfz33_3
    try clear hfz35_0
    try clear hfz35_1
    try clear hfz36_0
    try clear hfz36_1
    try clear hfz36_2
    try clear hfz36_3
    try clear hfz38_0
    try clear hfz38_1
    try clear hfz38_2
    try clear hfz38_3
    try clear hfz45_0
    try clear hfz45_1
    try clear hfz48_0
    try clear hfz48_1
    try clear hfz48_2
    try clear hfz48_3
    try clear hfz50_0
    try clear hfz50_1
    try clear hfz51_0
    try clear hfz51_1
    try clear hfz51_2
    try clear hfz51_3
    try clear hfz57_0
    try clear hfz57_1
    try clear hfz59_0
    try clear hfz59_1
    try clear hfz59_2
    try clear hfz59_3
    try clear hfz64_0
    try clear hfz64_1
    try clear hfz66_0
    try clear hfz66_1
    try clear hfz66_2
    try clear hfz66_3
    try clear hfz73_0
    try clear hfz73_1
    try clear hfz73_2
    try clear hfz73_3
    try clear p2
    try clear p6
    try clear p64
    try clear q4
    try clear q43
    try clear q432
    try clear q434
    obtain ⟨kq, x430003_69, HA, HJ69, BK428, BK429, BK430, HB⟩ := hcut
    cases kq with
    | zero => exact absurd HA.out (by simp [congr_Tight.j2])
    | succ kj69 =>
     have H := HA.out
     clear HA
     simp only [congr_Tight.j2] at H
     have HC78 := am H
     clear H
     go_upto_region 16 with (fail)
     go_cut [94] (fun v94 wc => ∃ (kq : Nat) (x94_77 : Bool), v94 = .bool x94_77 ∧ Aside0 (congr_Tight.j3 kq x94_77 a1_0 a1_1 x430002_38 x430003_69 = some (r1, r2, r3, r4, r5, r6)) ∧ Aside0 (kq ≤ kj69) ∧ Aside0 (wc.heap[gb428]? = some (.cells #[.int .i64 a0_0, .int .i64 a0_1] 34 (0, 0))) ∧ Aside0 (wc.heap[gb429]? = some (.cells #[.bool a1_0, .bool a1_1, .int .i64 x430002_38, .int .i64 x430003_69] 23 (0, 0))) ∧ Aside0 (wc.heap[gb430]? = some (.cells #[.bool false, .bool false, .int .i64 0, .int .i64 0] 23 (0, 0))) ∧ Aside0 (Below w.heap.size w wc))
     case first =>
      have H := HC78.out
      clear HC78
      by_cases c79 : a1_0 = true
      ·subst c79
       have H1 : (congr_Tight.j3 kj69 false true a1_1 x430002_38 x430003_69) = some (r1, r2, r3, r4, r5, r6) := by rw [if_pos rfl] at H; exact H
       clear H
       have H := H1
       clear H1
       have H' := am H
       clear H
       have hnb80 := NB429_428.out
       have hnc80 := NB428_429.out
       have hnb81 := NB429_430.out
       have hnc81 := NB430_429.out
       have hcz82_0 : wc.cell? ⟨gb429, 0, none⟩ = some (.bool true) := bc BK429 0
       have hcz82_1 : wc.cell? ⟨gb429, 1, none⟩ = some (.bool a1_1) := bc BK429 1
       have hcz82_2 : wc.cell? ⟨gb429, 2, none⟩ = some (.int .i64 x430002_38) := bc BK429 2
       have hcz82_3 : wc.cell? ⟨gb429, 3, none⟩ = some (.int .i64 x430003_69) := bc BK429 3
       have hfz82_0 := blk_frozen BK429.out 0
       have hfz82_1 := blk_frozen BK429.out 1
       have hfz82_2 := blk_frozen BK429.out 2
       have hfz82_3 := blk_frozen BK429.out 3
       go_wp2
       go_meet
       case rel => exact ⟨_, (false), pr, H', ⟨by have := HJ38.out; have := HJ69.out; first | omega | exact Nat.le_refl _⟩, ⟨by (with_reducible repeat (first | refine blk_drewN ?_ _ | refine blk_drew ?_ | refine blk_alloc ?_ _)); exact BK428.out⟩, ⟨by (with_reducible repeat (first | refine blk_drewN ?_ _ | refine blk_drew ?_ | refine blk_alloc ?_ _)); exact BK429.out⟩, ⟨by (with_reducible repeat (first | refine blk_drewN ?_ _ | refine blk_drew ?_ | refine blk_alloc ?_ _)); exact BK430.out⟩, ⟨pw⟩⟩
      replace c79 := Bool.eq_false_iff.mpr c79
      subst c79
      have H1 : (if a1_1 = true then (congr_Tight.j3 kj69 false false a1_1 x430002_38 x430003_69) else (congr_Tight.j3 kj69 (decide (x430002_38 > x430003_69)) false a1_1 x430002_38 x430003_69)) = some (r1, r2, r3, r4, r5, r6) := by rw [if_neg (show ¬ (false = true) by decide)] at H; exact H
      clear H
      have H := H1
      clear H1
      by_cases c83 : a1_1 = true
      ·subst c83
       have H1 : (congr_Tight.j3 kj69 false false true x430002_38 x430003_69) = some (r1, r2, r3, r4, r5, r6) := by rw [if_pos rfl] at H; exact H
       clear H
       have H := H1
       clear H1
       have H' := am H
       clear H
       have hnb84 := NB429_428.out
       have hnc84 := NB428_429.out
       have hnb85 := NB429_430.out
       have hnc85 := NB430_429.out
       have hcz86_0 : wc.cell? ⟨gb429, 0, none⟩ = some (.bool false) := bc BK429 0
       have hcz86_1 : wc.cell? ⟨gb429, 1, none⟩ = some (.bool true) := bc BK429 1
       have hcz86_2 : wc.cell? ⟨gb429, 2, none⟩ = some (.int .i64 x430002_38) := bc BK429 2
       have hcz86_3 : wc.cell? ⟨gb429, 3, none⟩ = some (.int .i64 x430003_69) := bc BK429 3
       have hfz86_0 := blk_frozen BK429.out 0
       have hfz86_1 := blk_frozen BK429.out 1
       have hfz86_2 := blk_frozen BK429.out 2
       have hfz86_3 := blk_frozen BK429.out 3
       go_wp2
       go_meet
       case rel => exact ⟨_, (false), pr, H', ⟨by have := HJ38.out; have := HJ69.out; first | omega | exact Nat.le_refl _⟩, ⟨by (with_reducible repeat (first | refine blk_drewN ?_ _ | refine blk_drew ?_ | refine blk_alloc ?_ _)); exact BK428.out⟩, ⟨by (with_reducible repeat (first | refine blk_drewN ?_ _ | refine blk_drew ?_ | refine blk_alloc ?_ _)); exact BK429.out⟩, ⟨by (with_reducible repeat (first | refine blk_drewN ?_ _ | refine blk_drew ?_ | refine blk_alloc ?_ _)); exact BK430.out⟩, ⟨pw⟩⟩
      replace c83 := Bool.eq_false_iff.mpr c83
      subst c83
      have H1 : (congr_Tight.j3 kj69 (decide (x430002_38 > x430003_69)) false false x430002_38 x430003_69) = some (r1, r2, r3, r4, r5, r6) := by rw [if_neg (show ¬ (false = true) by decide)] at H; exact H
      clear H
      have H := H1
      clear H1
      have H' := am H
      clear H
      have hnb87 := NB429_428.out
      have hnc87 := NB428_429.out
      have hnb88 := NB429_430.out
      have hnc88 := NB430_429.out
      have hcz89_0 : wc.cell? ⟨gb429, 0, none⟩ = some (.bool false) := bc BK429 0
      have hcz89_1 : wc.cell? ⟨gb429, 1, none⟩ = some (.bool false) := bc BK429 1
      have hcz89_2 : wc.cell? ⟨gb429, 2, none⟩ = some (.int .i64 x430002_38) := bc BK429 2
      have hcz89_3 : wc.cell? ⟨gb429, 3, none⟩ = some (.int .i64 x430003_69) := bc BK429 3
      have hfz89_0 := blk_frozen BK429.out 0
      have hfz89_1 := blk_frozen BK429.out 1
      have hfz89_2 := blk_frozen BK429.out 2
      have hfz89_3 := blk_frozen BK429.out 3
      go_wp2
      go_meet
      case rel => exact ⟨_, (decide (x430002_38 > x430003_69)), pr, H', ⟨by have := HJ38.out; have := HJ69.out; first | omega | exact Nat.le_refl _⟩, ⟨by (with_reducible repeat (first | refine blk_drewN ?_ _ | refine blk_drew ?_ | refine blk_alloc ?_ _)); exact BK428.out⟩, ⟨by (with_reducible repeat (first | refine blk_drewN ?_ _ | refine blk_drew ?_ | refine blk_alloc ?_ _)); exact BK429.out⟩, ⟨by (with_reducible repeat (first | refine blk_drewN ?_ _ | refine blk_drew ?_ | refine blk_alloc ?_ _)); exact BK430.out⟩, ⟨pw⟩⟩
     clear HC78
     try clear c1
     try clear c2
     try clear p2
     try clear c3
     try clear c4
     try clear q4
     try clear c5
     try clear c5b0
     try clear c5b1
     try clear c6
     try clear p6
     try clear c7
     try clear c8
     try clear c12
     try clear c13
     try clear c15
     try clear c16
     try clear c28
     try clear c29
     try clear c30
     try clear c32
     try clear c43
     try clear q43
     try clear c44
     try clear c47
     try clear c52
     try clear c54
     try clear c55
     try clear c56
     try clear c58
     try clear c61
     try clear c61b0
     try clear c61b1
     try clear c62
     try clear c63
     try clear p64
     try clear c65
     try clear c71
     try clear c72
     try clear c74
     try clear c75
     try clear c75b0
     try clear c75b1
     try clear c79
     try clear c80
     try clear c81
     try clear c83
     try clear c84
     try clear c85
     try clear c87
     try clear c88
     try clear hcz14_0
     try clear hcz14_1
     try clear hcz17_0
     try clear hcz17_1
     try clear hcz17_2
     try clear hcz17_3
     try clear hcz19_0
     try clear hcz19_1
     try clear hcz20_0
     try clear hcz20_1
     try clear hcz20_2
     try clear hcz20_3
     try clear hcz22_0
     try clear hcz22_1
     try clear hcz24_0
     try clear hcz24_1
     try clear hcz24_2
     try clear hcz24_3
     try clear hcz30_0
     try clear hcz30_1
     try clear hcz33_0
     try clear hcz33_1
     try clear hcz33_2
     try clear hcz33_3
     try clear hcz35_0
     try clear hcz35_1
     try clear hcz36_0
     try clear hcz36_1
     try clear hcz36_2
     try clear hcz36_3
     try clear hcz38_0
     try clear hcz38_1
     try clear hcz38_2
     try clear hcz38_3
     try clear hcz45_0
     try clear hcz45_1
     try clear hcz48_0
     try clear hcz48_1
     try clear hcz48_2
     try clear hcz48_3
     try clear hcz50_0
     try clear hcz50_1
     try clear hcz51_0
     try clear hcz51_1
     try clear hcz51_2
     try clear hcz51_3
     try clear hcz57_0
     try clear hcz57_1
     try clear hcz59_0
     try clear hcz59_1
     try clear hcz59_2
     try clear hcz59_3
     try clear hcz64_0
     try clear hcz64_1
     try clear hcz66_0
     try clear hcz66_1
     try clear hcz66_2
     try clear hcz66_3
     try clear hcz73_0
     try clear hcz73_1
     try clear hcz73_2
     try clear hcz73_3
     try clear hcz82_0
     try clear hcz82_1
     try clear hcz82_2
     try clear hcz82_3
     try clear hcz86_0
     try clear hcz86_1
     try clear hcz86_2
     try clear hcz86_3
     try clear hcz89_0
     try clear hcz89_1
     try clear hcz89_2
     try clear hcz89_3
     try clear hfz14_0
     try clear hfz14_1
     try clear hfz17_0
     try clear hfz17_1
     try clear hfz17_2
     try clear hfz17_3
     try clear hfz19_0
     try clear hfz19_1
     try clear hfz20_0
     try clear hfz20_1
     try clear hfz20_2
     try clear hfz20_3
     try clear hfz22_0
     try clear hfz22_1
     try clear hfz24_0
     try clear hfz24_1
     try clear hfz24_2
     try clear hfz24_3
     try clear hfz30_0
     try clear hfz30_1
     try clear hfz33_0
     try clear hfz33_1
     try clear hfz33_2
     try clear hfz33_3
     try clear hfz35_0
     try clear hfz35_1
     try clear hfz36_0
     try clear hfz36_1
     try clear hfz36_2
     try clear hfz36_3
     try clear hfz38_0
     try clear hfz38_1
     try clear hfz38_2
     try clear hfz38_3
     try clear hfz45_0
     try clear hfz45_1
     try clear hfz48_0
     try clear hfz48_1
     try clear hfz48_2
     try clear hfz48_3
     try clear hfz50_0
     try clear hfz50_1
     try clear hfz51_0
     try clear hfz51_1
     try clear hfz51_2
     try clear hfz51_3
     try clear hfz57_0
     try clear hfz57_1
     try clear hfz59_0
     try clear hfz59_1
     try clear hfz59_2
     try clear hfz59_3
     try clear hfz64_0
     try clear hfz64_1
     try clear hfz66_0
     try clear hfz66_1
     try clear hfz66_2
     try clear hfz66_3
     try clear hfz73_0
     try clear hfz73_1
     try clear hfz73_2
     try clear hfz73_3
     try clear hfz82_0
     try clear hfz82_1
     try clear hfz82_2
     try clear hfz82_3
     try clear hfz86_0
     try clear hfz86_1
     try clear hfz86_2
     try clear hfz86_3
     try clear hfz89_0
     try clear hfz89_1
     try clear hfz89_2
     try clear hfz89_3
     try clear p2
     try clear p6
     try clear p64
     try clear q4
     try clear q43
     try clear q432
     try clear q434
     obtain ⟨kq, x94_77, rfl, HA, HJ77, BK428, BK429, BK430, HB⟩ := hcut
     cases kq with
     | zero => exact absurd HA.out (by simp [congr_Tight.j3])
     | succ kj77 =>
      have H := HA.out
      clear HA
      simp only [congr_Tight.j3] at H
      by_cases c90 : x94_77 = true
      ·subst c90
       have H1 : (some (false, false, 0, 0, false, none)) = some (r1, r2, r3, r4, r5, r6) := by rw [if_pos rfl] at H; exact H
       clear H
       have H := H1
       clear H1
       simp only [Option.some.injEq, Prod.mk.injEq] at H
       obtain ⟨rfl, rfl, rfl, rfl, rfl, rfl⟩ := H
       have hnb91 := NB430_428.out
       have hnc91 := NB428_430.out
       have hnb92 := NB430_429.out
       have hnc92 := NB429_430.out
       have hcz93_0 : wc.cell? ⟨gb430, 0, none⟩ = some (.bool false) := bc BK430 0
       have hcz93_1 : wc.cell? ⟨gb430, 1, none⟩ = some (.bool false) := bc BK430 1
       have hcz93_2 : wc.cell? ⟨gb430, 2, none⟩ = some (.int .i64 0) := bc BK430 2
       have hcz93_3 : wc.cell? ⟨gb430, 3, none⟩ = some (.int .i64 0) := bc BK430 3
       have hfz93_0 := blk_frozen BK430.out 0
       have hfz93_1 := blk_frozen BK430.out 1
       have hfz93_2 := blk_frozen BK430.out 2
       have hfz93_3 := blk_frozen BK430.out 3
       go_wp2
       refine bodyPost_ret (results_ctt rfl _ _ gb430 23 #[.bool false, .bool false, .int .i64 0, .int .i64 0] (0, 0) _ rfl (by (with_reducible repeat (first | refine blk_drewN ?_ _ | refine blk_drew ?_ | refine blk_alloc ?_ _)); refine blk_put (cs := #[.bool false, .bool false, .int .i64 0, .int .i64 0]) ?_ 3 _ rfl; (with_reducible repeat (first | refine blk_drewN ?_ _ | refine blk_drew ?_ | refine blk_alloc ?_ _)); refine blk_put (cs := #[.bool false, .bool false, .int .i64 0, .int .i64 0]) ?_ 2 _ rfl; (with_reducible repeat (first | refine blk_drewN ?_ _ | refine blk_drew ?_ | refine blk_alloc ?_ _)); refine blk_put (cs := #[.bool false, .bool false, .int .i64 0, .int .i64 0]) ?_ 1 _ rfl; (with_reducible repeat (first | refine blk_drewN ?_ _ | refine blk_drew ?_ | refine blk_alloc ?_ _)); refine blk_put (cs := #[.bool false, .bool false, .int .i64 0, .int .i64 0]) ?_ 0 _ rfl; (with_reducible repeat (first | refine blk_drewN ?_ _ | refine blk_drew ?_ | refine blk_alloc ?_ _)); exact BK430.out) Tryd.underlying23 rfl kk) rfl ?_
       exact ⟨pe, pw⟩
      replace c90 := Bool.eq_false_iff.mpr c90
      subst c90
      have H1 : (if a1_0 = true then (if a1_1 = true then (some (a1_0, a1_1, x430002_38, x430003_69, true, none)) else (some (a1_0, a1_1, x430002_38, mx x430003_69 (-1099511627776), true, none))) else (if a1_1 = true then (some (a1_0, a1_1, mn x430002_38 1099511627776, x430003_69, true, none)) else (some (a1_0, a1_1, mn x430002_38 1099511627776, mx x430003_69 (-1099511627776), true, none)))) = some (r1, r2, r3, r4, r5, r6) := by rw [if_neg (show ¬ (false = true) by decide)] at H; exact H
      clear H
      have H := H1
      clear H1
      by_cases c94 : a1_0 = true
      ·subst c94
       have H1 : (if a1_1 = true then (some (true, a1_1, x430002_38, x430003_69, true, none)) else (some (true, a1_1, x430002_38, mx x430003_69 (-1099511627776), true, none))) = some (r1, r2, r3, r4, r5, r6) := by rw [if_pos rfl] at H; exact H
       clear H
       have H := H1
       clear H1
       by_cases c95 : a1_1 = true
       ·subst c95
        have H1 : (some (true, true, x430002_38, x430003_69, true, none)) = some (r1, r2, r3, r4, r5, r6) := by rw [if_pos rfl] at H; exact H
        clear H
        have H := H1
        clear H1
        simp only [Option.some.injEq, Prod.mk.injEq] at H
        obtain ⟨rfl, rfl, rfl, rfl, rfl, rfl⟩ := H
        have hnb96 := NB429_428.out
        have hnc96 := NB428_429.out
        have hnb97 := NB429_430.out
        have hnc97 := NB430_429.out
        have hcz98_0 : wc.cell? ⟨gb429, 0, none⟩ = some (.bool true) := bc BK429 0
        have hcz98_1 : wc.cell? ⟨gb429, 1, none⟩ = some (.bool true) := bc BK429 1
        have hcz98_2 : wc.cell? ⟨gb429, 2, none⟩ = some (.int .i64 x430002_38) := bc BK429 2
        have hcz98_3 : wc.cell? ⟨gb429, 3, none⟩ = some (.int .i64 x430003_69) := bc BK429 3
        have hfz98_0 := blk_frozen BK429.out 0
        have hfz98_1 := blk_frozen BK429.out 1
        have hfz98_2 := blk_frozen BK429.out 2
        have hfz98_3 := blk_frozen BK429.out 3
        have hnb99 := NB430_428.out
        have hnc99 := NB428_430.out
        have hcz100_0 : wc.cell? ⟨gb430, 0, none⟩ = some (.bool false) := bc BK430 0
        have hcz100_1 : wc.cell? ⟨gb430, 1, none⟩ = some (.bool false) := bc BK430 1
        have hcz100_2 : wc.cell? ⟨gb430, 2, none⟩ = some (.int .i64 0) := bc BK430 2
        have hcz100_3 : wc.cell? ⟨gb430, 3, none⟩ = some (.int .i64 0) := bc BK430 3
        have hfz100_0 := blk_frozen BK430.out 0
        have hfz100_1 := blk_frozen BK430.out 1
        have hfz100_2 := blk_frozen BK430.out 2
        have hfz100_3 := blk_frozen BK430.out 3
        go_wp2
        refine bodyPost_ret (results_ctt rfl _ _ gb430 23 #[.bool true, .bool true, .int .i64 x430002_38, .int .i64 x430003_69] (0, 0) _ rfl (by (with_reducible repeat (first | refine blk_drewN ?_ _ | refine blk_drew ?_ | refine blk_alloc ?_ _)); refine blk_put (cs := #[.bool true, .bool true, .int .i64 x430002_38, .int .i64 0]) ?_ 3 _ rfl; (with_reducible repeat (first | refine blk_drewN ?_ _ | refine blk_drew ?_ | refine blk_alloc ?_ _)); refine blk_put (cs := #[.bool true, .bool true, .int .i64 0, .int .i64 0]) ?_ 2 _ rfl; (with_reducible repeat (first | refine blk_drewN ?_ _ | refine blk_drew ?_ | refine blk_alloc ?_ _)); refine blk_put (cs := #[.bool true, .bool false, .int .i64 0, .int .i64 0]) ?_ 1 _ rfl; (with_reducible repeat (first | refine blk_drewN ?_ _ | refine blk_drew ?_ | refine blk_alloc ?_ _)); refine blk_put (cs := #[.bool false, .bool false, .int .i64 0, .int .i64 0]) ?_ 0 _ rfl; (with_reducible repeat (first | refine blk_drewN ?_ _ | refine blk_drew ?_ | refine blk_alloc ?_ _)); exact BK430.out) Tryd.underlying23 rfl kk) rfl ?_
        exact ⟨pe, pw⟩
       replace c95 := Bool.eq_false_iff.mpr c95
       subst c95
       have H1 : (some (true, false, x430002_38, mx x430003_69 (-1099511627776), true, none)) = some (r1, r2, r3, r4, r5, r6) := by rw [if_neg (show ¬ (false = true) by decide)] at H; exact H
       clear H
       have H := H1
       clear H1
       obtain ⟨ji101, hji101⟩ : ∃ j_ : Int, (mx x430003_69 (-1099511627776)) = j_ := ⟨_, rfl⟩
       replace H : (some (true, false, x430002_38, ji101, true, none)) = some (r1, r2, r3, r4, r5, r6) := by first | (rw [hji101] at H; exact H) | (simp only [hji101] at H ⊢; exact H)
       have hji101_ : (if x430003_69 < (-1099511627776) then (-1099511627776) else x430003_69) = ji101 := hji101
       simp only [Option.some.injEq, Prod.mk.injEq] at H
       obtain ⟨rfl, rfl, rfl, rfl, rfl, rfl⟩ := H
       have hnb102 := NB429_428.out
       have hnc102 := NB428_429.out
       have hnb103 := NB429_430.out
       have hnc103 := NB430_429.out
       have hcz104_0 : wc.cell? ⟨gb429, 0, none⟩ = some (.bool true) := bc BK429 0
       have hcz104_1 : wc.cell? ⟨gb429, 1, none⟩ = some (.bool false) := bc BK429 1
       have hcz104_2 : wc.cell? ⟨gb429, 2, none⟩ = some (.int .i64 x430002_38) := bc BK429 2
       have hcz104_3 : wc.cell? ⟨gb429, 3, none⟩ = some (.int .i64 x430003_69) := bc BK429 3
       have hfz104_0 := blk_frozen BK429.out 0
       have hfz104_1 := blk_frozen BK429.out 1
       have hfz104_2 := blk_frozen BK429.out 2
       have hfz104_3 := blk_frozen BK429.out 3
       have hnb105 := NB430_428.out
       have hnc105 := NB428_430.out
       have hcz106_0 : wc.cell? ⟨gb430, 0, none⟩ = some (.bool false) := bc BK430 0
       have hcz106_1 : wc.cell? ⟨gb430, 1, none⟩ = some (.bool false) := bc BK430 1
       have hcz106_2 : wc.cell? ⟨gb430, 2, none⟩ = some (.int .i64 0) := bc BK430 2
       have hcz106_3 : wc.cell? ⟨gb430, 3, none⟩ = some (.int .i64 0) := bc BK430 3
       have hfz106_0 := blk_frozen BK430.out 0
       have hfz106_1 := blk_frozen BK430.out 1
       have hfz106_2 := blk_frozen BK430.out 2
       have hfz106_3 := blk_frozen BK430.out 3
       go_wp2
       refine bodyPost_ret (results_ctt rfl _ _ gb430 23 #[.bool true, .bool false, .int .i64 x430002_38, .int .i64 ji101] (0, 0) _ rfl (by (with_reducible repeat (first | refine blk_drewN ?_ _ | refine blk_drew ?_ | refine blk_alloc ?_ _)); refine blk_put (cs := #[.bool true, .bool false, .int .i64 x430002_38, .int .i64 0]) ?_ 3 _ rfl; (with_reducible repeat (first | refine blk_drewN ?_ _ | refine blk_drew ?_ | refine blk_alloc ?_ _)); refine blk_put (cs := #[.bool true, .bool false, .int .i64 0, .int .i64 0]) ?_ 2 _ rfl; (with_reducible repeat (first | refine blk_drewN ?_ _ | refine blk_drew ?_ | refine blk_alloc ?_ _)); refine blk_put (cs := #[.bool true, .bool false, .int .i64 0, .int .i64 0]) ?_ 1 _ rfl; (with_reducible repeat (first | refine blk_drewN ?_ _ | refine blk_drew ?_ | refine blk_alloc ?_ _)); refine blk_put (cs := #[.bool false, .bool false, .int .i64 0, .int .i64 0]) ?_ 0 _ rfl; (with_reducible repeat (first | refine blk_drewN ?_ _ | refine blk_drew ?_ | refine blk_alloc ?_ _)); refine blk_far ?_ NB430_429.out _; (with_reducible repeat (first | refine blk_drewN ?_ _ | refine blk_drew ?_ | refine blk_alloc ?_ _)); exact BK430.out) Tryd.underlying23 rfl kk) rfl ?_
       exact ⟨by first | rfl | (simp [errW_none, errW_some] <;> rfl) | (simp only [← hji101]; first | rfl | (simp [errW_none, errW_some] <;> rfl)) | (simp [*, errW_none, errW_some] <;> rfl), pw⟩
      replace c94 := Bool.eq_false_iff.mpr c94
      subst c94
      have H1 : (if a1_1 = true then (some (false, a1_1, mn x430002_38 1099511627776, x430003_69, true, none)) else (some (false, a1_1, mn x430002_38 1099511627776, mx x430003_69 (-1099511627776), true, none))) = some (r1, r2, r3, r4, r5, r6) := by rw [if_neg (show ¬ (false = true) by decide)] at H; exact H
      clear H
      have H := H1
      clear H1
      obtain ⟨ji107, hji107⟩ : ∃ j_ : Int, (mn x430002_38 1099511627776) = j_ := ⟨_, rfl⟩
      replace H : (if a1_1 = true then (some (false, a1_1, ji107, x430003_69, true, none)) else (some (false, a1_1, ji107, mx x430003_69 (-1099511627776), true, none))) = some (r1, r2, r3, r4, r5, r6) := by first | (rw [hji107] at H; exact H) | (simp only [hji107] at H ⊢; exact H)
      have hji107_ : (if 1099511627776 < x430002_38 then 1099511627776 else x430002_38) = ji107 := hji107
      by_cases c108 : a1_1 = true
      ·subst c108
       have H1 : (some (false, true, ji107, x430003_69, true, none)) = some (r1, r2, r3, r4, r5, r6) := by rw [if_pos rfl] at H; exact H
       clear H
       have H := H1
       clear H1
       simp only [Option.some.injEq, Prod.mk.injEq] at H
       obtain ⟨rfl, rfl, rfl, rfl, rfl, rfl⟩ := H
       have hnb109 := NB429_428.out
       have hnc109 := NB428_429.out
       have hnb110 := NB429_430.out
       have hnc110 := NB430_429.out
       have hcz111_0 : wc.cell? ⟨gb429, 0, none⟩ = some (.bool false) := bc BK429 0
       have hcz111_1 : wc.cell? ⟨gb429, 1, none⟩ = some (.bool true) := bc BK429 1
       have hcz111_2 : wc.cell? ⟨gb429, 2, none⟩ = some (.int .i64 x430002_38) := bc BK429 2
       have hcz111_3 : wc.cell? ⟨gb429, 3, none⟩ = some (.int .i64 x430003_69) := bc BK429 3
       have hfz111_0 := blk_frozen BK429.out 0
       have hfz111_1 := blk_frozen BK429.out 1
       have hfz111_2 := blk_frozen BK429.out 2
       have hfz111_3 := blk_frozen BK429.out 3
       have hnb112 := NB430_428.out
       have hnc112 := NB428_430.out
       have hcz113_0 : wc.cell? ⟨gb430, 0, none⟩ = some (.bool false) := bc BK430 0
       have hcz113_1 : wc.cell? ⟨gb430, 1, none⟩ = some (.bool false) := bc BK430 1
       have hcz113_2 : wc.cell? ⟨gb430, 2, none⟩ = some (.int .i64 0) := bc BK430 2
       have hcz113_3 : wc.cell? ⟨gb430, 3, none⟩ = some (.int .i64 0) := bc BK430 3
       have hfz113_0 := blk_frozen BK430.out 0
       have hfz113_1 := blk_frozen BK430.out 1
       have hfz113_2 := blk_frozen BK430.out 2
       have hfz113_3 := blk_frozen BK430.out 3
       go_wp2
       refine bodyPost_ret (results_ctt rfl _ _ gb430 23 #[.bool false, .bool true, .int .i64 ji107, .int .i64 x430003_69] (0, 0) _ rfl (by (with_reducible repeat (first | refine blk_drewN ?_ _ | refine blk_drew ?_ | refine blk_alloc ?_ _)); refine blk_put (cs := #[.bool false, .bool true, .int .i64 ji107, .int .i64 0]) ?_ 3 _ rfl; (with_reducible repeat (first | refine blk_drewN ?_ _ | refine blk_drew ?_ | refine blk_alloc ?_ _)); refine blk_put (cs := #[.bool false, .bool true, .int .i64 0, .int .i64 0]) ?_ 2 _ rfl; (with_reducible repeat (first | refine blk_drewN ?_ _ | refine blk_drew ?_ | refine blk_alloc ?_ _)); refine blk_put (cs := #[.bool false, .bool false, .int .i64 0, .int .i64 0]) ?_ 1 _ rfl; (with_reducible repeat (first | refine blk_drewN ?_ _ | refine blk_drew ?_ | refine blk_alloc ?_ _)); refine blk_put (cs := #[.bool false, .bool false, .int .i64 0, .int .i64 0]) ?_ 0 _ rfl; (with_reducible repeat (first | refine blk_drewN ?_ _ | refine blk_drew ?_ | refine blk_alloc ?_ _)); refine blk_far ?_ NB430_429.out _; (with_reducible repeat (first | refine blk_drewN ?_ _ | refine blk_drew ?_ | refine blk_alloc ?_ _)); exact BK430.out) Tryd.underlying23 rfl kk) rfl ?_
       exact ⟨by first | rfl | (simp [errW_none, errW_some] <;> rfl) | (simp only [← hji107]; first | rfl | (simp [errW_none, errW_some] <;> rfl)) | (simp [*, errW_none, errW_some] <;> rfl), pw⟩
      replace c108 := Bool.eq_false_iff.mpr c108
      subst c108
      have H1 : (some (false, false, ji107, mx x430003_69 (-1099511627776), true, none)) = some (r1, r2, r3, r4, r5, r6) := by rw [if_neg (show ¬ (false = true) by decide)] at H; exact H
      clear H
      have H := H1
      clear H1
      obtain ⟨ji114, hji114⟩ : ∃ j_ : Int, (mx x430003_69 (-1099511627776)) = j_ := ⟨_, rfl⟩
      replace H : (some (false, false, ji107, ji114, true, none)) = some (r1, r2, r3, r4, r5, r6) := by first | (rw [hji114] at H; exact H) | (simp only [hji114] at H ⊢; exact H)
      have hji114_ : (if x430003_69 < (-1099511627776) then (-1099511627776) else x430003_69) = ji114 := hji114
      simp only [Option.some.injEq, Prod.mk.injEq] at H
      obtain ⟨rfl, rfl, rfl, rfl, rfl, rfl⟩ := H
      have hnb115 := NB429_428.out
      have hnc115 := NB428_429.out
      have hnb116 := NB429_430.out
      have hnc116 := NB430_429.out
      have hcz117_0 : wc.cell? ⟨gb429, 0, none⟩ = some (.bool false) := bc BK429 0
      have hcz117_1 : wc.cell? ⟨gb429, 1, none⟩ = some (.bool false) := bc BK429 1
      have hcz117_2 : wc.cell? ⟨gb429, 2, none⟩ = some (.int .i64 x430002_38) := bc BK429 2
      have hcz117_3 : wc.cell? ⟨gb429, 3, none⟩ = some (.int .i64 x430003_69) := bc BK429 3
      have hfz117_0 := blk_frozen BK429.out 0
      have hfz117_1 := blk_frozen BK429.out 1
      have hfz117_2 := blk_frozen BK429.out 2
      have hfz117_3 := blk_frozen BK429.out 3
      have hnb118 := NB430_428.out
      have hnc118 := NB428_430.out
      have hcz119_0 : wc.cell? ⟨gb430, 0, none⟩ = some (.bool false) := bc BK430 0
      have hcz119_1 : wc.cell? ⟨gb430, 1, none⟩ = some (.bool false) := bc BK430 1
      have hcz119_2 : wc.cell? ⟨gb430, 2, none⟩ = some (.int .i64 0) := bc BK430 2
      have hcz119_3 : wc.cell? ⟨gb430, 3, none⟩ = some (.int .i64 0) := bc BK430 3
      have hfz119_0 := blk_frozen BK430.out 0
      have hfz119_1 := blk_frozen BK430.out 1
      have hfz119_2 := blk_frozen BK430.out 2
      have hfz119_3 := blk_frozen BK430.out 3
      go_wp2
      refine bodyPost_ret (results_ctt rfl _ _ gb430 23 #[.bool false, .bool false, .int .i64 ji107, .int .i64 ji114] (0, 0) _ rfl (by (with_reducible repeat (first | refine blk_drewN ?_ _ | refine blk_drew ?_ | refine blk_alloc ?_ _)); refine blk_put (cs := #[.bool false, .bool false, .int .i64 ji107, .int .i64 0]) ?_ 3 _ rfl; (with_reducible repeat (first | refine blk_drewN ?_ _ | refine blk_drew ?_ | refine blk_alloc ?_ _)); refine blk_put (cs := #[.bool false, .bool false, .int .i64 0, .int .i64 0]) ?_ 2 _ rfl; (with_reducible repeat (first | refine blk_drewN ?_ _ | refine blk_drew ?_ | refine blk_alloc ?_ _)); refine blk_put (cs := #[.bool false, .bool false, .int .i64 0, .int .i64 0]) ?_ 1 _ rfl; (with_reducible repeat (first | refine blk_drewN ?_ _ | refine blk_drew ?_ | refine blk_alloc ?_ _)); refine blk_put (cs := #[.bool false, .bool false, .int .i64 0, .int .i64 0]) ?_ 0 _ rfl; (with_reducible repeat (first | refine blk_drewN ?_ _ | refine blk_drew ?_ | refine blk_alloc ?_ _)); refine blk_far ?_ NB430_429.out _; (with_reducible repeat (first | refine blk_drewN ?_ _ | refine blk_drew ?_ | refine blk_alloc ?_ _)); refine blk_far ?_ NB430_429.out _; (with_reducible repeat (first | refine blk_drewN ?_ _ | refine blk_drew ?_ | refine blk_alloc ?_ _)); exact BK430.out) Tryd.underlying23 rfl kk) rfl ?_
      exact ⟨by first | rfl | (simp [errW_none, errW_some] <;> rfl) | (simp only [← hji107, ← hji114]; first | rfl | (simp [errW_none, errW_some] <;> rfl)) | (simp [*, errW_none, errW_some] <;> rfl), pw⟩
  have H1 : (some (false, false, 0, 0, false, some q434)) = some (r1, r2, r3, r4, r5, r6) := by rw [if_neg (show ¬ (some q434).isNone = true by simp)] at H; exact H
  clear H
  have H := H1
  clear H1
  try simp only [errW_none, errW_some]
  simp only [Option.some.injEq, Prod.mk.injEq] at H
  obtain ⟨rfl, rfl, rfl, rfl, rfl, rfl⟩ := H
  go_enter Tryd.func52, Tryd.ntmps52
  go_wp2_with (first | ((with_reducible refine gate_dst (N := 2) rfl ?_); refine box_event ?hg (N := 2) ?hd (cs := #[.int .i64 a0_0, .int .i64 a0_1]) (t := 34) ?hr ?_; (case hd => rfl); (case hg => rfl); (case hr => first | (go_simp; done) | (go_simp; rfl)); intro gb428 hg w120 hbox hb; have n0_ := am (below_step pw hb); have n1_ := am (hbox); have n2_ := am ((by rw [hg]; exact (below_size pw) : w.heap.size ≤ gb428)); have n3_ := am ((by rw [hg]; exact (below_size pw) : w.heap.size ≤ gb428)); clear HB; have HB := n0_; have BK428 := n1_; have GW428 := n2_; have GE428 := n3_; clear n0_ n1_ n2_ n3_; clear hb hbox hg) | ((with_reducible refine gate_dst (N := 3) rfl ?_); refine box_event ?hg (N := 3) ?hd (cs := #[.bool a1_0, .bool a1_1, .int .i64 a1_2, .int .i64 a1_3]) (t := 23) ?hr ?_; (case hd => rfl); (case hg => rfl); (case hr => first | (go_simp; done) | (go_simp; rfl)); intro gb429 hg w121 hbox hb; have n0_ := bb BK428 hb; have n1_ := am (below_step pw hb); have n2_ := am (hbox); have n3_ := am ((by rw [hg]; exact (below_size pw) : w.heap.size ≤ gb429)); have n4_ := am ((by rw [hg]; exact (below_size pw) : w.heap.size ≤ gb429)); have n5_ := am ((by rw [hg]; exact Nat.ne_of_lt (blk_lt pk) : gb428 ≠ gb429)); have n6_ := am ((by rw [hg]; exact Nat.ne_of_gt (blk_lt pk) : gb429 ≠ gb428)); clear BK428; clear HB; have BK428 := n0_; have HB := n1_; have BK429 := n2_; have GW429 := n3_; have GE429 := n4_; have NB428_429 := n5_; have NB429_428 := n6_; clear n0_ n1_ n2_ n3_ n4_ n5_ n6_; clear hb hbox hg) | ((with_reducible refine gate_dst (N := 4) rfl ?_); refine box_event ?hg (N := 4) ?hd (cs := #[.bool false, .bool false, .int .i64 0, .int .i64 0]) (t := 23) ?hr ?_; (case hd => rfl); (case hg => rfl); (case hr => first | (go_simp; done) | (go_simp; rfl)); intro gb430 hg w122 hbox hb; have n0_ := bb BK428 hb; have n1_ := bb BK429 hb; have n2_ := am (below_step pw hb); have n3_ := am (hbox); have n4_ := am ((by rw [hg]; exact (below_size pw) : w.heap.size ≤ gb430)); have n5_ := am ((by rw [hg]; exact (below_size pw) : w.heap.size ≤ gb430)); have n6_ := am ((by rw [hg]; exact Nat.ne_of_lt (blk_lt pk) : gb428 ≠ gb430)); have n7_ := am ((by rw [hg]; exact Nat.ne_of_gt (blk_lt pk) : gb430 ≠ gb428)); have n8_ := am ((by rw [hg]; exact Nat.ne_of_lt (blk_lt pk) : gb429 ≠ gb430)); have n9_ := am ((by rw [hg]; exact Nat.ne_of_gt (blk_lt pk) : gb430 ≠ gb429)); clear BK428; clear BK429; clear HB; have BK428 := n0_; have BK429 := n1_; have HB := n2_; have BK430 := n3_; have GW430 := n4_; have GE430 := n5_; have NB428_430 := n6_; have NB430_428 := n7_; have NB429_430 := n8_; have NB430_429 := n9_; clear n0_ n1_ n2_ n3_ n4_ n5_ n6_ n7_ n8_ n9_; clear hb hbox hg; have hnb123 := NB428_429.out; have hnc123 := NB429_428.out; have hnb124 := NB428_430.out; have hnc124 := NB430_428.out; have hcz125_0 : w122.cell? ⟨gb428, 0, none⟩ = some (.int .i64 a0_0) := bc BK428 0; have hcz125_1 : w122.cell? ⟨gb428, 1, none⟩ = some (.int .i64 a0_1) := bc BK428 1; have hfz125_0 := blk_frozen BK428.out 0; have hfz125_1 := blk_frozen BK428.out 1) | ((with_reducible refine gate_callee (f := 29) rfl ?_); refine goesL_ (some 10) rfl rfl Tryd.func29 kk rfl #[.agg #[.int .i64 a0_0, .int .i64 a0_1]] rfl (by (try simp only [List.map_toArray, List.map_cons, List.map_nil]); first | done | rfl | (simp only [List.length_drop, List.length_take]; rfl)) ?_; (with_reducible refine (congr_Valid.calls k a0_0 a0_1 none _ A3.out (am (ErrAt.below hE2.out pw)).out (am (ErrAt.below hE3.out pw)).out).mono ?_); rintro e w126 ⟨rfl, hb⟩; refine ⟨_, rfl, ?_⟩; have n0_ := bb BK428 hb; have n1_ := bb BK429 hb; have n2_ := bb BK430 hb; have n3_ := am (below_step pw hb); clear BK428; clear BK429; clear BK430; clear HB; have BK428 := n0_; have BK429 := n1_; have BK430 := n2_; have HB := n3_; clear n0_ n1_ n2_ n3_; (try clear hb); (try clear hb2); (try clear hk); (try clear hi); (try simp only [errW_none, errW_some]); have hnb127 := NB429_430.out; have hnc127 := NB430_429.out; have hcz128_0 : w126.cell? ⟨gb429, 0, none⟩ = some (.bool a1_0) := bc BK429 0; have hcz128_1 : w126.cell? ⟨gb429, 1, none⟩ = some (.bool a1_1) := bc BK429 1; have hcz128_2 : w126.cell? ⟨gb429, 2, none⟩ = some (.int .i64 a1_2) := bc BK429 2; have hcz128_3 : w126.cell? ⟨gb429, 3, none⟩ = some (.int .i64 a1_3) := bc BK429 3; have hfz128_0 := blk_frozen BK429.out 0; have hfz128_1 := blk_frozen BK429.out 1; have hfz128_2 := blk_frozen BK429.out 2; have hfz128_3 := blk_frozen BK429.out 3) | ((with_reducible refine gate_callee (f := 15) rfl ?_); refine goesL_ (some 16) rfl rfl Tryd.func15 kk rfl #[.agg #[.bool a1_0, .bool a1_1, .int .i64 a1_2, .int .i64 a1_3]] rfl (by (try simp only [List.map_toArray, List.map_cons, List.map_nil]); first | done | rfl | (simp only [List.length_drop, List.length_take]; rfl)) ?_; (with_reducible refine (interval_Valid.calls k a1_0 a1_1 a1_2 a1_3 (some q434) _ A4.out (am (ErrAt.below hE2.out pw)).out (am (ErrAt.below hE3.out pw)).out).mono ?_); rintro e w129 ⟨rfl, hb⟩; refine ⟨_, rfl, ?_⟩; have n0_ := bb BK428 hb; have n1_ := bb BK429 hb; have n2_ := bb BK430 hb; have n3_ := am (below_step pw hb); clear BK428; clear BK429; clear BK430; clear HB; have BK428 := n0_; have BK429 := n1_; have BK430 := n2_; have HB := n3_; clear n0_ n1_ n2_ n3_; (try clear hb); (try clear hb2); (try clear hk); (try clear hi); (try simp only [errW_none, errW_some]); have hcz130_0 : w129.cell? ⟨gb430, 0, none⟩ = some (.bool false) := bc BK430 0; have hcz130_1 : w129.cell? ⟨gb430, 1, none⟩ = some (.bool false) := bc BK430 1; have hcz130_2 : w129.cell? ⟨gb430, 2, none⟩ = some (.int .i64 0) := bc BK430 2; have hcz130_3 : w129.cell? ⟨gb430, 3, none⟩ = some (.int .i64 0) := bc BK430 3; have hfz130_0 := blk_frozen BK430.out 0; have hfz130_1 := blk_frozen BK430.out 1; have hfz130_2 := blk_frozen BK430.out 2; have hfz130_3 := blk_frozen BK430.out 3))
  refine bodyPost_ret (results_ctt rfl _ _ gb430 23 #[.bool false, .bool false, .int .i64 0, .int .i64 0] (0, 0) _ rfl (by (with_reducible repeat (first | refine blk_drewN ?_ _ | refine blk_drew ?_ | refine blk_alloc ?_ _)); refine blk_put (cs := #[.bool false, .bool false, .int .i64 0, .int .i64 0]) ?_ 3 _ rfl; (with_reducible repeat (first | refine blk_drewN ?_ _ | refine blk_drew ?_ | refine blk_alloc ?_ _)); refine blk_put (cs := #[.bool false, .bool false, .int .i64 0, .int .i64 0]) ?_ 2 _ rfl; (with_reducible repeat (first | refine blk_drewN ?_ _ | refine blk_drew ?_ | refine blk_alloc ?_ _)); refine blk_put (cs := #[.bool false, .bool false, .int .i64 0, .int .i64 0]) ?_ 1 _ rfl; (with_reducible repeat (first | refine blk_drewN ?_ _ | refine blk_drew ?_ | refine blk_alloc ?_ _)); refine blk_put (cs := #[.bool false, .bool false, .int .i64 0, .int .i64 0]) ?_ 0 _ rfl; (with_reducible repeat (first | refine blk_drewN ?_ _ | refine blk_drew ?_ | refine blk_alloc ?_ _)); exact BK430.out) Tryd.underlying23 rfl kk) rfl ?_
  exact ⟨pe, pw⟩
 have H1 : (some (false, false, 0, 0, false, some q432)) = some (r1, r2, r3, r4, r5, r6) := by rw [if_neg (show ¬ (some q432).isNone = true by simp)] at H; exact H
 clear H
 have H := H1
 clear H1
 try simp only [errW_none, errW_some]
 simp only [Option.some.injEq, Prod.mk.injEq] at H
 obtain ⟨rfl, rfl, rfl, rfl, rfl, rfl⟩ := H
 go_enter Tryd.func52, Tryd.ntmps52
 go_wp2_with (first | ((with_reducible refine gate_dst (N := 2) rfl ?_); refine box_event ?hg (N := 2) ?hd (cs := #[.int .i64 a0_0, .int .i64 a0_1]) (t := 34) ?hr ?_; (case hd => rfl); (case hg => rfl); (case hr => first | (go_simp; done) | (go_simp; rfl)); intro gb428 hg w131 hbox hb; have n0_ := am (below_step pw hb); have n1_ := am (hbox); have n2_ := am ((by rw [hg]; exact (below_size pw) : w.heap.size ≤ gb428)); have n3_ := am ((by rw [hg]; exact (below_size pw) : w.heap.size ≤ gb428)); clear HB; have HB := n0_; have BK428 := n1_; have GW428 := n2_; have GE428 := n3_; clear n0_ n1_ n2_ n3_; clear hb hbox hg) | ((with_reducible refine gate_dst (N := 3) rfl ?_); refine box_event ?hg (N := 3) ?hd (cs := #[.bool a1_0, .bool a1_1, .int .i64 a1_2, .int .i64 a1_3]) (t := 23) ?hr ?_; (case hd => rfl); (case hg => rfl); (case hr => first | (go_simp; done) | (go_simp; rfl)); intro gb429 hg w132 hbox hb; have n0_ := bb BK428 hb; have n1_ := am (below_step pw hb); have n2_ := am (hbox); have n3_ := am ((by rw [hg]; exact (below_size pw) : w.heap.size ≤ gb429)); have n4_ := am ((by rw [hg]; exact (below_size pw) : w.heap.size ≤ gb429)); have n5_ := am ((by rw [hg]; exact Nat.ne_of_lt (blk_lt pk) : gb428 ≠ gb429)); have n6_ := am ((by rw [hg]; exact Nat.ne_of_gt (blk_lt pk) : gb429 ≠ gb428)); clear BK428; clear HB; have BK428 := n0_; have HB := n1_; have BK429 := n2_; have GW429 := n3_; have GE429 := n4_; have NB428_429 := n5_; have NB429_428 := n6_; clear n0_ n1_ n2_ n3_ n4_ n5_ n6_; clear hb hbox hg) | ((with_reducible refine gate_dst (N := 4) rfl ?_); refine box_event ?hg (N := 4) ?hd (cs := #[.bool false, .bool false, .int .i64 0, .int .i64 0]) (t := 23) ?hr ?_; (case hd => rfl); (case hg => rfl); (case hr => first | (go_simp; done) | (go_simp; rfl)); intro gb430 hg w133 hbox hb; have n0_ := bb BK428 hb; have n1_ := bb BK429 hb; have n2_ := am (below_step pw hb); have n3_ := am (hbox); have n4_ := am ((by rw [hg]; exact (below_size pw) : w.heap.size ≤ gb430)); have n5_ := am ((by rw [hg]; exact (below_size pw) : w.heap.size ≤ gb430)); have n6_ := am ((by rw [hg]; exact Nat.ne_of_lt (blk_lt pk) : gb428 ≠ gb430)); have n7_ := am ((by rw [hg]; exact Nat.ne_of_gt (blk_lt pk) : gb430 ≠ gb428)); have n8_ := am ((by rw [hg]; exact Nat.ne_of_lt (blk_lt pk) : gb429 ≠ gb430)); have n9_ := am ((by rw [hg]; exact Nat.ne_of_gt (blk_lt pk) : gb430 ≠ gb429)); clear BK428; clear BK429; clear HB; have BK428 := n0_; have BK429 := n1_; have HB := n2_; have BK430 := n3_; have GW430 := n4_; have GE430 := n5_; have NB428_430 := n6_; have NB430_428 := n7_; have NB429_430 := n8_; have NB430_429 := n9_; clear n0_ n1_ n2_ n3_ n4_ n5_ n6_ n7_ n8_ n9_; clear hb hbox hg; have hnb134 := NB428_429.out; have hnc134 := NB429_428.out; have hnb135 := NB428_430.out; have hnc135 := NB430_428.out; have hcz136_0 : w133.cell? ⟨gb428, 0, none⟩ = some (.int .i64 a0_0) := bc BK428 0; have hcz136_1 : w133.cell? ⟨gb428, 1, none⟩ = some (.int .i64 a0_1) := bc BK428 1; have hfz136_0 := blk_frozen BK428.out 0; have hfz136_1 := blk_frozen BK428.out 1) | ((with_reducible refine gate_callee (f := 29) rfl ?_); refine goesL_ (some 10) rfl rfl Tryd.func29 kk rfl #[.agg #[.int .i64 a0_0, .int .i64 a0_1]] rfl (by (try simp only [List.map_toArray, List.map_cons, List.map_nil]); first | done | rfl | (simp only [List.length_drop, List.length_take]; rfl)) ?_; (with_reducible refine (congr_Valid.calls k a0_0 a0_1 (some q432) _ A3.out (am (ErrAt.below hE2.out pw)).out (am (ErrAt.below hE3.out pw)).out).mono ?_); rintro e w137 ⟨rfl, hb⟩; refine ⟨_, rfl, ?_⟩; have n0_ := bb BK428 hb; have n1_ := bb BK429 hb; have n2_ := bb BK430 hb; have n3_ := am (below_step pw hb); clear BK428; clear BK429; clear BK430; clear HB; have BK428 := n0_; have BK429 := n1_; have BK430 := n2_; have HB := n3_; clear n0_ n1_ n2_ n3_; (try clear hb); (try clear hb2); (try clear hk); (try clear hi); (try simp only [errW_none, errW_some]); have hnb138 := NB430_429.out; have hnc138 := NB429_430.out; have hcz139_0 : w137.cell? ⟨gb430, 0, none⟩ = some (.bool false) := bc BK430 0; have hcz139_1 : w137.cell? ⟨gb430, 1, none⟩ = some (.bool false) := bc BK430 1; have hcz139_2 : w137.cell? ⟨gb430, 2, none⟩ = some (.int .i64 0) := bc BK430 2; have hcz139_3 : w137.cell? ⟨gb430, 3, none⟩ = some (.int .i64 0) := bc BK430 3; have hfz139_0 := blk_frozen BK430.out 0; have hfz139_1 := blk_frozen BK430.out 1; have hfz139_2 := blk_frozen BK430.out 2; have hfz139_3 := blk_frozen BK430.out 3))
 refine bodyPost_ret (results_ctt rfl _ _ gb430 23 #[.bool false, .bool false, .int .i64 0, .int .i64 0] (0, 0) _ rfl (by (with_reducible repeat (first | refine blk_drewN ?_ _ | refine blk_drew ?_ | refine blk_alloc ?_ _)); refine blk_put (cs := #[.bool false, .bool false, .int .i64 0, .int .i64 0]) ?_ 3 _ rfl; (with_reducible repeat (first | refine blk_drewN ?_ _ | refine blk_drew ?_ | refine blk_alloc ?_ _)); refine blk_put (cs := #[.bool false, .bool false, .int .i64 0, .int .i64 0]) ?_ 2 _ rfl; (with_reducible repeat (first | refine blk_drewN ?_ _ | refine blk_drew ?_ | refine blk_alloc ?_ _)); refine blk_put (cs := #[.bool false, .bool false, .int .i64 0, .int .i64 0]) ?_ 1 _ rfl; (with_reducible repeat (first | refine blk_drewN ?_ _ | refine blk_drew ?_ | refine blk_alloc ?_ _)); refine blk_put (cs := #[.bool false, .bool false, .int .i64 0, .int .i64 0]) ?_ 0 _ rfl; (with_reducible repeat (first | refine blk_drewN ?_ _ | refine blk_drew ?_ | refine blk_alloc ?_ _)); exact BK430.out) Tryd.underlying23 rfl kk) rfl ?_
 exact ⟨pe, pw⟩

end Go.Proofs.YtimgfgambeffeaaDoor.C
