import Derived.Test.YtcalcnfppnbooaaDoorIrEb
import Derived.Test.YtcalcnfppnbooaaDoorIrGl
import Derived.Test.YtcalcnfppnbooaaDoorIrR0
import Derived.Test.YtcalcnfppnbooaaDoorIrR2
import Derived.Test.YtcalcnfppnbooaaDoorIrR4
import Derived.Test.YtcalcnfppnbooaaDoorIrR5
import Derived.Test.YtcalcnfppnbooaaDoorIrR6
-- Written by wip/xprint.py (the session's program over the kit's print).
namespace Go.Proofs.YtcalcnfppnbooaaDoor.R
open Go.RowKit Go.Proofs.YtcalcnfppnbooaaDoorW.PrintWords Go.Proofs.YtcalcnfppnbooaaDoorW.PrintLast Go.Proofs.YtcalcnfppnbooaaDoorW.PrintMore Go.Proofs.Rcg
attribute [local go_sem] max2_int min2_int max_two min_two max_three min_three max_four min_four   -- for this text's walks alone
set_option linter.unusedVariables false
set_option linter.unusedSimpArgs false

/-! ### interval_Refine: function 30 -/
def interval_Refine.j0 : Nat → Bool → Bool → Bool → Int → Int → Bool → Bool → Int → Int → Option (Bool × Bool × Int × Int × Bool × Bool × Int × Int × Bool × Option Int)
 | 0, _, _, _, _, _, _, _, _, _ => none
 | k + 1, x8, x144000, x144001, x144002, x144003, x145000, x145001, x145002, x145003 => if x8 = true then ((interval_clip.f k x144000 x144001 x144002 x144003).bind fun bt200 => ((interval_clip.f k x145000 x145001 x145002 x145003).bind fun bt204 => (some (bt200.1, bt200.2.1, bt200.2.2.1, bt200.2.2.2, bt204.1, bt204.2.1, bt204.2.2.1, bt204.2.2.2, true, none)))) else (some (false, false, 0, 0, false, false, 0, 0, false, none))
def interval_Refine.f (k : Nat) (a0_0 : Bool) (a0_1 : Bool) (a0_2 : Int) (a0_3 : Int) (a1_0 : Bool) (a1_1 : Bool) (a1_2 : Int) (a1_3 : Int) (a2 : ByteArray) : Option (Bool × Bool × Int × Int × Bool × Bool × Int × Int × Bool × Option Int) := (interval_two.f k a0_0 a0_1 a0_2 a0_3 a1_0 a1_1 a1_2 a1_3).bind fun t145 => (if t145.isNone = true then (if a2.toList = ([60] : List UInt8) then ((interval_less.f a0_0 a0_1 a0_2 a0_3 a1_0 a1_1 a1_2 a1_3 1).bind fun bt147 => (interval_Refine.j0 k bt147.2.2.2.2.2.2.2.2 bt147.1 bt147.2.1 bt147.2.2.1 bt147.2.2.2.1 bt147.2.2.2.2.1 bt147.2.2.2.2.2.1 bt147.2.2.2.2.2.2.1 bt147.2.2.2.2.2.2.2.1)) else (if a2.toList = ([60, 61] : List UInt8) then ((interval_less.f a0_0 a0_1 a0_2 a0_3 a1_0 a1_1 a1_2 a1_3 0).bind fun bt156 => (interval_Refine.j0 k bt156.2.2.2.2.2.2.2.2 bt156.1 bt156.2.1 bt156.2.2.1 bt156.2.2.2.1 bt156.2.2.2.2.1 bt156.2.2.2.2.2.1 bt156.2.2.2.2.2.2.1 bt156.2.2.2.2.2.2.2.1)) else (if a2.toList = ([62] : List UInt8) then ((interval_less.f a1_0 a1_1 a1_2 a1_3 a0_0 a0_1 a0_2 a0_3 1).bind fun bt165 => (interval_Refine.j0 k bt165.2.2.2.2.2.2.2.2 bt165.2.2.2.2.1 bt165.2.2.2.2.2.1 bt165.2.2.2.2.2.2.1 bt165.2.2.2.2.2.2.2.1 bt165.1 bt165.2.1 bt165.2.2.1 bt165.2.2.2.1)) else (if a2.toList = ([62, 61] : List UInt8) then ((interval_less.f a1_0 a1_1 a1_2 a1_3 a0_0 a0_1 a0_2 a0_3 0).bind fun bt174 => (interval_Refine.j0 k bt174.2.2.2.2.2.2.2.2 bt174.2.2.2.2.1 bt174.2.2.2.2.2.1 bt174.2.2.2.2.2.2.1 bt174.2.2.2.2.2.2.2.1 bt174.1 bt174.2.1 bt174.2.2.1 bt174.2.2.2.1)) else (if a2.toList = ([61] : List UInt8) then ((interval_meet.f k a0_0 a0_1 a0_2 a0_3 a1_0 a1_1 a1_2 a1_3).bind fun bt183 => (interval_Refine.j0 k bt183.2.2.2.2 bt183.1 bt183.2.1 bt183.2.2.1 bt183.2.2.2.1 bt183.1 bt183.2.1 bt183.2.2.1 bt183.2.2.2.1)) else (if a2.toList = ([33, 61] : List UInt8) then ((interval_Refine_1.f a1_0 a1_1 a1_2 a1_3).bind fun t188 => (if t188 = true then ((interval_without.f k a0_0 a0_1 a0_2 a0_3 a1_2).bind fun bt189 => (interval_Refine.j0 k bt189.2.2.2.2 bt189.1 bt189.2.1 bt189.2.2.1 bt189.2.2.2.1 a1_0 a1_1 a1_2 a1_3)) else ((interval_Refine_1.f a0_0 a0_1 a0_2 a0_3).bind fun t194 => (if t194 = true then ((interval_without.f k a1_0 a1_1 a1_2 a1_3 a0_2).bind fun bt195 => (interval_Refine.j0 k bt195.2.2.2.2 a0_0 a0_1 a0_2 a0_3 bt195.1 bt195.2.1 bt195.2.2.1 bt195.2.2.2.1)) else (interval_Refine.j0 k true a0_0 a0_1 a0_2 a0_3 a1_0 a1_1 a1_2 a1_3))))) else (some (false, false, 0, 0, false, false, 0, 0, false, some 1)))))))) else (some (false, false, 0, 0, false, false, 0, 0, false, some (t145.getD 0))))
theorem interval_Refine.mono_l : ∀ k, (∀ y0 y1 y2 y3 y4 y5 y6 y7 y8, LeO (interval_Refine.j0 k y0 y1 y2 y3 y4 y5 y6 y7 y8) (interval_Refine.j0 (k + 1) y0 y1 y2 y3 y4 y5 y6 y7 y8))
 | 0 => fun _ _ _ _ _ _ _ _ _ r h => by simp [interval_Refine.j0] at h
 | k + 1 => by
  have ih0 := interval_Refine.mono_l k
  intro y0 y1 y2 y3 y4 y5 y6 y7 y8
  unfold interval_Refine.j0
  repeat' first
  | (with_reducible exact ih0 _ _ _ _ _ _ _ _ _)
  | (with_reducible exact interval_clip.mono _ _ _ _ _)
  | (with_reducible exact interval_meet.mono _ _ _ _ _ _ _ _ _)
  | (with_reducible exact interval_two.mono _ _ _ _ _ _ _ _ _)
  | (with_reducible exact interval_without.mono _ _ _ _ _ _)
  | (with_reducible exact LeO.refl _)
  | (with_reducible exact LeO.none _)
  | (with_reducible refine LeO.ite ?_ ?_)
  | (with_reducible refine LeO.bind ?_ (fun _ => ?_))
  | exact ih0 _ _ _ _ _ _ _ _ _
  | exact interval_clip.mono _ _ _ _ _
  | exact interval_meet.mono _ _ _ _ _ _ _ _ _
  | exact interval_two.mono _ _ _ _ _ _ _ _ _
  | exact interval_without.mono _ _ _ _ _ _
  | exact LeO.none _
  | refine LeO.ite ?_ ?_
  | refine LeO.bind ?_ (fun _ => ?_)
theorem interval_Refine.mono : ∀ a0 a1 a2 a3 a4 a5 a6 a7 a8 k, LeO (interval_Refine.f k a0 a1 a2 a3 a4 a5 a6 a7 a8) (interval_Refine.f (k + 1) a0 a1 a2 a3 a4 a5 a6 a7 a8) := by
 intro a0 a1 a2 a3 a4 a5 a6 a7 a8 k
 have ih0 := interval_Refine.mono_l k
 unfold interval_Refine.f
 repeat' first
   | (with_reducible exact ih0 _ _ _ _ _ _ _ _ _)
   | (with_reducible exact interval_clip.mono _ _ _ _ _)
   | (with_reducible exact interval_meet.mono _ _ _ _ _ _ _ _ _)
   | (with_reducible exact interval_two.mono _ _ _ _ _ _ _ _ _)
   | (with_reducible exact interval_without.mono _ _ _ _ _ _)
   | (with_reducible exact LeO.refl _)
   | (with_reducible exact LeO.none _)
   | (with_reducible refine LeO.ite ?_ ?_)
   | (with_reducible refine LeO.bind ?_ (fun _ => ?_))
   | exact ih0 _ _ _ _ _ _ _ _ _
   | exact interval_clip.mono _ _ _ _ _
   | exact interval_meet.mono _ _ _ _ _ _ _ _ _
   | exact interval_two.mono _ _ _ _ _ _ _ _ _
   | exact interval_without.mono _ _ _ _ _ _
   | exact LeO.none _
   | refine LeO.ite ?_ ?_
   | refine LeO.bind ?_ (fun _ => ?_)
def interval_Refine.T26 : Bool × List (List Nat × List Nat) := (true, [([], []), ([0], [0]), ([], []), ([2, 1], [2]), ([1, 3, 0, 1], [1]), ([3, 4, 0, 1, 2, 3, 4], [3]), ([5, 0, 1, 2, 3, 4, 5], []), ([6, 0, 1, 2, 3, 4, 5, 6], [])])
def interval_Refine.B26 : List Nat := [0, 1, 0, 7, 15, 31, 63, 127]
theorem interval_Refine.tab26 : rtab .any (opsOf Tryd.f30 26) = interval_Refine.T26 := by kernel_rfl
theorem interval_Refine.bits26 : waitsOk interval_Refine.T26.2 interval_Refine.B26 = true := by kernel_rfl
set_option maxHeartbeats 8000000 in
set_option maxRecDepth 100000 in
theorem interval_Refine.calls [EA] (k : Nat) (a0_0 : Bool) (a0_1 : Bool) (a0_2 : Int) (a0_3 : Int) (a1_0 : Bool) (a1_1 : Bool) (a1_2 : Int) (a1_3 : Int) (a2 : ByteArray) (r1 : Bool) (r2 : Bool) (r3 : Int) (r4 : Int) (r5 : Bool) (r6 : Bool) (r7 : Int) (r8 : Int) (r9 : Bool) (r10 : Option Int) (w : World) (h : interval_Refine.f k a0_0 a0_1 a0_2 a0_3 a1_0 a1_1 a1_2 a1_3 a2 = some (r1, r2, r3, r4, r5, r6, r7, r8, r9, r10)) (h1_ : ErrAt 1 2 w) (h2_ : ErrAt 2 1 w) (h3_ : ErrAt 3 0 w) :
  Calls Tryd.prog 30 #[.agg #[.bool a0_0, .bool a0_1, .int .i64 a0_2, .int .i64 a0_3], .agg #[.bool a1_0, .bool a1_1, .int .i64 a1_2, .int .i64 a1_3], .string a2] w fun e w' => e = .returned (.tuple #[.agg #[.bool r1, .bool r2, .int .i64 r3, .int .i64 r4], .agg #[.bool r5, .bool r6, .int .i64 r7, .int .i64 r8], .bool r9, errW r10]) ∧ Below w.heap.size w w' := by
 have hE1 := am h1_
 clear h1_
 have hE2 := am h2_
 clear h2_
 have hE3 := am h3_
 clear h3_
 have hu49 := Tryd.underlying49
 have hu32 := Tryd.underlying32
 have HB := am (Below.refl w.heap.size w)
 have H : ((interval_two.f k a0_0 a0_1 a0_2 a0_3 a1_0 a1_1 a1_2 a1_3).bind fun t145 => (if t145.isNone = true then (if a2.toList = ([60] : List UInt8) then ((interval_less.f a0_0 a0_1 a0_2 a0_3 a1_0 a1_1 a1_2 a1_3 1).bind fun bt147 => (interval_Refine.j0 k bt147.2.2.2.2.2.2.2.2 bt147.1 bt147.2.1 bt147.2.2.1 bt147.2.2.2.1 bt147.2.2.2.2.1 bt147.2.2.2.2.2.1 bt147.2.2.2.2.2.2.1 bt147.2.2.2.2.2.2.2.1)) else (if a2.toList = ([60, 61] : List UInt8) then ((interval_less.f a0_0 a0_1 a0_2 a0_3 a1_0 a1_1 a1_2 a1_3 0).bind fun bt156 => (interval_Refine.j0 k bt156.2.2.2.2.2.2.2.2 bt156.1 bt156.2.1 bt156.2.2.1 bt156.2.2.2.1 bt156.2.2.2.2.1 bt156.2.2.2.2.2.1 bt156.2.2.2.2.2.2.1 bt156.2.2.2.2.2.2.2.1)) else (if a2.toList = ([62] : List UInt8) then ((interval_less.f a1_0 a1_1 a1_2 a1_3 a0_0 a0_1 a0_2 a0_3 1).bind fun bt165 => (interval_Refine.j0 k bt165.2.2.2.2.2.2.2.2 bt165.2.2.2.2.1 bt165.2.2.2.2.2.1 bt165.2.2.2.2.2.2.1 bt165.2.2.2.2.2.2.2.1 bt165.1 bt165.2.1 bt165.2.2.1 bt165.2.2.2.1)) else (if a2.toList = ([62, 61] : List UInt8) then ((interval_less.f a1_0 a1_1 a1_2 a1_3 a0_0 a0_1 a0_2 a0_3 0).bind fun bt174 => (interval_Refine.j0 k bt174.2.2.2.2.2.2.2.2 bt174.2.2.2.2.1 bt174.2.2.2.2.2.1 bt174.2.2.2.2.2.2.1 bt174.2.2.2.2.2.2.2.1 bt174.1 bt174.2.1 bt174.2.2.1 bt174.2.2.2.1)) else (if a2.toList = ([61] : List UInt8) then ((interval_meet.f k a0_0 a0_1 a0_2 a0_3 a1_0 a1_1 a1_2 a1_3).bind fun bt183 => (interval_Refine.j0 k bt183.2.2.2.2 bt183.1 bt183.2.1 bt183.2.2.1 bt183.2.2.2.1 bt183.1 bt183.2.1 bt183.2.2.1 bt183.2.2.2.1)) else (if a2.toList = ([33, 61] : List UInt8) then ((interval_Refine_1.f a1_0 a1_1 a1_2 a1_3).bind fun t188 => (if t188 = true then ((interval_without.f k a0_0 a0_1 a0_2 a0_3 a1_2).bind fun bt189 => (interval_Refine.j0 k bt189.2.2.2.2 bt189.1 bt189.2.1 bt189.2.2.1 bt189.2.2.2.1 a1_0 a1_1 a1_2 a1_3)) else ((interval_Refine_1.f a0_0 a0_1 a0_2 a0_3).bind fun t194 => (if t194 = true then ((interval_without.f k a1_0 a1_1 a1_2 a1_3 a0_2).bind fun bt195 => (interval_Refine.j0 k bt195.2.2.2.2 a0_0 a0_1 a0_2 a0_3 bt195.1 bt195.2.1 bt195.2.2.1 bt195.2.2.2.1)) else (interval_Refine.j0 k true a0_0 a0_1 a0_2 a0_3 a1_0 a1_1 a1_2 a1_3))))) else (some (false, false, 0, 0, false, false, 0, 0, false, some 1)))))))) else (some (false, false, 0, 0, false, false, 0, 0, false, some (t145.getD 0))))) = some (r1, r2, r3, r4, r5, r6, r7, r8, r9, r10) := h
 clear h
 replace H := Option.bind_eq_some_iff.mp H
 obtain ⟨t145, A40, H⟩ := H
 replace H : (if t145.isNone = true then (if a2.toList = ([60] : List UInt8) then ((interval_less.f a0_0 a0_1 a0_2 a0_3 a1_0 a1_1 a1_2 a1_3 1).bind fun bt147 => (interval_Refine.j0 k bt147.2.2.2.2.2.2.2.2 bt147.1 bt147.2.1 bt147.2.2.1 bt147.2.2.2.1 bt147.2.2.2.2.1 bt147.2.2.2.2.2.1 bt147.2.2.2.2.2.2.1 bt147.2.2.2.2.2.2.2.1)) else (if a2.toList = ([60, 61] : List UInt8) then ((interval_less.f a0_0 a0_1 a0_2 a0_3 a1_0 a1_1 a1_2 a1_3 0).bind fun bt156 => (interval_Refine.j0 k bt156.2.2.2.2.2.2.2.2 bt156.1 bt156.2.1 bt156.2.2.1 bt156.2.2.2.1 bt156.2.2.2.2.1 bt156.2.2.2.2.2.1 bt156.2.2.2.2.2.2.1 bt156.2.2.2.2.2.2.2.1)) else (if a2.toList = ([62] : List UInt8) then ((interval_less.f a1_0 a1_1 a1_2 a1_3 a0_0 a0_1 a0_2 a0_3 1).bind fun bt165 => (interval_Refine.j0 k bt165.2.2.2.2.2.2.2.2 bt165.2.2.2.2.1 bt165.2.2.2.2.2.1 bt165.2.2.2.2.2.2.1 bt165.2.2.2.2.2.2.2.1 bt165.1 bt165.2.1 bt165.2.2.1 bt165.2.2.2.1)) else (if a2.toList = ([62, 61] : List UInt8) then ((interval_less.f a1_0 a1_1 a1_2 a1_3 a0_0 a0_1 a0_2 a0_3 0).bind fun bt174 => (interval_Refine.j0 k bt174.2.2.2.2.2.2.2.2 bt174.2.2.2.2.1 bt174.2.2.2.2.2.1 bt174.2.2.2.2.2.2.1 bt174.2.2.2.2.2.2.2.1 bt174.1 bt174.2.1 bt174.2.2.1 bt174.2.2.2.1)) else (if a2.toList = ([61] : List UInt8) then ((interval_meet.f k a0_0 a0_1 a0_2 a0_3 a1_0 a1_1 a1_2 a1_3).bind fun bt183 => (interval_Refine.j0 k bt183.2.2.2.2 bt183.1 bt183.2.1 bt183.2.2.1 bt183.2.2.2.1 bt183.1 bt183.2.1 bt183.2.2.1 bt183.2.2.2.1)) else (if a2.toList = ([33, 61] : List UInt8) then ((interval_Refine_1.f a1_0 a1_1 a1_2 a1_3).bind fun t188 => (if t188 = true then ((interval_without.f k a0_0 a0_1 a0_2 a0_3 a1_2).bind fun bt189 => (interval_Refine.j0 k bt189.2.2.2.2 bt189.1 bt189.2.1 bt189.2.2.1 bt189.2.2.2.1 a1_0 a1_1 a1_2 a1_3)) else ((interval_Refine_1.f a0_0 a0_1 a0_2 a0_3).bind fun t194 => (if t194 = true then ((interval_without.f k a1_0 a1_1 a1_2 a1_3 a0_2).bind fun bt195 => (interval_Refine.j0 k bt195.2.2.2.2 a0_0 a0_1 a0_2 a0_3 bt195.1 bt195.2.1 bt195.2.2.1 bt195.2.2.2.1)) else (interval_Refine.j0 k true a0_0 a0_1 a0_2 a0_3 a1_0 a1_1 a1_2 a1_3))))) else (some (false, false, 0, 0, false, false, 0, 0, false, some 1)))))))) else (some (false, false, 0, 0, false, false, 0, 0, false, some (t145.getD 0)))) = some (r1, r2, r3, r4, r5, r6, r7, r8, r9, r10) := H
 have A4 := am A40
 clear A40
 rcases t145 with _ | q146
 ·have H1 : (if a2.toList = ([60] : List UInt8) then ((interval_less.f a0_0 a0_1 a0_2 a0_3 a1_0 a1_1 a1_2 a1_3 1).bind fun bt147 => (interval_Refine.j0 k bt147.2.2.2.2.2.2.2.2 bt147.1 bt147.2.1 bt147.2.2.1 bt147.2.2.2.1 bt147.2.2.2.2.1 bt147.2.2.2.2.2.1 bt147.2.2.2.2.2.2.1 bt147.2.2.2.2.2.2.2.1)) else (if a2.toList = ([60, 61] : List UInt8) then ((interval_less.f a0_0 a0_1 a0_2 a0_3 a1_0 a1_1 a1_2 a1_3 0).bind fun bt156 => (interval_Refine.j0 k bt156.2.2.2.2.2.2.2.2 bt156.1 bt156.2.1 bt156.2.2.1 bt156.2.2.2.1 bt156.2.2.2.2.1 bt156.2.2.2.2.2.1 bt156.2.2.2.2.2.2.1 bt156.2.2.2.2.2.2.2.1)) else (if a2.toList = ([62] : List UInt8) then ((interval_less.f a1_0 a1_1 a1_2 a1_3 a0_0 a0_1 a0_2 a0_3 1).bind fun bt165 => (interval_Refine.j0 k bt165.2.2.2.2.2.2.2.2 bt165.2.2.2.2.1 bt165.2.2.2.2.2.1 bt165.2.2.2.2.2.2.1 bt165.2.2.2.2.2.2.2.1 bt165.1 bt165.2.1 bt165.2.2.1 bt165.2.2.2.1)) else (if a2.toList = ([62, 61] : List UInt8) then ((interval_less.f a1_0 a1_1 a1_2 a1_3 a0_0 a0_1 a0_2 a0_3 0).bind fun bt174 => (interval_Refine.j0 k bt174.2.2.2.2.2.2.2.2 bt174.2.2.2.2.1 bt174.2.2.2.2.2.1 bt174.2.2.2.2.2.2.1 bt174.2.2.2.2.2.2.2.1 bt174.1 bt174.2.1 bt174.2.2.1 bt174.2.2.2.1)) else (if a2.toList = ([61] : List UInt8) then ((interval_meet.f k a0_0 a0_1 a0_2 a0_3 a1_0 a1_1 a1_2 a1_3).bind fun bt183 => (interval_Refine.j0 k bt183.2.2.2.2 bt183.1 bt183.2.1 bt183.2.2.1 bt183.2.2.2.1 bt183.1 bt183.2.1 bt183.2.2.1 bt183.2.2.2.1)) else (if a2.toList = ([33, 61] : List UInt8) then ((interval_Refine_1.f a1_0 a1_1 a1_2 a1_3).bind fun t188 => (if t188 = true then ((interval_without.f k a0_0 a0_1 a0_2 a0_3 a1_2).bind fun bt189 => (interval_Refine.j0 k bt189.2.2.2.2 bt189.1 bt189.2.1 bt189.2.2.1 bt189.2.2.2.1 a1_0 a1_1 a1_2 a1_3)) else ((interval_Refine_1.f a0_0 a0_1 a0_2 a0_3).bind fun t194 => (if t194 = true then ((interval_without.f k a1_0 a1_1 a1_2 a1_3 a0_2).bind fun bt195 => (interval_Refine.j0 k bt195.2.2.2.2 a0_0 a0_1 a0_2 a0_3 bt195.1 bt195.2.1 bt195.2.2.1 bt195.2.2.2.1)) else (interval_Refine.j0 k true a0_0 a0_1 a0_2 a0_3 a1_0 a1_1 a1_2 a1_3))))) else (some (false, false, 0, 0, false, false, 0, 0, false, some 1)))))))) = some (r1, r2, r3, r4, r5, r6, r7, r8, r9, r10) := by rw [if_pos (show (none : Option Int).isNone = true by rfl)] at H; exact H
  clear H
  have H := H1
  clear H1
  try simp only [errW_none, errW_some]
  have HC5 := am H
  clear H
  go_enter Tryd.func30, Tryd.ntmps30
  go_upto_block 0 with (first | ((with_reducible refine gate_dst (N := 3) rfl ?_); refine box_event ?hg (N := 3) ?hd (cs := #[.bool a0_0, .bool a0_1, .int .i64 a0_2, .int .i64 a0_3]) (t := 49) ?hr ?_; (case hd => rfl); (case hg => rfl); (case hr => first | (go_simp; done) | (go_simp; rfl)); intro gb141 hg w6 hbox hb; have n0_ := am (below_step pw hb); have n1_ := am (hbox); have n2_ := am ((by rw [hg]; exact (below_size pw) : w.heap.size ≤ gb141)); have n3_ := am ((by rw [hg]; exact (below_size pw) : w.heap.size ≤ gb141)); clear HB; have HB := n0_; have BK141 := n1_; have GW141 := n2_; have GE141 := n3_; clear n0_ n1_ n2_ n3_; clear hb hbox hg) | ((with_reducible refine gate_dst (N := 4) rfl ?_); refine box_event ?hg (N := 4) ?hd (cs := #[.bool a1_0, .bool a1_1, .int .i64 a1_2, .int .i64 a1_3]) (t := 49) ?hr ?_; (case hd => rfl); (case hg => rfl); (case hr => first | (go_simp; done) | (go_simp; rfl)); intro gb142 hg w7 hbox hb; have n0_ := bb BK141 hb; have n1_ := am (below_step pw hb); have n2_ := am (hbox); have n3_ := am ((by rw [hg]; exact (below_size pw) : w.heap.size ≤ gb142)); have n4_ := am ((by rw [hg]; exact (below_size pw) : w.heap.size ≤ gb142)); have n5_ := am ((by rw [hg]; exact Nat.ne_of_lt (blk_lt pk) : gb141 ≠ gb142)); have n6_ := am ((by rw [hg]; exact Nat.ne_of_gt (blk_lt pk) : gb142 ≠ gb141)); clear BK141; clear HB; have BK141 := n0_; have HB := n1_; have BK142 := n2_; have GW142 := n3_; have GE142 := n4_; have NB141_142 := n5_; have NB142_141 := n6_; clear n0_ n1_ n2_ n3_ n4_ n5_ n6_; clear hb hbox hg) | ((with_reducible refine gate_dst (N := 6) rfl ?_); refine box_event ?hg (N := 6) ?hd (cs := #[.bool false, .bool false, .int .i64 0, .int .i64 0]) (t := 49) ?hr ?_; (case hd => rfl); (case hg => rfl); (case hr => first | (go_simp; done) | (go_simp; rfl)); intro gb143 hg w8 hbox hb; have n0_ := bb BK141 hb; have n1_ := bb BK142 hb; have n2_ := am (below_step pw hb); have n3_ := am (hbox); have n4_ := am ((by rw [hg]; exact (below_size pw) : w.heap.size ≤ gb143)); have n5_ := am ((by rw [hg]; exact (below_size pw) : w.heap.size ≤ gb143)); have n6_ := am ((by rw [hg]; exact Nat.ne_of_lt (blk_lt pk) : gb141 ≠ gb143)); have n7_ := am ((by rw [hg]; exact Nat.ne_of_gt (blk_lt pk) : gb143 ≠ gb141)); have n8_ := am ((by rw [hg]; exact Nat.ne_of_lt (blk_lt pk) : gb142 ≠ gb143)); have n9_ := am ((by rw [hg]; exact Nat.ne_of_gt (blk_lt pk) : gb143 ≠ gb142)); clear BK141; clear BK142; clear HB; have BK141 := n0_; have BK142 := n1_; have HB := n2_; have BK143 := n3_; have GW143 := n4_; have GE143 := n5_; have NB141_143 := n6_; have NB143_141 := n7_; have NB142_143 := n8_; have NB143_142 := n9_; clear n0_ n1_ n2_ n3_ n4_ n5_ n6_ n7_ n8_ n9_; clear hb hbox hg) | ((with_reducible refine gate_dst (N := 7) rfl ?_); refine box_event ?hg (N := 7) ?hd (cs := #[.bool false, .bool false, .int .i64 0, .int .i64 0]) (t := 49) ?hr ?_; (case hd => rfl); (case hg => rfl); (case hr => first | (go_simp; done) | (go_simp; rfl)); intro gb144 hg w9 hbox hb; have n0_ := bb BK141 hb; have n1_ := bb BK142 hb; have n2_ := bb BK143 hb; have n3_ := am (below_step pw hb); have n4_ := am (hbox); have n5_ := am ((by rw [hg]; exact (below_size pw) : w.heap.size ≤ gb144)); have n6_ := am ((by rw [hg]; exact (below_size pw) : w.heap.size ≤ gb144)); have n7_ := am ((by rw [hg]; exact Nat.ne_of_lt (blk_lt pk) : gb141 ≠ gb144)); have n8_ := am ((by rw [hg]; exact Nat.ne_of_gt (blk_lt pk) : gb144 ≠ gb141)); have n9_ := am ((by rw [hg]; exact Nat.ne_of_lt (blk_lt pk) : gb142 ≠ gb144)); have n10_ := am ((by rw [hg]; exact Nat.ne_of_gt (blk_lt pk) : gb144 ≠ gb142)); have n11_ := am ((by rw [hg]; exact Nat.ne_of_lt (blk_lt pk) : gb143 ≠ gb144)); have n12_ := am ((by rw [hg]; exact Nat.ne_of_gt (blk_lt pk) : gb144 ≠ gb143)); clear BK141; clear BK142; clear BK143; clear HB; have BK141 := n0_; have BK142 := n1_; have BK143 := n2_; have HB := n3_; have BK144 := n4_; have GW144 := n5_; have GE144 := n6_; have NB141_144 := n7_; have NB144_141 := n8_; have NB142_144 := n9_; have NB144_142 := n10_; have NB143_144 := n11_; have NB144_143 := n12_; clear n0_ n1_ n2_ n3_ n4_ n5_ n6_ n7_ n8_ n9_ n10_ n11_ n12_; clear hb hbox hg; have hnb10 := NB141_142.out; have hnc10 := NB142_141.out; have hnb11 := NB141_143.out; have hnc11 := NB143_141.out; have hnb12 := NB141_144.out; have hnc12 := NB144_141.out; have hcz13_0 : w9.cell? ⟨gb141, 0, none⟩ = some (.bool a0_0) := bc BK141 0; have hcz13_1 : w9.cell? ⟨gb141, 1, none⟩ = some (.bool a0_1) := bc BK141 1; have hcz13_2 : w9.cell? ⟨gb141, 2, none⟩ = some (.int .i64 a0_2) := bc BK141 2; have hcz13_3 : w9.cell? ⟨gb141, 3, none⟩ = some (.int .i64 a0_3) := bc BK141 3; have hfz13_0 := blk_frozen BK141.out 0; have hfz13_1 := blk_frozen BK141.out 1; have hfz13_2 := blk_frozen BK141.out 2; have hfz13_3 := blk_frozen BK141.out 3; have hnb14 := NB142_143.out; have hnc14 := NB143_142.out; have hnb15 := NB142_144.out; have hnc15 := NB144_142.out; have hcz16_0 : w9.cell? ⟨gb142, 0, none⟩ = some (.bool a1_0) := bc BK142 0; have hcz16_1 : w9.cell? ⟨gb142, 1, none⟩ = some (.bool a1_1) := bc BK142 1; have hcz16_2 : w9.cell? ⟨gb142, 2, none⟩ = some (.int .i64 a1_2) := bc BK142 2; have hcz16_3 : w9.cell? ⟨gb142, 3, none⟩ = some (.int .i64 a1_3) := bc BK142 3; have hfz16_0 := blk_frozen BK142.out 0; have hfz16_1 := blk_frozen BK142.out 1; have hfz16_2 := blk_frozen BK142.out 2; have hfz16_3 := blk_frozen BK142.out 3) | ((with_reducible refine gate_callee (f := 95) rfl ?_); refine goesL_ (some 14) rfl rfl Tryd.func95 kk rfl #[.agg #[.bool a0_0, .bool a0_1, .int .i64 a0_2, .int .i64 a0_3], .agg #[.bool a1_0, .bool a1_1, .int .i64 a1_2, .int .i64 a1_3]] rfl (by (try simp only [List.map_toArray, List.map_cons, List.map_nil]); first | done | rfl | (simp only [List.length_drop, List.length_take]; rfl)) ?_; (with_reducible refine (interval_two.calls k a0_0 a0_1 a0_2 a0_3 a1_0 a1_1 a1_2 a1_3 none _ A4.out (am (ErrAt.below hE2.out pw)).out (am (ErrAt.below hE3.out pw)).out).mono ?_); rintro e w17 ⟨rfl, hb⟩; refine ⟨_, rfl, ?_⟩; have n0_ := bb BK141 hb; have n1_ := bb BK142 hb; have n2_ := bb BK143 hb; have n3_ := bb BK144 hb; have n4_ := am (below_step pw hb); clear BK141; clear BK142; clear BK143; clear BK144; clear HB; have BK141 := n0_; have BK142 := n1_; have BK143 := n2_; have BK144 := n3_; have HB := n4_; clear n0_ n1_ n2_ n3_ n4_; (try clear hb); (try clear hb2); (try clear hk); (try clear hi); (try simp only [errW_none, errW_some])))
  (try simp only [Act.put, List.setIfInBounds_toArray, List.set_cons_zero, List.set_cons_succ])
  go_cut [8] (fun v8 wc => ∃ (kq : Nat) (x8_4 : Bool) (x144000_4 : Bool) (x144001_4 : Bool) (x144002_4 : Int) (x144003_4 : Int) (x145000_4 : Bool) (x145001_4 : Bool) (x145002_4 : Int) (x145003_4 : Int), v8 = .bool x8_4 ∧ Aside0 (interval_Refine.j0 kq x8_4 x144000_4 x144001_4 x144002_4 x144003_4 x145000_4 x145001_4 x145002_4 x145003_4 = some (r1, r2, r3, r4, r5, r6, r7, r8, r9, r10)) ∧ Aside0 (kq ≤ k) ∧ Aside0 (wc.heap[gb141]? = some (.cells #[.bool a0_0, .bool a0_1, .int .i64 a0_2, .int .i64 a0_3] 49 (0, 0))) ∧ Aside0 (wc.heap[gb142]? = some (.cells #[.bool a1_0, .bool a1_1, .int .i64 a1_2, .int .i64 a1_3] 49 (0, 0))) ∧ Aside0 (wc.heap[gb143]? = some (.cells #[.bool x144000_4, .bool x144001_4, .int .i64 x144002_4, .int .i64 x144003_4] 49 (0, 0))) ∧ Aside0 (wc.heap[gb144]? = some (.cells #[.bool x145000_4, .bool x145001_4, .int .i64 x145002_4, .int .i64 x145003_4] 49 (0, 0))) ∧ Aside0 (Below w.heap.size w wc))
  case first =>
   have H := HC5.out
   clear HC5
   by_cases c18 : a2.toList = ([60] : List UInt8)
   ·rw [if_pos c18] at H
    have c18b0 : (a2.toList == ([60] : List UInt8)) = true := beq_iff_eq.mpr c18
    have c18b1 : (a2.toList != ([60] : List UInt8)) = false := bne_eq_false_iff_eq.mpr c18
    clear c18
    (first | rw [c18b0] | (simp only [i64_w, i32_w]; rw [c18b0]) | skip)
    replace H := Option.bind_eq_some_iff.mp H
    obtain ⟨⟨t147, t148, t149, t150, t151, t152, t153, t154, t155⟩, A190, H⟩ := H
    replace H : (interval_Refine.j0 k t155 t147 t148 t149 t150 t151 t152 t153 t154) = some (r1, r2, r3, r4, r5, r6, r7, r8, r9, r10) := H
    have A19 := am A190
    clear A190
    have H' := am H
    clear H
    have hnb20 := NB141_142.out
    have hnc20 := NB142_141.out
    have hnb21 := NB141_143.out
    have hnc21 := NB143_141.out
    have hnb22 := NB141_144.out
    have hnc22 := NB144_141.out
    have hcz23_0 : w17.cell? ⟨gb141, 0, none⟩ = some (.bool a0_0) := bc BK141 0
    have hcz23_1 : w17.cell? ⟨gb141, 1, none⟩ = some (.bool a0_1) := bc BK141 1
    have hcz23_2 : w17.cell? ⟨gb141, 2, none⟩ = some (.int .i64 a0_2) := bc BK141 2
    have hcz23_3 : w17.cell? ⟨gb141, 3, none⟩ = some (.int .i64 a0_3) := bc BK141 3
    have hfz23_0 := blk_frozen BK141.out 0
    have hfz23_1 := blk_frozen BK141.out 1
    have hfz23_2 := blk_frozen BK141.out 2
    have hfz23_3 := blk_frozen BK141.out 3
    have hnb24 := NB142_143.out
    have hnc24 := NB143_142.out
    have hnb25 := NB142_144.out
    have hnc25 := NB144_142.out
    have hcz26_0 : w17.cell? ⟨gb142, 0, none⟩ = some (.bool a1_0) := bc BK142 0
    have hcz26_1 : w17.cell? ⟨gb142, 1, none⟩ = some (.bool a1_1) := bc BK142 1
    have hcz26_2 : w17.cell? ⟨gb142, 2, none⟩ = some (.int .i64 a1_2) := bc BK142 2
    have hcz26_3 : w17.cell? ⟨gb142, 3, none⟩ = some (.int .i64 a1_3) := bc BK142 3
    have hfz26_0 := blk_frozen BK142.out 0
    have hfz26_1 := blk_frozen BK142.out 1
    have hfz26_2 := blk_frozen BK142.out 2
    have hfz26_3 := blk_frozen BK142.out 3
    go_wp2_with (first | ((with_reducible refine gate_callee (f := 96) rfl ?_); refine goesL_ (some 29) rfl rfl Tryd.func96 kk rfl #[.agg #[.bool a0_0, .bool a0_1, .int .i64 a0_2, .int .i64 a0_3], .agg #[.bool a1_0, .bool a1_1, .int .i64 a1_2, .int .i64 a1_3], .int .i64 1] rfl (by (try simp only [List.map_toArray, List.map_cons, List.map_nil]); first | done | rfl | (simp only [List.length_drop, List.length_take]; rfl)) ?_; (with_reducible refine (interval_less.calls a0_0 a0_1 a0_2 a0_3 a1_0 a1_1 a1_2 a1_3 1 t147 t148 t149 t150 t151 t152 t153 t154 t155 _ A19.out).mono ?_); rintro e w27 ⟨rfl, hb⟩; refine ⟨_, rfl, ?_⟩; have n0_ := bb BK141 hb; have n1_ := bb BK142 hb; have n2_ := bb BK143 hb; have n3_ := bb BK144 hb; have n4_ := am (below_step pw hb); clear BK141; clear BK142; clear BK143; clear BK144; clear HB; have BK141 := n0_; have BK142 := n1_; have BK143 := n2_; have BK144 := n3_; have HB := n4_; clear n0_ n1_ n2_ n3_ n4_; (try clear hb); (try clear hb2); (try clear hk); (try clear hi); have hnb28 := NB143_144.out; have hnc28 := NB144_143.out; have hcz29_0 : w27.cell? ⟨gb143, 0, none⟩ = some (.bool false) := bc BK143 0; have hcz29_1 : w27.cell? ⟨gb143, 1, none⟩ = some (.bool false) := bc BK143 1; have hcz29_2 : w27.cell? ⟨gb143, 2, none⟩ = some (.int .i64 0) := bc BK143 2; have hcz29_3 : w27.cell? ⟨gb143, 3, none⟩ = some (.int .i64 0) := bc BK143 3; have hfz29_0 := blk_frozen BK143.out 0; have hfz29_1 := blk_frozen BK143.out 1; have hfz29_2 := blk_frozen BK143.out 2; have hfz29_3 := blk_frozen BK143.out 3; have hcz30_0 : w27.cell? ⟨gb144, 0, none⟩ = some (.bool false) := bc BK144 0; have hcz30_1 : w27.cell? ⟨gb144, 1, none⟩ = some (.bool false) := bc BK144 1; have hcz30_2 : w27.cell? ⟨gb144, 2, none⟩ = some (.int .i64 0) := bc BK144 2; have hcz30_3 : w27.cell? ⟨gb144, 3, none⟩ = some (.int .i64 0) := bc BK144 3; have hfz30_0 := blk_frozen BK144.out 0; have hfz30_1 := blk_frozen BK144.out 1; have hfz30_2 := blk_frozen BK144.out 2; have hfz30_3 := blk_frozen BK144.out 3))
    go_meet
    case rel => exact ⟨_, (t155), (t147), (t148), (t149), (t150), (t151), (t152), (t153), (t154), pr, H', ⟨by first | omega | exact Nat.le_refl _⟩, ⟨by (with_reducible repeat (first | refine blk_drewN ?_ _ | refine blk_drew ?_ | refine blk_alloc ?_ _)); refine blk_far ?_ NB141_144.out _; (with_reducible repeat (first | refine blk_drewN ?_ _ | refine blk_drew ?_ | refine blk_alloc ?_ _)); refine blk_far ?_ NB141_144.out _; (with_reducible repeat (first | refine blk_drewN ?_ _ | refine blk_drew ?_ | refine blk_alloc ?_ _)); refine blk_far ?_ NB141_144.out _; (with_reducible repeat (first | refine blk_drewN ?_ _ | refine blk_drew ?_ | refine blk_alloc ?_ _)); refine blk_far ?_ NB141_144.out _; (with_reducible repeat (first | refine blk_drewN ?_ _ | refine blk_drew ?_ | refine blk_alloc ?_ _)); refine blk_far ?_ NB141_143.out _; (with_reducible repeat (first | refine blk_drewN ?_ _ | refine blk_drew ?_ | refine blk_alloc ?_ _)); refine blk_far ?_ NB141_143.out _; (with_reducible repeat (first | refine blk_drewN ?_ _ | refine blk_drew ?_ | refine blk_alloc ?_ _)); refine blk_far ?_ NB141_143.out _; (with_reducible repeat (first | refine blk_drewN ?_ _ | refine blk_drew ?_ | refine blk_alloc ?_ _)); refine blk_far ?_ NB141_143.out _; (with_reducible repeat (first | refine blk_drewN ?_ _ | refine blk_drew ?_ | refine blk_alloc ?_ _)); exact BK141.out⟩, ⟨by (with_reducible repeat (first | refine blk_drewN ?_ _ | refine blk_drew ?_ | refine blk_alloc ?_ _)); refine blk_far ?_ NB142_144.out _; (with_reducible repeat (first | refine blk_drewN ?_ _ | refine blk_drew ?_ | refine blk_alloc ?_ _)); refine blk_far ?_ NB142_144.out _; (with_reducible repeat (first | refine blk_drewN ?_ _ | refine blk_drew ?_ | refine blk_alloc ?_ _)); refine blk_far ?_ NB142_144.out _; (with_reducible repeat (first | refine blk_drewN ?_ _ | refine blk_drew ?_ | refine blk_alloc ?_ _)); refine blk_far ?_ NB142_144.out _; (with_reducible repeat (first | refine blk_drewN ?_ _ | refine blk_drew ?_ | refine blk_alloc ?_ _)); refine blk_far ?_ NB142_143.out _; (with_reducible repeat (first | refine blk_drewN ?_ _ | refine blk_drew ?_ | refine blk_alloc ?_ _)); refine blk_far ?_ NB142_143.out _; (with_reducible repeat (first | refine blk_drewN ?_ _ | refine blk_drew ?_ | refine blk_alloc ?_ _)); refine blk_far ?_ NB142_143.out _; (with_reducible repeat (first | refine blk_drewN ?_ _ | refine blk_drew ?_ | refine blk_alloc ?_ _)); refine blk_far ?_ NB142_143.out _; (with_reducible repeat (first | refine blk_drewN ?_ _ | refine blk_drew ?_ | refine blk_alloc ?_ _)); exact BK142.out⟩, ⟨by (with_reducible repeat (first | refine blk_drewN ?_ _ | refine blk_drew ?_ | refine blk_alloc ?_ _)); refine blk_far ?_ NB143_144.out _; (with_reducible repeat (first | refine blk_drewN ?_ _ | refine blk_drew ?_ | refine blk_alloc ?_ _)); refine blk_far ?_ NB143_144.out _; (with_reducible repeat (first | refine blk_drewN ?_ _ | refine blk_drew ?_ | refine blk_alloc ?_ _)); refine blk_far ?_ NB143_144.out _; (with_reducible repeat (first | refine blk_drewN ?_ _ | refine blk_drew ?_ | refine blk_alloc ?_ _)); refine blk_far ?_ NB143_144.out _; (with_reducible repeat (first | refine blk_drewN ?_ _ | refine blk_drew ?_ | refine blk_alloc ?_ _)); refine blk_put (cs := #[.bool t147, .bool t148, .int .i64 t149, .int .i64 0]) ?_ 3 _ rfl; (with_reducible repeat (first | refine blk_drewN ?_ _ | refine blk_drew ?_ | refine blk_alloc ?_ _)); refine blk_put (cs := #[.bool t147, .bool t148, .int .i64 0, .int .i64 0]) ?_ 2 _ rfl; (with_reducible repeat (first | refine blk_drewN ?_ _ | refine blk_drew ?_ | refine blk_alloc ?_ _)); refine blk_put (cs := #[.bool t147, .bool false, .int .i64 0, .int .i64 0]) ?_ 1 _ rfl; (with_reducible repeat (first | refine blk_drewN ?_ _ | refine blk_drew ?_ | refine blk_alloc ?_ _)); refine blk_put (cs := #[.bool false, .bool false, .int .i64 0, .int .i64 0]) ?_ 0 _ rfl; (with_reducible repeat (first | refine blk_drewN ?_ _ | refine blk_drew ?_ | refine blk_alloc ?_ _)); exact BK143.out⟩, ⟨by (with_reducible repeat (first | refine blk_drewN ?_ _ | refine blk_drew ?_ | refine blk_alloc ?_ _)); refine blk_put (cs := #[.bool t151, .bool t152, .int .i64 t153, .int .i64 0]) ?_ 3 _ rfl; (with_reducible repeat (first | refine blk_drewN ?_ _ | refine blk_drew ?_ | refine blk_alloc ?_ _)); refine blk_put (cs := #[.bool t151, .bool t152, .int .i64 0, .int .i64 0]) ?_ 2 _ rfl; (with_reducible repeat (first | refine blk_drewN ?_ _ | refine blk_drew ?_ | refine blk_alloc ?_ _)); refine blk_put (cs := #[.bool t151, .bool false, .int .i64 0, .int .i64 0]) ?_ 1 _ rfl; (with_reducible repeat (first | refine blk_drewN ?_ _ | refine blk_drew ?_ | refine blk_alloc ?_ _)); refine blk_put (cs := #[.bool false, .bool false, .int .i64 0, .int .i64 0]) ?_ 0 _ rfl; (with_reducible repeat (first | refine blk_drewN ?_ _ | refine blk_drew ?_ | refine blk_alloc ?_ _)); refine blk_far ?_ NB144_143.out _; (with_reducible repeat (first | refine blk_drewN ?_ _ | refine blk_drew ?_ | refine blk_alloc ?_ _)); refine blk_far ?_ NB144_143.out _; (with_reducible repeat (first | refine blk_drewN ?_ _ | refine blk_drew ?_ | refine blk_alloc ?_ _)); refine blk_far ?_ NB144_143.out _; (with_reducible repeat (first | refine blk_drewN ?_ _ | refine blk_drew ?_ | refine blk_alloc ?_ _)); refine blk_far ?_ NB144_143.out _; (with_reducible repeat (first | refine blk_drewN ?_ _ | refine blk_drew ?_ | refine blk_alloc ?_ _)); exact BK144.out⟩, ⟨pw⟩⟩
   rw [if_neg c18] at H
   have c18b0 : (a2.toList == ([60] : List UInt8)) = false := beq_eq_false_iff_ne.mpr c18
   have c18b1 : (a2.toList != ([60] : List UInt8)) = true := bne_iff_ne.mpr c18
   (first | rw [c18b0] | (simp only [i64_w, i32_w]; rw [c18b0]) | skip)
   by_cases c31 : a2.toList = ([60, 61] : List UInt8)
   ·rw [if_pos c31] at H
    have c31b0 : (a2.toList == ([60, 61] : List UInt8)) = true := beq_iff_eq.mpr c31
    have c31b1 : (a2.toList != ([60, 61] : List UInt8)) = false := bne_eq_false_iff_eq.mpr c31
    clear c31
    replace H := Option.bind_eq_some_iff.mp H
    obtain ⟨⟨t156, t157, t158, t159, t160, t161, t162, t163, t164⟩, A320, H⟩ := H
    replace H : (interval_Refine.j0 k t164 t156 t157 t158 t159 t160 t161 t162 t163) = some (r1, r2, r3, r4, r5, r6, r7, r8, r9, r10) := H
    have A32 := am A320
    clear A320
    have H' := am H
    clear H
    have hnb33 := NB141_142.out
    have hnc33 := NB142_141.out
    have hnb34 := NB141_143.out
    have hnc34 := NB143_141.out
    have hnb35 := NB141_144.out
    have hnc35 := NB144_141.out
    have hcz36_0 : w17.cell? ⟨gb141, 0, none⟩ = some (.bool a0_0) := bc BK141 0
    have hcz36_1 : w17.cell? ⟨gb141, 1, none⟩ = some (.bool a0_1) := bc BK141 1
    have hcz36_2 : w17.cell? ⟨gb141, 2, none⟩ = some (.int .i64 a0_2) := bc BK141 2
    have hcz36_3 : w17.cell? ⟨gb141, 3, none⟩ = some (.int .i64 a0_3) := bc BK141 3
    have hfz36_0 := blk_frozen BK141.out 0
    have hfz36_1 := blk_frozen BK141.out 1
    have hfz36_2 := blk_frozen BK141.out 2
    have hfz36_3 := blk_frozen BK141.out 3
    have hnb37 := NB142_143.out
    have hnc37 := NB143_142.out
    have hnb38 := NB142_144.out
    have hnc38 := NB144_142.out
    have hcz39_0 : w17.cell? ⟨gb142, 0, none⟩ = some (.bool a1_0) := bc BK142 0
    have hcz39_1 : w17.cell? ⟨gb142, 1, none⟩ = some (.bool a1_1) := bc BK142 1
    have hcz39_2 : w17.cell? ⟨gb142, 2, none⟩ = some (.int .i64 a1_2) := bc BK142 2
    have hcz39_3 : w17.cell? ⟨gb142, 3, none⟩ = some (.int .i64 a1_3) := bc BK142 3
    have hfz39_0 := blk_frozen BK142.out 0
    have hfz39_1 := blk_frozen BK142.out 1
    have hfz39_2 := blk_frozen BK142.out 2
    have hfz39_3 := blk_frozen BK142.out 3
    go_wp2_with (first | ((with_reducible refine gate_callee (f := 96) rfl ?_); refine goesL_ (some 38) rfl rfl Tryd.func96 kk rfl #[.agg #[.bool a0_0, .bool a0_1, .int .i64 a0_2, .int .i64 a0_3], .agg #[.bool a1_0, .bool a1_1, .int .i64 a1_2, .int .i64 a1_3], .int .i64 0] rfl (by (try simp only [List.map_toArray, List.map_cons, List.map_nil]); first | done | rfl | (simp only [List.length_drop, List.length_take]; rfl)) ?_; (with_reducible refine (interval_less.calls a0_0 a0_1 a0_2 a0_3 a1_0 a1_1 a1_2 a1_3 0 t156 t157 t158 t159 t160 t161 t162 t163 t164 _ A32.out).mono ?_); rintro e w40 ⟨rfl, hb⟩; refine ⟨_, rfl, ?_⟩; have n0_ := bb BK141 hb; have n1_ := bb BK142 hb; have n2_ := bb BK143 hb; have n3_ := bb BK144 hb; have n4_ := am (below_step pw hb); clear BK141; clear BK142; clear BK143; clear BK144; clear HB; have BK141 := n0_; have BK142 := n1_; have BK143 := n2_; have BK144 := n3_; have HB := n4_; clear n0_ n1_ n2_ n3_ n4_; (try clear hb); (try clear hb2); (try clear hk); (try clear hi); have hnb41 := NB143_144.out; have hnc41 := NB144_143.out; have hcz42_0 : w40.cell? ⟨gb143, 0, none⟩ = some (.bool false) := bc BK143 0; have hcz42_1 : w40.cell? ⟨gb143, 1, none⟩ = some (.bool false) := bc BK143 1; have hcz42_2 : w40.cell? ⟨gb143, 2, none⟩ = some (.int .i64 0) := bc BK143 2; have hcz42_3 : w40.cell? ⟨gb143, 3, none⟩ = some (.int .i64 0) := bc BK143 3; have hfz42_0 := blk_frozen BK143.out 0; have hfz42_1 := blk_frozen BK143.out 1; have hfz42_2 := blk_frozen BK143.out 2; have hfz42_3 := blk_frozen BK143.out 3; have hcz43_0 : w40.cell? ⟨gb144, 0, none⟩ = some (.bool false) := bc BK144 0; have hcz43_1 : w40.cell? ⟨gb144, 1, none⟩ = some (.bool false) := bc BK144 1; have hcz43_2 : w40.cell? ⟨gb144, 2, none⟩ = some (.int .i64 0) := bc BK144 2; have hcz43_3 : w40.cell? ⟨gb144, 3, none⟩ = some (.int .i64 0) := bc BK144 3; have hfz43_0 := blk_frozen BK144.out 0; have hfz43_1 := blk_frozen BK144.out 1; have hfz43_2 := blk_frozen BK144.out 2; have hfz43_3 := blk_frozen BK144.out 3))
    go_meet
    case rel => exact ⟨_, (t164), (t156), (t157), (t158), (t159), (t160), (t161), (t162), (t163), pr, H', ⟨by first | omega | exact Nat.le_refl _⟩, ⟨by (with_reducible repeat (first | refine blk_drewN ?_ _ | refine blk_drew ?_ | refine blk_alloc ?_ _)); refine blk_far ?_ NB141_144.out _; (with_reducible repeat (first | refine blk_drewN ?_ _ | refine blk_drew ?_ | refine blk_alloc ?_ _)); refine blk_far ?_ NB141_144.out _; (with_reducible repeat (first | refine blk_drewN ?_ _ | refine blk_drew ?_ | refine blk_alloc ?_ _)); refine blk_far ?_ NB141_144.out _; (with_reducible repeat (first | refine blk_drewN ?_ _ | refine blk_drew ?_ | refine blk_alloc ?_ _)); refine blk_far ?_ NB141_144.out _; (with_reducible repeat (first | refine blk_drewN ?_ _ | refine blk_drew ?_ | refine blk_alloc ?_ _)); refine blk_far ?_ NB141_143.out _; (with_reducible repeat (first | refine blk_drewN ?_ _ | refine blk_drew ?_ | refine blk_alloc ?_ _)); refine blk_far ?_ NB141_143.out _; (with_reducible repeat (first | refine blk_drewN ?_ _ | refine blk_drew ?_ | refine blk_alloc ?_ _)); refine blk_far ?_ NB141_143.out _; (with_reducible repeat (first | refine blk_drewN ?_ _ | refine blk_drew ?_ | refine blk_alloc ?_ _)); refine blk_far ?_ NB141_143.out _; (with_reducible repeat (first | refine blk_drewN ?_ _ | refine blk_drew ?_ | refine blk_alloc ?_ _)); exact BK141.out⟩, ⟨by (with_reducible repeat (first | refine blk_drewN ?_ _ | refine blk_drew ?_ | refine blk_alloc ?_ _)); refine blk_far ?_ NB142_144.out _; (with_reducible repeat (first | refine blk_drewN ?_ _ | refine blk_drew ?_ | refine blk_alloc ?_ _)); refine blk_far ?_ NB142_144.out _; (with_reducible repeat (first | refine blk_drewN ?_ _ | refine blk_drew ?_ | refine blk_alloc ?_ _)); refine blk_far ?_ NB142_144.out _; (with_reducible repeat (first | refine blk_drewN ?_ _ | refine blk_drew ?_ | refine blk_alloc ?_ _)); refine blk_far ?_ NB142_144.out _; (with_reducible repeat (first | refine blk_drewN ?_ _ | refine blk_drew ?_ | refine blk_alloc ?_ _)); refine blk_far ?_ NB142_143.out _; (with_reducible repeat (first | refine blk_drewN ?_ _ | refine blk_drew ?_ | refine blk_alloc ?_ _)); refine blk_far ?_ NB142_143.out _; (with_reducible repeat (first | refine blk_drewN ?_ _ | refine blk_drew ?_ | refine blk_alloc ?_ _)); refine blk_far ?_ NB142_143.out _; (with_reducible repeat (first | refine blk_drewN ?_ _ | refine blk_drew ?_ | refine blk_alloc ?_ _)); refine blk_far ?_ NB142_143.out _; (with_reducible repeat (first | refine blk_drewN ?_ _ | refine blk_drew ?_ | refine blk_alloc ?_ _)); exact BK142.out⟩, ⟨by (with_reducible repeat (first | refine blk_drewN ?_ _ | refine blk_drew ?_ | refine blk_alloc ?_ _)); refine blk_far ?_ NB143_144.out _; (with_reducible repeat (first | refine blk_drewN ?_ _ | refine blk_drew ?_ | refine blk_alloc ?_ _)); refine blk_far ?_ NB143_144.out _; (with_reducible repeat (first | refine blk_drewN ?_ _ | refine blk_drew ?_ | refine blk_alloc ?_ _)); refine blk_far ?_ NB143_144.out _; (with_reducible repeat (first | refine blk_drewN ?_ _ | refine blk_drew ?_ | refine blk_alloc ?_ _)); refine blk_far ?_ NB143_144.out _; (with_reducible repeat (first | refine blk_drewN ?_ _ | refine blk_drew ?_ | refine blk_alloc ?_ _)); refine blk_put (cs := #[.bool t156, .bool t157, .int .i64 t158, .int .i64 0]) ?_ 3 _ rfl; (with_reducible repeat (first | refine blk_drewN ?_ _ | refine blk_drew ?_ | refine blk_alloc ?_ _)); refine blk_put (cs := #[.bool t156, .bool t157, .int .i64 0, .int .i64 0]) ?_ 2 _ rfl; (with_reducible repeat (first | refine blk_drewN ?_ _ | refine blk_drew ?_ | refine blk_alloc ?_ _)); refine blk_put (cs := #[.bool t156, .bool false, .int .i64 0, .int .i64 0]) ?_ 1 _ rfl; (with_reducible repeat (first | refine blk_drewN ?_ _ | refine blk_drew ?_ | refine blk_alloc ?_ _)); refine blk_put (cs := #[.bool false, .bool false, .int .i64 0, .int .i64 0]) ?_ 0 _ rfl; (with_reducible repeat (first | refine blk_drewN ?_ _ | refine blk_drew ?_ | refine blk_alloc ?_ _)); exact BK143.out⟩, ⟨by (with_reducible repeat (first | refine blk_drewN ?_ _ | refine blk_drew ?_ | refine blk_alloc ?_ _)); refine blk_put (cs := #[.bool t160, .bool t161, .int .i64 t162, .int .i64 0]) ?_ 3 _ rfl; (with_reducible repeat (first | refine blk_drewN ?_ _ | refine blk_drew ?_ | refine blk_alloc ?_ _)); refine blk_put (cs := #[.bool t160, .bool t161, .int .i64 0, .int .i64 0]) ?_ 2 _ rfl; (with_reducible repeat (first | refine blk_drewN ?_ _ | refine blk_drew ?_ | refine blk_alloc ?_ _)); refine blk_put (cs := #[.bool t160, .bool false, .int .i64 0, .int .i64 0]) ?_ 1 _ rfl; (with_reducible repeat (first | refine blk_drewN ?_ _ | refine blk_drew ?_ | refine blk_alloc ?_ _)); refine blk_put (cs := #[.bool false, .bool false, .int .i64 0, .int .i64 0]) ?_ 0 _ rfl; (with_reducible repeat (first | refine blk_drewN ?_ _ | refine blk_drew ?_ | refine blk_alloc ?_ _)); refine blk_far ?_ NB144_143.out _; (with_reducible repeat (first | refine blk_drewN ?_ _ | refine blk_drew ?_ | refine blk_alloc ?_ _)); refine blk_far ?_ NB144_143.out _; (with_reducible repeat (first | refine blk_drewN ?_ _ | refine blk_drew ?_ | refine blk_alloc ?_ _)); refine blk_far ?_ NB144_143.out _; (with_reducible repeat (first | refine blk_drewN ?_ _ | refine blk_drew ?_ | refine blk_alloc ?_ _)); refine blk_far ?_ NB144_143.out _; (with_reducible repeat (first | refine blk_drewN ?_ _ | refine blk_drew ?_ | refine blk_alloc ?_ _)); exact BK144.out⟩, ⟨pw⟩⟩
   rw [if_neg c31] at H
   have c31b0 : (a2.toList == ([60, 61] : List UInt8)) = false := beq_eq_false_iff_ne.mpr c31
   have c31b1 : (a2.toList != ([60, 61] : List UInt8)) = true := bne_iff_ne.mpr c31
   by_cases c44 : a2.toList = ([62] : List UInt8)
   ·rw [if_pos c44] at H
    have c44b0 : (a2.toList == ([62] : List UInt8)) = true := beq_iff_eq.mpr c44
    have c44b1 : (a2.toList != ([62] : List UInt8)) = false := bne_eq_false_iff_eq.mpr c44
    clear c44
    replace H := Option.bind_eq_some_iff.mp H
    obtain ⟨⟨t165, t166, t167, t168, t169, t170, t171, t172, t173⟩, A450, H⟩ := H
    replace H : (interval_Refine.j0 k t173 t169 t170 t171 t172 t165 t166 t167 t168) = some (r1, r2, r3, r4, r5, r6, r7, r8, r9, r10) := H
    have A45 := am A450
    clear A450
    have H' := am H
    clear H
    have hnb46 := NB142_141.out
    have hnc46 := NB141_142.out
    have hnb47 := NB142_143.out
    have hnc47 := NB143_142.out
    have hnb48 := NB142_144.out
    have hnc48 := NB144_142.out
    have hcz49_0 : w17.cell? ⟨gb142, 0, none⟩ = some (.bool a1_0) := bc BK142 0
    have hcz49_1 : w17.cell? ⟨gb142, 1, none⟩ = some (.bool a1_1) := bc BK142 1
    have hcz49_2 : w17.cell? ⟨gb142, 2, none⟩ = some (.int .i64 a1_2) := bc BK142 2
    have hcz49_3 : w17.cell? ⟨gb142, 3, none⟩ = some (.int .i64 a1_3) := bc BK142 3
    have hfz49_0 := blk_frozen BK142.out 0
    have hfz49_1 := blk_frozen BK142.out 1
    have hfz49_2 := blk_frozen BK142.out 2
    have hfz49_3 := blk_frozen BK142.out 3
    have hnb50 := NB141_143.out
    have hnc50 := NB143_141.out
    have hnb51 := NB141_144.out
    have hnc51 := NB144_141.out
    have hcz52_0 : w17.cell? ⟨gb141, 0, none⟩ = some (.bool a0_0) := bc BK141 0
    have hcz52_1 : w17.cell? ⟨gb141, 1, none⟩ = some (.bool a0_1) := bc BK141 1
    have hcz52_2 : w17.cell? ⟨gb141, 2, none⟩ = some (.int .i64 a0_2) := bc BK141 2
    have hcz52_3 : w17.cell? ⟨gb141, 3, none⟩ = some (.int .i64 a0_3) := bc BK141 3
    have hfz52_0 := blk_frozen BK141.out 0
    have hfz52_1 := blk_frozen BK141.out 1
    have hfz52_2 := blk_frozen BK141.out 2
    have hfz52_3 := blk_frozen BK141.out 3
    go_wp2_with (first | ((with_reducible refine gate_callee (f := 96) rfl ?_); refine goesL_ (some 47) rfl rfl Tryd.func96 kk rfl #[.agg #[.bool a1_0, .bool a1_1, .int .i64 a1_2, .int .i64 a1_3], .agg #[.bool a0_0, .bool a0_1, .int .i64 a0_2, .int .i64 a0_3], .int .i64 1] rfl (by (try simp only [List.map_toArray, List.map_cons, List.map_nil]); first | done | rfl | (simp only [List.length_drop, List.length_take]; rfl)) ?_; (with_reducible refine (interval_less.calls a1_0 a1_1 a1_2 a1_3 a0_0 a0_1 a0_2 a0_3 1 t165 t166 t167 t168 t169 t170 t171 t172 t173 _ A45.out).mono ?_); rintro e w53 ⟨rfl, hb⟩; refine ⟨_, rfl, ?_⟩; have n0_ := bb BK141 hb; have n1_ := bb BK142 hb; have n2_ := bb BK143 hb; have n3_ := bb BK144 hb; have n4_ := am (below_step pw hb); clear BK141; clear BK142; clear BK143; clear BK144; clear HB; have BK141 := n0_; have BK142 := n1_; have BK143 := n2_; have BK144 := n3_; have HB := n4_; clear n0_ n1_ n2_ n3_ n4_; (try clear hb); (try clear hb2); (try clear hk); (try clear hi); have hnb54 := NB144_143.out; have hnc54 := NB143_144.out; have hcz55_0 : w53.cell? ⟨gb144, 0, none⟩ = some (.bool false) := bc BK144 0; have hcz55_1 : w53.cell? ⟨gb144, 1, none⟩ = some (.bool false) := bc BK144 1; have hcz55_2 : w53.cell? ⟨gb144, 2, none⟩ = some (.int .i64 0) := bc BK144 2; have hcz55_3 : w53.cell? ⟨gb144, 3, none⟩ = some (.int .i64 0) := bc BK144 3; have hfz55_0 := blk_frozen BK144.out 0; have hfz55_1 := blk_frozen BK144.out 1; have hfz55_2 := blk_frozen BK144.out 2; have hfz55_3 := blk_frozen BK144.out 3; have hcz56_0 : w53.cell? ⟨gb143, 0, none⟩ = some (.bool false) := bc BK143 0; have hcz56_1 : w53.cell? ⟨gb143, 1, none⟩ = some (.bool false) := bc BK143 1; have hcz56_2 : w53.cell? ⟨gb143, 2, none⟩ = some (.int .i64 0) := bc BK143 2; have hcz56_3 : w53.cell? ⟨gb143, 3, none⟩ = some (.int .i64 0) := bc BK143 3; have hfz56_0 := blk_frozen BK143.out 0; have hfz56_1 := blk_frozen BK143.out 1; have hfz56_2 := blk_frozen BK143.out 2; have hfz56_3 := blk_frozen BK143.out 3))
    go_meet
    case rel => exact ⟨_, (t173), (t169), (t170), (t171), (t172), (t165), (t166), (t167), (t168), pr, H', ⟨by first | omega | exact Nat.le_refl _⟩, ⟨by (with_reducible repeat (first | refine blk_drewN ?_ _ | refine blk_drew ?_ | refine blk_alloc ?_ _)); refine blk_far ?_ NB141_143.out _; (with_reducible repeat (first | refine blk_drewN ?_ _ | refine blk_drew ?_ | refine blk_alloc ?_ _)); refine blk_far ?_ NB141_143.out _; (with_reducible repeat (first | refine blk_drewN ?_ _ | refine blk_drew ?_ | refine blk_alloc ?_ _)); refine blk_far ?_ NB141_143.out _; (with_reducible repeat (first | refine blk_drewN ?_ _ | refine blk_drew ?_ | refine blk_alloc ?_ _)); refine blk_far ?_ NB141_143.out _; (with_reducible repeat (first | refine blk_drewN ?_ _ | refine blk_drew ?_ | refine blk_alloc ?_ _)); refine blk_far ?_ NB141_144.out _; (with_reducible repeat (first | refine blk_drewN ?_ _ | refine blk_drew ?_ | refine blk_alloc ?_ _)); refine blk_far ?_ NB141_144.out _; (with_reducible repeat (first | refine blk_drewN ?_ _ | refine blk_drew ?_ | refine blk_alloc ?_ _)); refine blk_far ?_ NB141_144.out _; (with_reducible repeat (first | refine blk_drewN ?_ _ | refine blk_drew ?_ | refine blk_alloc ?_ _)); refine blk_far ?_ NB141_144.out _; (with_reducible repeat (first | refine blk_drewN ?_ _ | refine blk_drew ?_ | refine blk_alloc ?_ _)); exact BK141.out⟩, ⟨by (with_reducible repeat (first | refine blk_drewN ?_ _ | refine blk_drew ?_ | refine blk_alloc ?_ _)); refine blk_far ?_ NB142_143.out _; (with_reducible repeat (first | refine blk_drewN ?_ _ | refine blk_drew ?_ | refine blk_alloc ?_ _)); refine blk_far ?_ NB142_143.out _; (with_reducible repeat (first | refine blk_drewN ?_ _ | refine blk_drew ?_ | refine blk_alloc ?_ _)); refine blk_far ?_ NB142_143.out _; (with_reducible repeat (first | refine blk_drewN ?_ _ | refine blk_drew ?_ | refine blk_alloc ?_ _)); refine blk_far ?_ NB142_143.out _; (with_reducible repeat (first | refine blk_drewN ?_ _ | refine blk_drew ?_ | refine blk_alloc ?_ _)); refine blk_far ?_ NB142_144.out _; (with_reducible repeat (first | refine blk_drewN ?_ _ | refine blk_drew ?_ | refine blk_alloc ?_ _)); refine blk_far ?_ NB142_144.out _; (with_reducible repeat (first | refine blk_drewN ?_ _ | refine blk_drew ?_ | refine blk_alloc ?_ _)); refine blk_far ?_ NB142_144.out _; (with_reducible repeat (first | refine blk_drewN ?_ _ | refine blk_drew ?_ | refine blk_alloc ?_ _)); refine blk_far ?_ NB142_144.out _; (with_reducible repeat (first | refine blk_drewN ?_ _ | refine blk_drew ?_ | refine blk_alloc ?_ _)); exact BK142.out⟩, ⟨by (with_reducible repeat (first | refine blk_drewN ?_ _ | refine blk_drew ?_ | refine blk_alloc ?_ _)); refine blk_put (cs := #[.bool t169, .bool t170, .int .i64 t171, .int .i64 0]) ?_ 3 _ rfl; (with_reducible repeat (first | refine blk_drewN ?_ _ | refine blk_drew ?_ | refine blk_alloc ?_ _)); refine blk_put (cs := #[.bool t169, .bool t170, .int .i64 0, .int .i64 0]) ?_ 2 _ rfl; (with_reducible repeat (first | refine blk_drewN ?_ _ | refine blk_drew ?_ | refine blk_alloc ?_ _)); refine blk_put (cs := #[.bool t169, .bool false, .int .i64 0, .int .i64 0]) ?_ 1 _ rfl; (with_reducible repeat (first | refine blk_drewN ?_ _ | refine blk_drew ?_ | refine blk_alloc ?_ _)); refine blk_put (cs := #[.bool false, .bool false, .int .i64 0, .int .i64 0]) ?_ 0 _ rfl; (with_reducible repeat (first | refine blk_drewN ?_ _ | refine blk_drew ?_ | refine blk_alloc ?_ _)); refine blk_far ?_ NB143_144.out _; (with_reducible repeat (first | refine blk_drewN ?_ _ | refine blk_drew ?_ | refine blk_alloc ?_ _)); refine blk_far ?_ NB143_144.out _; (with_reducible repeat (first | refine blk_drewN ?_ _ | refine blk_drew ?_ | refine blk_alloc ?_ _)); refine blk_far ?_ NB143_144.out _; (with_reducible repeat (first | refine blk_drewN ?_ _ | refine blk_drew ?_ | refine blk_alloc ?_ _)); refine blk_far ?_ NB143_144.out _; (with_reducible repeat (first | refine blk_drewN ?_ _ | refine blk_drew ?_ | refine blk_alloc ?_ _)); exact BK143.out⟩, ⟨by (with_reducible repeat (first | refine blk_drewN ?_ _ | refine blk_drew ?_ | refine blk_alloc ?_ _)); refine blk_far ?_ NB144_143.out _; (with_reducible repeat (first | refine blk_drewN ?_ _ | refine blk_drew ?_ | refine blk_alloc ?_ _)); refine blk_far ?_ NB144_143.out _; (with_reducible repeat (first | refine blk_drewN ?_ _ | refine blk_drew ?_ | refine blk_alloc ?_ _)); refine blk_far ?_ NB144_143.out _; (with_reducible repeat (first | refine blk_drewN ?_ _ | refine blk_drew ?_ | refine blk_alloc ?_ _)); refine blk_far ?_ NB144_143.out _; (with_reducible repeat (first | refine blk_drewN ?_ _ | refine blk_drew ?_ | refine blk_alloc ?_ _)); refine blk_put (cs := #[.bool t165, .bool t166, .int .i64 t167, .int .i64 0]) ?_ 3 _ rfl; (with_reducible repeat (first | refine blk_drewN ?_ _ | refine blk_drew ?_ | refine blk_alloc ?_ _)); refine blk_put (cs := #[.bool t165, .bool t166, .int .i64 0, .int .i64 0]) ?_ 2 _ rfl; (with_reducible repeat (first | refine blk_drewN ?_ _ | refine blk_drew ?_ | refine blk_alloc ?_ _)); refine blk_put (cs := #[.bool t165, .bool false, .int .i64 0, .int .i64 0]) ?_ 1 _ rfl; (with_reducible repeat (first | refine blk_drewN ?_ _ | refine blk_drew ?_ | refine blk_alloc ?_ _)); refine blk_put (cs := #[.bool false, .bool false, .int .i64 0, .int .i64 0]) ?_ 0 _ rfl; (with_reducible repeat (first | refine blk_drewN ?_ _ | refine blk_drew ?_ | refine blk_alloc ?_ _)); exact BK144.out⟩, ⟨pw⟩⟩
   rw [if_neg c44] at H
   have c44b0 : (a2.toList == ([62] : List UInt8)) = false := beq_eq_false_iff_ne.mpr c44
   have c44b1 : (a2.toList != ([62] : List UInt8)) = true := bne_iff_ne.mpr c44
   by_cases c57 : a2.toList = ([62, 61] : List UInt8)
   ·rw [if_pos c57] at H
    have c57b0 : (a2.toList == ([62, 61] : List UInt8)) = true := beq_iff_eq.mpr c57
    have c57b1 : (a2.toList != ([62, 61] : List UInt8)) = false := bne_eq_false_iff_eq.mpr c57
    clear c57
    replace H := Option.bind_eq_some_iff.mp H
    obtain ⟨⟨t174, t175, t176, t177, t178, t179, t180, t181, t182⟩, A580, H⟩ := H
    replace H : (interval_Refine.j0 k t182 t178 t179 t180 t181 t174 t175 t176 t177) = some (r1, r2, r3, r4, r5, r6, r7, r8, r9, r10) := H
    have A58 := am A580
    clear A580
    have H' := am H
    clear H
    have hnb59 := NB142_141.out
    have hnc59 := NB141_142.out
    have hnb60 := NB142_143.out
    have hnc60 := NB143_142.out
    have hnb61 := NB142_144.out
    have hnc61 := NB144_142.out
    have hcz62_0 : w17.cell? ⟨gb142, 0, none⟩ = some (.bool a1_0) := bc BK142 0
    have hcz62_1 : w17.cell? ⟨gb142, 1, none⟩ = some (.bool a1_1) := bc BK142 1
    have hcz62_2 : w17.cell? ⟨gb142, 2, none⟩ = some (.int .i64 a1_2) := bc BK142 2
    have hcz62_3 : w17.cell? ⟨gb142, 3, none⟩ = some (.int .i64 a1_3) := bc BK142 3
    have hfz62_0 := blk_frozen BK142.out 0
    have hfz62_1 := blk_frozen BK142.out 1
    have hfz62_2 := blk_frozen BK142.out 2
    have hfz62_3 := blk_frozen BK142.out 3
    have hnb63 := NB141_143.out
    have hnc63 := NB143_141.out
    have hnb64 := NB141_144.out
    have hnc64 := NB144_141.out
    have hcz65_0 : w17.cell? ⟨gb141, 0, none⟩ = some (.bool a0_0) := bc BK141 0
    have hcz65_1 : w17.cell? ⟨gb141, 1, none⟩ = some (.bool a0_1) := bc BK141 1
    have hcz65_2 : w17.cell? ⟨gb141, 2, none⟩ = some (.int .i64 a0_2) := bc BK141 2
    have hcz65_3 : w17.cell? ⟨gb141, 3, none⟩ = some (.int .i64 a0_3) := bc BK141 3
    have hfz65_0 := blk_frozen BK141.out 0
    have hfz65_1 := blk_frozen BK141.out 1
    have hfz65_2 := blk_frozen BK141.out 2
    have hfz65_3 := blk_frozen BK141.out 3
    go_wp2_with (first | ((with_reducible refine gate_callee (f := 96) rfl ?_); refine goesL_ (some 56) rfl rfl Tryd.func96 kk rfl #[.agg #[.bool a1_0, .bool a1_1, .int .i64 a1_2, .int .i64 a1_3], .agg #[.bool a0_0, .bool a0_1, .int .i64 a0_2, .int .i64 a0_3], .int .i64 0] rfl (by (try simp only [List.map_toArray, List.map_cons, List.map_nil]); first | done | rfl | (simp only [List.length_drop, List.length_take]; rfl)) ?_; (with_reducible refine (interval_less.calls a1_0 a1_1 a1_2 a1_3 a0_0 a0_1 a0_2 a0_3 0 t174 t175 t176 t177 t178 t179 t180 t181 t182 _ A58.out).mono ?_); rintro e w66 ⟨rfl, hb⟩; refine ⟨_, rfl, ?_⟩; have n0_ := bb BK141 hb; have n1_ := bb BK142 hb; have n2_ := bb BK143 hb; have n3_ := bb BK144 hb; have n4_ := am (below_step pw hb); clear BK141; clear BK142; clear BK143; clear BK144; clear HB; have BK141 := n0_; have BK142 := n1_; have BK143 := n2_; have BK144 := n3_; have HB := n4_; clear n0_ n1_ n2_ n3_ n4_; (try clear hb); (try clear hb2); (try clear hk); (try clear hi); have hnb67 := NB144_143.out; have hnc67 := NB143_144.out; have hcz68_0 : w66.cell? ⟨gb144, 0, none⟩ = some (.bool false) := bc BK144 0; have hcz68_1 : w66.cell? ⟨gb144, 1, none⟩ = some (.bool false) := bc BK144 1; have hcz68_2 : w66.cell? ⟨gb144, 2, none⟩ = some (.int .i64 0) := bc BK144 2; have hcz68_3 : w66.cell? ⟨gb144, 3, none⟩ = some (.int .i64 0) := bc BK144 3; have hfz68_0 := blk_frozen BK144.out 0; have hfz68_1 := blk_frozen BK144.out 1; have hfz68_2 := blk_frozen BK144.out 2; have hfz68_3 := blk_frozen BK144.out 3; have hcz69_0 : w66.cell? ⟨gb143, 0, none⟩ = some (.bool false) := bc BK143 0; have hcz69_1 : w66.cell? ⟨gb143, 1, none⟩ = some (.bool false) := bc BK143 1; have hcz69_2 : w66.cell? ⟨gb143, 2, none⟩ = some (.int .i64 0) := bc BK143 2; have hcz69_3 : w66.cell? ⟨gb143, 3, none⟩ = some (.int .i64 0) := bc BK143 3; have hfz69_0 := blk_frozen BK143.out 0; have hfz69_1 := blk_frozen BK143.out 1; have hfz69_2 := blk_frozen BK143.out 2; have hfz69_3 := blk_frozen BK143.out 3))
    go_meet
    case rel => exact ⟨_, (t182), (t178), (t179), (t180), (t181), (t174), (t175), (t176), (t177), pr, H', ⟨by first | omega | exact Nat.le_refl _⟩, ⟨by (with_reducible repeat (first | refine blk_drewN ?_ _ | refine blk_drew ?_ | refine blk_alloc ?_ _)); refine blk_far ?_ NB141_143.out _; (with_reducible repeat (first | refine blk_drewN ?_ _ | refine blk_drew ?_ | refine blk_alloc ?_ _)); refine blk_far ?_ NB141_143.out _; (with_reducible repeat (first | refine blk_drewN ?_ _ | refine blk_drew ?_ | refine blk_alloc ?_ _)); refine blk_far ?_ NB141_143.out _; (with_reducible repeat (first | refine blk_drewN ?_ _ | refine blk_drew ?_ | refine blk_alloc ?_ _)); refine blk_far ?_ NB141_143.out _; (with_reducible repeat (first | refine blk_drewN ?_ _ | refine blk_drew ?_ | refine blk_alloc ?_ _)); refine blk_far ?_ NB141_144.out _; (with_reducible repeat (first | refine blk_drewN ?_ _ | refine blk_drew ?_ | refine blk_alloc ?_ _)); refine blk_far ?_ NB141_144.out _; (with_reducible repeat (first | refine blk_drewN ?_ _ | refine blk_drew ?_ | refine blk_alloc ?_ _)); refine blk_far ?_ NB141_144.out _; (with_reducible repeat (first | refine blk_drewN ?_ _ | refine blk_drew ?_ | refine blk_alloc ?_ _)); refine blk_far ?_ NB141_144.out _; (with_reducible repeat (first | refine blk_drewN ?_ _ | refine blk_drew ?_ | refine blk_alloc ?_ _)); exact BK141.out⟩, ⟨by (with_reducible repeat (first | refine blk_drewN ?_ _ | refine blk_drew ?_ | refine blk_alloc ?_ _)); refine blk_far ?_ NB142_143.out _; (with_reducible repeat (first | refine blk_drewN ?_ _ | refine blk_drew ?_ | refine blk_alloc ?_ _)); refine blk_far ?_ NB142_143.out _; (with_reducible repeat (first | refine blk_drewN ?_ _ | refine blk_drew ?_ | refine blk_alloc ?_ _)); refine blk_far ?_ NB142_143.out _; (with_reducible repeat (first | refine blk_drewN ?_ _ | refine blk_drew ?_ | refine blk_alloc ?_ _)); refine blk_far ?_ NB142_143.out _; (with_reducible repeat (first | refine blk_drewN ?_ _ | refine blk_drew ?_ | refine blk_alloc ?_ _)); refine blk_far ?_ NB142_144.out _; (with_reducible repeat (first | refine blk_drewN ?_ _ | refine blk_drew ?_ | refine blk_alloc ?_ _)); refine blk_far ?_ NB142_144.out _; (with_reducible repeat (first | refine blk_drewN ?_ _ | refine blk_drew ?_ | refine blk_alloc ?_ _)); refine blk_far ?_ NB142_144.out _; (with_reducible repeat (first | refine blk_drewN ?_ _ | refine blk_drew ?_ | refine blk_alloc ?_ _)); refine blk_far ?_ NB142_144.out _; (with_reducible repeat (first | refine blk_drewN ?_ _ | refine blk_drew ?_ | refine blk_alloc ?_ _)); exact BK142.out⟩, ⟨by (with_reducible repeat (first | refine blk_drewN ?_ _ | refine blk_drew ?_ | refine blk_alloc ?_ _)); refine blk_put (cs := #[.bool t178, .bool t179, .int .i64 t180, .int .i64 0]) ?_ 3 _ rfl; (with_reducible repeat (first | refine blk_drewN ?_ _ | refine blk_drew ?_ | refine blk_alloc ?_ _)); refine blk_put (cs := #[.bool t178, .bool t179, .int .i64 0, .int .i64 0]) ?_ 2 _ rfl; (with_reducible repeat (first | refine blk_drewN ?_ _ | refine blk_drew ?_ | refine blk_alloc ?_ _)); refine blk_put (cs := #[.bool t178, .bool false, .int .i64 0, .int .i64 0]) ?_ 1 _ rfl; (with_reducible repeat (first | refine blk_drewN ?_ _ | refine blk_drew ?_ | refine blk_alloc ?_ _)); refine blk_put (cs := #[.bool false, .bool false, .int .i64 0, .int .i64 0]) ?_ 0 _ rfl; (with_reducible repeat (first | refine blk_drewN ?_ _ | refine blk_drew ?_ | refine blk_alloc ?_ _)); refine blk_far ?_ NB143_144.out _; (with_reducible repeat (first | refine blk_drewN ?_ _ | refine blk_drew ?_ | refine blk_alloc ?_ _)); refine blk_far ?_ NB143_144.out _; (with_reducible repeat (first | refine blk_drewN ?_ _ | refine blk_drew ?_ | refine blk_alloc ?_ _)); refine blk_far ?_ NB143_144.out _; (with_reducible repeat (first | refine blk_drewN ?_ _ | refine blk_drew ?_ | refine blk_alloc ?_ _)); refine blk_far ?_ NB143_144.out _; (with_reducible repeat (first | refine blk_drewN ?_ _ | refine blk_drew ?_ | refine blk_alloc ?_ _)); exact BK143.out⟩, ⟨by (with_reducible repeat (first | refine blk_drewN ?_ _ | refine blk_drew ?_ | refine blk_alloc ?_ _)); refine blk_far ?_ NB144_143.out _; (with_reducible repeat (first | refine blk_drewN ?_ _ | refine blk_drew ?_ | refine blk_alloc ?_ _)); refine blk_far ?_ NB144_143.out _; (with_reducible repeat (first | refine blk_drewN ?_ _ | refine blk_drew ?_ | refine blk_alloc ?_ _)); refine blk_far ?_ NB144_143.out _; (with_reducible repeat (first | refine blk_drewN ?_ _ | refine blk_drew ?_ | refine blk_alloc ?_ _)); refine blk_far ?_ NB144_143.out _; (with_reducible repeat (first | refine blk_drewN ?_ _ | refine blk_drew ?_ | refine blk_alloc ?_ _)); refine blk_put (cs := #[.bool t174, .bool t175, .int .i64 t176, .int .i64 0]) ?_ 3 _ rfl; (with_reducible repeat (first | refine blk_drewN ?_ _ | refine blk_drew ?_ | refine blk_alloc ?_ _)); refine blk_put (cs := #[.bool t174, .bool t175, .int .i64 0, .int .i64 0]) ?_ 2 _ rfl; (with_reducible repeat (first | refine blk_drewN ?_ _ | refine blk_drew ?_ | refine blk_alloc ?_ _)); refine blk_put (cs := #[.bool t174, .bool false, .int .i64 0, .int .i64 0]) ?_ 1 _ rfl; (with_reducible repeat (first | refine blk_drewN ?_ _ | refine blk_drew ?_ | refine blk_alloc ?_ _)); refine blk_put (cs := #[.bool false, .bool false, .int .i64 0, .int .i64 0]) ?_ 0 _ rfl; (with_reducible repeat (first | refine blk_drewN ?_ _ | refine blk_drew ?_ | refine blk_alloc ?_ _)); exact BK144.out⟩, ⟨pw⟩⟩
   rw [if_neg c57] at H
   have c57b0 : (a2.toList == ([62, 61] : List UInt8)) = false := beq_eq_false_iff_ne.mpr c57
   have c57b1 : (a2.toList != ([62, 61] : List UInt8)) = true := bne_iff_ne.mpr c57
   by_cases c70 : a2.toList = ([61] : List UInt8)
   ·rw [if_pos c70] at H
    have c70b0 : (a2.toList == ([61] : List UInt8)) = true := beq_iff_eq.mpr c70
    have c70b1 : (a2.toList != ([61] : List UInt8)) = false := bne_eq_false_iff_eq.mpr c70
    clear c70
    replace H := Option.bind_eq_some_iff.mp H
    obtain ⟨⟨t183, t184, t185, t186, t187⟩, A710, H⟩ := H
    replace H : (interval_Refine.j0 k t187 t183 t184 t185 t186 t183 t184 t185 t186) = some (r1, r2, r3, r4, r5, r6, r7, r8, r9, r10) := H
    have A71 := am A710
    clear A710
    have H' := am H
    clear H
    have hnb72 := NB141_142.out
    have hnc72 := NB142_141.out
    have hnb73 := NB141_143.out
    have hnc73 := NB143_141.out
    have hnb74 := NB141_144.out
    have hnc74 := NB144_141.out
    have hcz75_0 : w17.cell? ⟨gb141, 0, none⟩ = some (.bool a0_0) := bc BK141 0
    have hcz75_1 : w17.cell? ⟨gb141, 1, none⟩ = some (.bool a0_1) := bc BK141 1
    have hcz75_2 : w17.cell? ⟨gb141, 2, none⟩ = some (.int .i64 a0_2) := bc BK141 2
    have hcz75_3 : w17.cell? ⟨gb141, 3, none⟩ = some (.int .i64 a0_3) := bc BK141 3
    have hfz75_0 := blk_frozen BK141.out 0
    have hfz75_1 := blk_frozen BK141.out 1
    have hfz75_2 := blk_frozen BK141.out 2
    have hfz75_3 := blk_frozen BK141.out 3
    have hnb76 := NB142_143.out
    have hnc76 := NB143_142.out
    have hnb77 := NB142_144.out
    have hnc77 := NB144_142.out
    have hcz78_0 : w17.cell? ⟨gb142, 0, none⟩ = some (.bool a1_0) := bc BK142 0
    have hcz78_1 : w17.cell? ⟨gb142, 1, none⟩ = some (.bool a1_1) := bc BK142 1
    have hcz78_2 : w17.cell? ⟨gb142, 2, none⟩ = some (.int .i64 a1_2) := bc BK142 2
    have hcz78_3 : w17.cell? ⟨gb142, 3, none⟩ = some (.int .i64 a1_3) := bc BK142 3
    have hfz78_0 := blk_frozen BK142.out 0
    have hfz78_1 := blk_frozen BK142.out 1
    have hfz78_2 := blk_frozen BK142.out 2
    have hfz78_3 := blk_frozen BK142.out 3
    go_wp2_with (first | ((with_reducible refine gate_callee (f := 97) rfl ?_); refine goesL_ (some 65) rfl rfl Tryd.func97 kk rfl #[.agg #[.bool a0_0, .bool a0_1, .int .i64 a0_2, .int .i64 a0_3], .agg #[.bool a1_0, .bool a1_1, .int .i64 a1_2, .int .i64 a1_3]] rfl (by (try simp only [List.map_toArray, List.map_cons, List.map_nil]); first | done | rfl | (simp only [List.length_drop, List.length_take]; rfl)) ?_; (with_reducible refine (interval_meet.calls k a0_0 a0_1 a0_2 a0_3 a1_0 a1_1 a1_2 a1_3 t183 t184 t185 t186 t187 _ A71.out).mono ?_); rintro e w79 ⟨rfl, hb⟩; refine ⟨_, rfl, ?_⟩; have n0_ := bb BK141 hb; have n1_ := bb BK142 hb; have n2_ := bb BK143 hb; have n3_ := bb BK144 hb; have n4_ := am (below_step pw hb); clear BK141; clear BK142; clear BK143; clear BK144; clear HB; have BK141 := n0_; have BK142 := n1_; have BK143 := n2_; have BK144 := n3_; have HB := n4_; clear n0_ n1_ n2_ n3_ n4_; (try clear hb); (try clear hb2); (try clear hk); (try clear hi); have hnb80 := NB143_144.out; have hnc80 := NB144_143.out; have hcz81_0 : w79.cell? ⟨gb143, 0, none⟩ = some (.bool false) := bc BK143 0; have hcz81_1 : w79.cell? ⟨gb143, 1, none⟩ = some (.bool false) := bc BK143 1; have hcz81_2 : w79.cell? ⟨gb143, 2, none⟩ = some (.int .i64 0) := bc BK143 2; have hcz81_3 : w79.cell? ⟨gb143, 3, none⟩ = some (.int .i64 0) := bc BK143 3; have hfz81_0 := blk_frozen BK143.out 0; have hfz81_1 := blk_frozen BK143.out 1; have hfz81_2 := blk_frozen BK143.out 2; have hfz81_3 := blk_frozen BK143.out 3; have hcz82_0 : w79.cell? ⟨gb144, 0, none⟩ = some (.bool false) := bc BK144 0; have hcz82_1 : w79.cell? ⟨gb144, 1, none⟩ = some (.bool false) := bc BK144 1; have hcz82_2 : w79.cell? ⟨gb144, 2, none⟩ = some (.int .i64 0) := bc BK144 2; have hcz82_3 : w79.cell? ⟨gb144, 3, none⟩ = some (.int .i64 0) := bc BK144 3; have hfz82_0 := blk_frozen BK144.out 0; have hfz82_1 := blk_frozen BK144.out 1; have hfz82_2 := blk_frozen BK144.out 2; have hfz82_3 := blk_frozen BK144.out 3))
    go_meet
    case rel => exact ⟨_, (t187), (t183), (t184), (t185), (t186), (t183), (t184), (t185), (t186), pr, H', ⟨by first | omega | exact Nat.le_refl _⟩, ⟨by (with_reducible repeat (first | refine blk_drewN ?_ _ | refine blk_drew ?_ | refine blk_alloc ?_ _)); refine blk_far ?_ NB141_144.out _; (with_reducible repeat (first | refine blk_drewN ?_ _ | refine blk_drew ?_ | refine blk_alloc ?_ _)); refine blk_far ?_ NB141_144.out _; (with_reducible repeat (first | refine blk_drewN ?_ _ | refine blk_drew ?_ | refine blk_alloc ?_ _)); refine blk_far ?_ NB141_144.out _; (with_reducible repeat (first | refine blk_drewN ?_ _ | refine blk_drew ?_ | refine blk_alloc ?_ _)); refine blk_far ?_ NB141_144.out _; (with_reducible repeat (first | refine blk_drewN ?_ _ | refine blk_drew ?_ | refine blk_alloc ?_ _)); refine blk_far ?_ NB141_143.out _; (with_reducible repeat (first | refine blk_drewN ?_ _ | refine blk_drew ?_ | refine blk_alloc ?_ _)); refine blk_far ?_ NB141_143.out _; (with_reducible repeat (first | refine blk_drewN ?_ _ | refine blk_drew ?_ | refine blk_alloc ?_ _)); refine blk_far ?_ NB141_143.out _; (with_reducible repeat (first | refine blk_drewN ?_ _ | refine blk_drew ?_ | refine blk_alloc ?_ _)); refine blk_far ?_ NB141_143.out _; (with_reducible repeat (first | refine blk_drewN ?_ _ | refine blk_drew ?_ | refine blk_alloc ?_ _)); exact BK141.out⟩, ⟨by (with_reducible repeat (first | refine blk_drewN ?_ _ | refine blk_drew ?_ | refine blk_alloc ?_ _)); refine blk_far ?_ NB142_144.out _; (with_reducible repeat (first | refine blk_drewN ?_ _ | refine blk_drew ?_ | refine blk_alloc ?_ _)); refine blk_far ?_ NB142_144.out _; (with_reducible repeat (first | refine blk_drewN ?_ _ | refine blk_drew ?_ | refine blk_alloc ?_ _)); refine blk_far ?_ NB142_144.out _; (with_reducible repeat (first | refine blk_drewN ?_ _ | refine blk_drew ?_ | refine blk_alloc ?_ _)); refine blk_far ?_ NB142_144.out _; (with_reducible repeat (first | refine blk_drewN ?_ _ | refine blk_drew ?_ | refine blk_alloc ?_ _)); refine blk_far ?_ NB142_143.out _; (with_reducible repeat (first | refine blk_drewN ?_ _ | refine blk_drew ?_ | refine blk_alloc ?_ _)); refine blk_far ?_ NB142_143.out _; (with_reducible repeat (first | refine blk_drewN ?_ _ | refine blk_drew ?_ | refine blk_alloc ?_ _)); refine blk_far ?_ NB142_143.out _; (with_reducible repeat (first | refine blk_drewN ?_ _ | refine blk_drew ?_ | refine blk_alloc ?_ _)); refine blk_far ?_ NB142_143.out _; (with_reducible repeat (first | refine blk_drewN ?_ _ | refine blk_drew ?_ | refine blk_alloc ?_ _)); exact BK142.out⟩, ⟨by (with_reducible repeat (first | refine blk_drewN ?_ _ | refine blk_drew ?_ | refine blk_alloc ?_ _)); refine blk_far ?_ NB143_144.out _; (with_reducible repeat (first | refine blk_drewN ?_ _ | refine blk_drew ?_ | refine blk_alloc ?_ _)); refine blk_far ?_ NB143_144.out _; (with_reducible repeat (first | refine blk_drewN ?_ _ | refine blk_drew ?_ | refine blk_alloc ?_ _)); refine blk_far ?_ NB143_144.out _; (with_reducible repeat (first | refine blk_drewN ?_ _ | refine blk_drew ?_ | refine blk_alloc ?_ _)); refine blk_far ?_ NB143_144.out _; (with_reducible repeat (first | refine blk_drewN ?_ _ | refine blk_drew ?_ | refine blk_alloc ?_ _)); refine blk_put (cs := #[.bool t183, .bool t184, .int .i64 t185, .int .i64 0]) ?_ 3 _ rfl; (with_reducible repeat (first | refine blk_drewN ?_ _ | refine blk_drew ?_ | refine blk_alloc ?_ _)); refine blk_put (cs := #[.bool t183, .bool t184, .int .i64 0, .int .i64 0]) ?_ 2 _ rfl; (with_reducible repeat (first | refine blk_drewN ?_ _ | refine blk_drew ?_ | refine blk_alloc ?_ _)); refine blk_put (cs := #[.bool t183, .bool false, .int .i64 0, .int .i64 0]) ?_ 1 _ rfl; (with_reducible repeat (first | refine blk_drewN ?_ _ | refine blk_drew ?_ | refine blk_alloc ?_ _)); refine blk_put (cs := #[.bool false, .bool false, .int .i64 0, .int .i64 0]) ?_ 0 _ rfl; (with_reducible repeat (first | refine blk_drewN ?_ _ | refine blk_drew ?_ | refine blk_alloc ?_ _)); exact BK143.out⟩, ⟨by (with_reducible repeat (first | refine blk_drewN ?_ _ | refine blk_drew ?_ | refine blk_alloc ?_ _)); refine blk_put (cs := #[.bool t183, .bool t184, .int .i64 t185, .int .i64 0]) ?_ 3 _ rfl; (with_reducible repeat (first | refine blk_drewN ?_ _ | refine blk_drew ?_ | refine blk_alloc ?_ _)); refine blk_put (cs := #[.bool t183, .bool t184, .int .i64 0, .int .i64 0]) ?_ 2 _ rfl; (with_reducible repeat (first | refine blk_drewN ?_ _ | refine blk_drew ?_ | refine blk_alloc ?_ _)); refine blk_put (cs := #[.bool t183, .bool false, .int .i64 0, .int .i64 0]) ?_ 1 _ rfl; (with_reducible repeat (first | refine blk_drewN ?_ _ | refine blk_drew ?_ | refine blk_alloc ?_ _)); refine blk_put (cs := #[.bool false, .bool false, .int .i64 0, .int .i64 0]) ?_ 0 _ rfl; (with_reducible repeat (first | refine blk_drewN ?_ _ | refine blk_drew ?_ | refine blk_alloc ?_ _)); refine blk_far ?_ NB144_143.out _; (with_reducible repeat (first | refine blk_drewN ?_ _ | refine blk_drew ?_ | refine blk_alloc ?_ _)); refine blk_far ?_ NB144_143.out _; (with_reducible repeat (first | refine blk_drewN ?_ _ | refine blk_drew ?_ | refine blk_alloc ?_ _)); refine blk_far ?_ NB144_143.out _; (with_reducible repeat (first | refine blk_drewN ?_ _ | refine blk_drew ?_ | refine blk_alloc ?_ _)); refine blk_far ?_ NB144_143.out _; (with_reducible repeat (first | refine blk_drewN ?_ _ | refine blk_drew ?_ | refine blk_alloc ?_ _)); exact BK144.out⟩, ⟨pw⟩⟩
   rw [if_neg c70] at H
   have c70b0 : (a2.toList == ([61] : List UInt8)) = false := beq_eq_false_iff_ne.mpr c70
   have c70b1 : (a2.toList != ([61] : List UInt8)) = true := bne_iff_ne.mpr c70
   by_cases c83 : a2.toList = ([33, 61] : List UInt8)
   ·rw [if_pos c83] at H
    have c83b0 : (a2.toList == ([33, 61] : List UInt8)) = true := beq_iff_eq.mpr c83
    have c83b1 : (a2.toList != ([33, 61] : List UInt8)) = false := bne_eq_false_iff_eq.mpr c83
    clear c83
    replace H := Option.bind_eq_some_iff.mp H
    obtain ⟨t188, A840, H⟩ := H
    replace H : (if t188 = true then ((interval_without.f k a0_0 a0_1 a0_2 a0_3 a1_2).bind fun bt189 => (interval_Refine.j0 k bt189.2.2.2.2 bt189.1 bt189.2.1 bt189.2.2.1 bt189.2.2.2.1 a1_0 a1_1 a1_2 a1_3)) else ((interval_Refine_1.f a0_0 a0_1 a0_2 a0_3).bind fun t194 => (if t194 = true then ((interval_without.f k a1_0 a1_1 a1_2 a1_3 a0_2).bind fun bt195 => (interval_Refine.j0 k bt195.2.2.2.2 a0_0 a0_1 a0_2 a0_3 bt195.1 bt195.2.1 bt195.2.2.1 bt195.2.2.2.1)) else (interval_Refine.j0 k true a0_0 a0_1 a0_2 a0_3 a1_0 a1_1 a1_2 a1_3)))) = some (r1, r2, r3, r4, r5, r6, r7, r8, r9, r10) := H
    have A84 := am A840
    clear A840
    by_cases c85 : t188 = true
    ·subst c85
     have H1 : ((interval_without.f k a0_0 a0_1 a0_2 a0_3 a1_2).bind fun bt189 => (interval_Refine.j0 k bt189.2.2.2.2 bt189.1 bt189.2.1 bt189.2.2.1 bt189.2.2.2.1 a1_0 a1_1 a1_2 a1_3)) = some (r1, r2, r3, r4, r5, r6, r7, r8, r9, r10) := by rw [if_pos rfl] at H; exact H
     clear H
     have H := H1
     clear H1
     replace H := Option.bind_eq_some_iff.mp H
     obtain ⟨⟨t189, t190, t191, t192, t193⟩, A860, H⟩ := H
     replace H : (interval_Refine.j0 k t193 t189 t190 t191 t192 a1_0 a1_1 a1_2 a1_3) = some (r1, r2, r3, r4, r5, r6, r7, r8, r9, r10) := H
     have A86 := am A860
     clear A860
     have H' := am H
     clear H
     try go_wp2
     have n0_ := am (blk_drew BK141.out)
     have n1_ := am (blk_drew BK142.out)
     have n2_ := am (blk_drew BK143.out)
     have n3_ := am (blk_drew BK144.out)
     have n4_ := am (below_drew1 HB.out)
     clear BK141 BK142 BK143 BK144 HB
     revert n0_ n1_ n2_ n3_ n4_
     intro BK141 BK142 BK143 BK144 HB
     refine start_ (n := 5) (S := fun w' => w'.cell? ⟨gb141, 0, none⟩ = some (.bool a0_0) ∧ w'.cell? ⟨gb141, 1, none⟩ = some (.bool a0_1) ∧ w'.cell? ⟨gb141, 2, none⟩ = some (.int .i64 a0_2) ∧ w'.cell? ⟨gb141, 3, none⟩ = some (.int .i64 a0_3) ∧ w'.cell? ⟨gb142, 0, none⟩ = some (.bool a1_0) ∧ w'.cell? ⟨gb142, 1, none⟩ = some (.bool a1_1) ∧ w'.cell? ⟨gb142, 2, none⟩ = some (.int .i64 a1_2) ∧ w'.cell? ⟨gb142, 3, none⟩ = some (.int .i64 a1_3)) (ds := []) #[false, false, false, false, false] kk rfl rfl ⟨bc BK141 0, bc BK141 1, bc BK141 2, bc BK141 3, bc BK142 0, bc BK142 1, bc BK142 2, bc BK142 3⟩ (fun hHeld => ?_)
     generalize w17.drew = w87 at BK141 BK142 BK143 BK144 HB hHeld ⊢
     refine take_ (i := 0) (N := some 71) (v := ?_) (a' := ?_) #[true, false, false, false, false] rfl rfl kk (fun _ _ _ h => h) (Or.inl ⟨by rfl, ?_⟩) hHeld ?_ ?_
     rotate_left
     ·rintro w' ⟨s0, s1, s2, s3, s4, s5, s6, s7⟩
      go_simp
      with_reducible rfl
     rotate_left
     ·simp only [Act.put, List.setIfInBounds_toArray, List.set_cons_zero, List.set_cons_succ, i64_w, i32_w]
      rfl
     refine take_ (i := 1) (N := some 72) (v := ?_) (a' := ?_) #[true, true, false, false, false] rfl rfl kk (fun _ _ _ h => h) (Or.inl ⟨by rfl, ?_⟩) hHeld ?_ ?_
     rotate_left
     ·rintro w' ⟨s0, s1, s2, s3, s4, s5, s6, s7⟩
      go_simp
      with_reducible rfl
     rotate_left
     ·simp only [Act.put, List.setIfInBounds_toArray, List.set_cons_zero, List.set_cons_succ, i64_w, i32_w]
      rfl
     refine one_ (i := 2) (N := none) #[true, true, true, false, false] rfl rfl kk (by decide) (fun K hK => ?_)
     have hs88 : w87.cell? ⟨gb143, 0, none⟩ = some (.bool false) := bc BK143 0
     have hfs88 := blk_frozen BK143.out 0
     have hns88_0 := NB141_143.out
     have hns88_1 := NB142_143.out
     have hns88_3 := NB144_143.out
     have hms88_0 := NB143_141.out
     have hms88_1 := NB143_142.out
     have hms88_3 := NB143_144.out
     have hs89 : w87.cell? ⟨gb143, 1, none⟩ = some (.bool false) := bc BK143 1
     have hfs89 := blk_frozen BK143.out 1
     have hns89_0 := NB141_143.out
     have hns89_1 := NB142_143.out
     have hns89_3 := NB144_143.out
     have hms89_0 := NB143_141.out
     have hms89_1 := NB143_142.out
     have hms89_3 := NB143_144.out
     have hs90 : w87.cell? ⟨gb143, 2, none⟩ = some (.int .i64 0) := bc BK143 2
     have hfs90 := blk_frozen BK143.out 2
     have hns90_0 := NB141_143.out
     have hns90_1 := NB142_143.out
     have hns90_3 := NB144_143.out
     have hms90_0 := NB143_141.out
     have hms90_1 := NB143_142.out
     have hms90_3 := NB143_144.out
     have hs91 : w87.cell? ⟨gb143, 3, none⟩ = some (.int .i64 0) := bc BK143 3
     have hfs91 := blk_frozen BK143.out 3
     have hns91_0 := NB141_143.out
     have hns91_1 := NB142_143.out
     have hns91_3 := NB144_143.out
     have hms91_0 := NB143_141.out
     have hms91_1 := NB143_142.out
     have hms91_3 := NB143_144.out
     refine skip_ (w1 := ?_) (by rfl) rfl ?_ ?_
     rotate_left
     ·go_simp
      rfl
     refine hK.out _ _ ⟨((cell_far (p := ⟨gb143, _, none⟩) NB141_143.out _).trans (((cell_far (p := ⟨gb143, _, none⟩) NB141_143.out _).trans (((cell_far (p := ⟨gb143, _, none⟩) NB141_143.out _).trans (((cell_far (p := ⟨gb143, _, none⟩) NB141_143.out _).trans (hHeld.1)))))))), ((cell_far (p := ⟨gb143, _, none⟩) NB141_143.out _).trans (((cell_far (p := ⟨gb143, _, none⟩) NB141_143.out _).trans (((cell_far (p := ⟨gb143, _, none⟩) NB141_143.out _).trans (((cell_far (p := ⟨gb143, _, none⟩) NB141_143.out _).trans (hHeld.2.1)))))))), ((cell_far (p := ⟨gb143, _, none⟩) NB141_143.out _).trans (((cell_far (p := ⟨gb143, _, none⟩) NB141_143.out _).trans (((cell_far (p := ⟨gb143, _, none⟩) NB141_143.out _).trans (((cell_far (p := ⟨gb143, _, none⟩) NB141_143.out _).trans (hHeld.2.2.1)))))))), ((cell_far (p := ⟨gb143, _, none⟩) NB141_143.out _).trans (((cell_far (p := ⟨gb143, _, none⟩) NB141_143.out _).trans (((cell_far (p := ⟨gb143, _, none⟩) NB141_143.out _).trans (((cell_far (p := ⟨gb143, _, none⟩) NB141_143.out _).trans (hHeld.2.2.2.1)))))))), ((cell_far (p := ⟨gb143, _, none⟩) NB142_143.out _).trans (((cell_far (p := ⟨gb143, _, none⟩) NB142_143.out _).trans (((cell_far (p := ⟨gb143, _, none⟩) NB142_143.out _).trans (((cell_far (p := ⟨gb143, _, none⟩) NB142_143.out _).trans (hHeld.2.2.2.2.1)))))))), ((cell_far (p := ⟨gb143, _, none⟩) NB142_143.out _).trans (((cell_far (p := ⟨gb143, _, none⟩) NB142_143.out _).trans (((cell_far (p := ⟨gb143, _, none⟩) NB142_143.out _).trans (((cell_far (p := ⟨gb143, _, none⟩) NB142_143.out _).trans (hHeld.2.2.2.2.2.1)))))))), ((cell_far (p := ⟨gb143, _, none⟩) NB142_143.out _).trans (((cell_far (p := ⟨gb143, _, none⟩) NB142_143.out _).trans (((cell_far (p := ⟨gb143, _, none⟩) NB142_143.out _).trans (((cell_far (p := ⟨gb143, _, none⟩) NB142_143.out _).trans (hHeld.2.2.2.2.2.2.1)))))))), ((cell_far (p := ⟨gb143, _, none⟩) NB142_143.out _).trans (((cell_far (p := ⟨gb143, _, none⟩) NB142_143.out _).trans (((cell_far (p := ⟨gb143, _, none⟩) NB142_143.out _).trans (((cell_far (p := ⟨gb143, _, none⟩) NB142_143.out _).trans (hHeld.2.2.2.2.2.2.2))))))))⟩ (fun hHeld => ?_)
     clear hK K
     refine one_ (i := 3) (N := none) #[true, true, true, true, false] rfl rfl kk (by decide) (fun K hK => ?_)
     have hs92 : w87.cell? ⟨gb144, 0, none⟩ = some (.bool false) := bc BK144 0
     have hfs92 := blk_frozen BK144.out 0
     have hns92_0 := NB141_144.out
     have hns92_1 := NB142_144.out
     have hns92_2 := NB143_144.out
     have hms92_0 := NB144_141.out
     have hms92_1 := NB144_142.out
     have hms92_2 := NB144_143.out
     have hs93 : w87.cell? ⟨gb144, 1, none⟩ = some (.bool false) := bc BK144 1
     have hfs93 := blk_frozen BK144.out 1
     have hns93_0 := NB141_144.out
     have hns93_1 := NB142_144.out
     have hns93_2 := NB143_144.out
     have hms93_0 := NB144_141.out
     have hms93_1 := NB144_142.out
     have hms93_2 := NB144_143.out
     have hs94 : w87.cell? ⟨gb144, 2, none⟩ = some (.int .i64 0) := bc BK144 2
     have hfs94 := blk_frozen BK144.out 2
     have hns94_0 := NB141_144.out
     have hns94_1 := NB142_144.out
     have hns94_2 := NB143_144.out
     have hms94_0 := NB144_141.out
     have hms94_1 := NB144_142.out
     have hms94_2 := NB144_143.out
     have hs95 : w87.cell? ⟨gb144, 3, none⟩ = some (.int .i64 0) := bc BK144 3
     have hfs95 := blk_frozen BK144.out 3
     have hns95_0 := NB141_144.out
     have hns95_1 := NB142_144.out
     have hns95_2 := NB143_144.out
     have hms95_0 := NB144_141.out
     have hms95_1 := NB144_142.out
     have hms95_2 := NB144_143.out
     refine skip_ (w1 := ?_) (by rfl) rfl ?_ ?_
     rotate_left
     ·go_simp
      rfl
     refine hK.out _ _ ⟨((cell_far (p := ⟨gb144, _, none⟩) NB141_144.out _).trans (((cell_far (p := ⟨gb144, _, none⟩) NB141_144.out _).trans (((cell_far (p := ⟨gb144, _, none⟩) NB141_144.out _).trans (((cell_far (p := ⟨gb144, _, none⟩) NB141_144.out _).trans (hHeld.1)))))))), ((cell_far (p := ⟨gb144, _, none⟩) NB141_144.out _).trans (((cell_far (p := ⟨gb144, _, none⟩) NB141_144.out _).trans (((cell_far (p := ⟨gb144, _, none⟩) NB141_144.out _).trans (((cell_far (p := ⟨gb144, _, none⟩) NB141_144.out _).trans (hHeld.2.1)))))))), ((cell_far (p := ⟨gb144, _, none⟩) NB141_144.out _).trans (((cell_far (p := ⟨gb144, _, none⟩) NB141_144.out _).trans (((cell_far (p := ⟨gb144, _, none⟩) NB141_144.out _).trans (((cell_far (p := ⟨gb144, _, none⟩) NB141_144.out _).trans (hHeld.2.2.1)))))))), ((cell_far (p := ⟨gb144, _, none⟩) NB141_144.out _).trans (((cell_far (p := ⟨gb144, _, none⟩) NB141_144.out _).trans (((cell_far (p := ⟨gb144, _, none⟩) NB141_144.out _).trans (((cell_far (p := ⟨gb144, _, none⟩) NB141_144.out _).trans (hHeld.2.2.2.1)))))))), ((cell_far (p := ⟨gb144, _, none⟩) NB142_144.out _).trans (((cell_far (p := ⟨gb144, _, none⟩) NB142_144.out _).trans (((cell_far (p := ⟨gb144, _, none⟩) NB142_144.out _).trans (((cell_far (p := ⟨gb144, _, none⟩) NB142_144.out _).trans (hHeld.2.2.2.2.1)))))))), ((cell_far (p := ⟨gb144, _, none⟩) NB142_144.out _).trans (((cell_far (p := ⟨gb144, _, none⟩) NB142_144.out _).trans (((cell_far (p := ⟨gb144, _, none⟩) NB142_144.out _).trans (((cell_far (p := ⟨gb144, _, none⟩) NB142_144.out _).trans (hHeld.2.2.2.2.2.1)))))))), ((cell_far (p := ⟨gb144, _, none⟩) NB142_144.out _).trans (((cell_far (p := ⟨gb144, _, none⟩) NB142_144.out _).trans (((cell_far (p := ⟨gb144, _, none⟩) NB142_144.out _).trans (((cell_far (p := ⟨gb144, _, none⟩) NB142_144.out _).trans (hHeld.2.2.2.2.2.2.1)))))))), ((cell_far (p := ⟨gb144, _, none⟩) NB142_144.out _).trans (((cell_far (p := ⟨gb144, _, none⟩) NB142_144.out _).trans (((cell_far (p := ⟨gb144, _, none⟩) NB142_144.out _).trans (((cell_far (p := ⟨gb144, _, none⟩) NB142_144.out _).trans (hHeld.2.2.2.2.2.2.2))))))))⟩ (fun hHeld => ?_)
     clear hK K
     refine pure_ (i := 4) (N := some 8) (v := ?_) (a' := ?_) #[true, true, true, true, true] rfl rfl kk (fun _ _ _ h => h) (Or.inl ⟨by rfl, ?_⟩) ?_ ?_
     rotate_left
     ·intro w'
      go_simp
      with_reducible rfl
     rotate_left
     ·simp only [Act.put, List.setIfInBounds_toArray, List.set_cons_zero, List.set_cons_succ, i64_w, i32_w]
      rfl
     refine done_ kk ?_
     have hnb96 := NB142_141.out
     have hnc96 := NB141_142.out
     have hnb97 := NB142_143.out
     have hnc97 := NB143_142.out
     have hnb98 := NB142_144.out
     have hnc98 := NB144_142.out
     have hcz99_0 : w87.cell? ⟨gb142, 0, none⟩ = some (.bool a1_0) := bc BK142 0
     have hcz99_1 : w87.cell? ⟨gb142, 1, none⟩ = some (.bool a1_1) := bc BK142 1
     have hcz99_2 : w87.cell? ⟨gb142, 2, none⟩ = some (.int .i64 a1_2) := bc BK142 2
     have hcz99_3 : w87.cell? ⟨gb142, 3, none⟩ = some (.int .i64 a1_3) := bc BK142 3
     have hfz99_0 := blk_frozen BK142.out 0
     have hfz99_1 := blk_frozen BK142.out 1
     have hfz99_2 := blk_frozen BK142.out 2
     have hfz99_3 := blk_frozen BK142.out 3
     try go_wp2_with (first | (go_at_call 98; (with_reducible refine (interval_Refine_1.calls a1_0 a1_1 a1_2 a1_3 true _ A84.out).mono ?_); rintro e w100 ⟨rfl, hb⟩; have n0_ := am (blk_below (g := gb141) (o := .cells #[.bool a0_0, .bool a0_1, .int .i64 a0_2, .int .i64 a0_3] 49 (0, 0)) (by (with_reducible repeat (first | refine blk_drewN ?_ _ | refine blk_drew ?_ | refine blk_alloc ?_ _)); refine blk_far ?_ NB141_144.out _; (with_reducible repeat (first | refine blk_drewN ?_ _ | refine blk_drew ?_ | refine blk_alloc ?_ _)); refine blk_far ?_ NB141_144.out _; (with_reducible repeat (first | refine blk_drewN ?_ _ | refine blk_drew ?_ | refine blk_alloc ?_ _)); refine blk_far ?_ NB141_144.out _; (with_reducible repeat (first | refine blk_drewN ?_ _ | refine blk_drew ?_ | refine blk_alloc ?_ _)); refine blk_far ?_ NB141_144.out _; (with_reducible repeat (first | refine blk_drewN ?_ _ | refine blk_drew ?_ | refine blk_alloc ?_ _)); refine blk_far ?_ NB141_143.out _; (with_reducible repeat (first | refine blk_drewN ?_ _ | refine blk_drew ?_ | refine blk_alloc ?_ _)); refine blk_far ?_ NB141_143.out _; (with_reducible repeat (first | refine blk_drewN ?_ _ | refine blk_drew ?_ | refine blk_alloc ?_ _)); refine blk_far ?_ NB141_143.out _; (with_reducible repeat (first | refine blk_drewN ?_ _ | refine blk_drew ?_ | refine blk_alloc ?_ _)); refine blk_far ?_ NB141_143.out _; (with_reducible repeat (first | refine blk_drewN ?_ _ | refine blk_drew ?_ | refine blk_alloc ?_ _)); exact BK141.out) hb); have n1_ := am (blk_below (g := gb142) (o := .cells #[.bool a1_0, .bool a1_1, .int .i64 a1_2, .int .i64 a1_3] 49 (0, 0)) (by (with_reducible repeat (first | refine blk_drewN ?_ _ | refine blk_drew ?_ | refine blk_alloc ?_ _)); refine blk_far ?_ NB142_144.out _; (with_reducible repeat (first | refine blk_drewN ?_ _ | refine blk_drew ?_ | refine blk_alloc ?_ _)); refine blk_far ?_ NB142_144.out _; (with_reducible repeat (first | refine blk_drewN ?_ _ | refine blk_drew ?_ | refine blk_alloc ?_ _)); refine blk_far ?_ NB142_144.out _; (with_reducible repeat (first | refine blk_drewN ?_ _ | refine blk_drew ?_ | refine blk_alloc ?_ _)); refine blk_far ?_ NB142_144.out _; (with_reducible repeat (first | refine blk_drewN ?_ _ | refine blk_drew ?_ | refine blk_alloc ?_ _)); refine blk_far ?_ NB142_143.out _; (with_reducible repeat (first | refine blk_drewN ?_ _ | refine blk_drew ?_ | refine blk_alloc ?_ _)); refine blk_far ?_ NB142_143.out _; (with_reducible repeat (first | refine blk_drewN ?_ _ | refine blk_drew ?_ | refine blk_alloc ?_ _)); refine blk_far ?_ NB142_143.out _; (with_reducible repeat (first | refine blk_drewN ?_ _ | refine blk_drew ?_ | refine blk_alloc ?_ _)); refine blk_far ?_ NB142_143.out _; (with_reducible repeat (first | refine blk_drewN ?_ _ | refine blk_drew ?_ | refine blk_alloc ?_ _)); exact BK142.out) hb); have n2_ := am (blk_below (g := gb143) (o := .cells #[.bool a0_0, .bool a0_1, .int .i64 a0_2, .int .i64 a0_3] 49 (0, 0)) (by (with_reducible repeat (first | refine blk_drewN ?_ _ | refine blk_drew ?_ | refine blk_alloc ?_ _)); refine blk_far ?_ NB143_144.out _; (with_reducible repeat (first | refine blk_drewN ?_ _ | refine blk_drew ?_ | refine blk_alloc ?_ _)); refine blk_far ?_ NB143_144.out _; (with_reducible repeat (first | refine blk_drewN ?_ _ | refine blk_drew ?_ | refine blk_alloc ?_ _)); refine blk_far ?_ NB143_144.out _; (with_reducible repeat (first | refine blk_drewN ?_ _ | refine blk_drew ?_ | refine blk_alloc ?_ _)); refine blk_far ?_ NB143_144.out _; (with_reducible repeat (first | refine blk_drewN ?_ _ | refine blk_drew ?_ | refine blk_alloc ?_ _)); refine blk_put (cs := #[.bool a0_0, .bool a0_1, .int .i64 a0_2, .int .i64 0]) ?_ 3 _ rfl; (with_reducible repeat (first | refine blk_drewN ?_ _ | refine blk_drew ?_ | refine blk_alloc ?_ _)); refine blk_put (cs := #[.bool a0_0, .bool a0_1, .int .i64 0, .int .i64 0]) ?_ 2 _ rfl; (with_reducible repeat (first | refine blk_drewN ?_ _ | refine blk_drew ?_ | refine blk_alloc ?_ _)); refine blk_put (cs := #[.bool a0_0, .bool false, .int .i64 0, .int .i64 0]) ?_ 1 _ rfl; (with_reducible repeat (first | refine blk_drewN ?_ _ | refine blk_drew ?_ | refine blk_alloc ?_ _)); refine blk_put (cs := #[.bool false, .bool false, .int .i64 0, .int .i64 0]) ?_ 0 _ rfl; (with_reducible repeat (first | refine blk_drewN ?_ _ | refine blk_drew ?_ | refine blk_alloc ?_ _)); exact BK143.out) hb); have n3_ := am (blk_below (g := gb144) (o := .cells #[.bool a1_0, .bool a1_1, .int .i64 a1_2, .int .i64 a1_3] 49 (0, 0)) (by (with_reducible repeat (first | refine blk_drewN ?_ _ | refine blk_drew ?_ | refine blk_alloc ?_ _)); refine blk_put (cs := #[.bool a1_0, .bool a1_1, .int .i64 a1_2, .int .i64 0]) ?_ 3 _ rfl; (with_reducible repeat (first | refine blk_drewN ?_ _ | refine blk_drew ?_ | refine blk_alloc ?_ _)); refine blk_put (cs := #[.bool a1_0, .bool a1_1, .int .i64 0, .int .i64 0]) ?_ 2 _ rfl; (with_reducible repeat (first | refine blk_drewN ?_ _ | refine blk_drew ?_ | refine blk_alloc ?_ _)); refine blk_put (cs := #[.bool a1_0, .bool false, .int .i64 0, .int .i64 0]) ?_ 1 _ rfl; (with_reducible repeat (first | refine blk_drewN ?_ _ | refine blk_drew ?_ | refine blk_alloc ?_ _)); refine blk_put (cs := #[.bool false, .bool false, .int .i64 0, .int .i64 0]) ?_ 0 _ rfl; (with_reducible repeat (first | refine blk_drewN ?_ _ | refine blk_drew ?_ | refine blk_alloc ?_ _)); refine blk_far ?_ NB144_143.out _; (with_reducible repeat (first | refine blk_drewN ?_ _ | refine blk_drew ?_ | refine blk_alloc ?_ _)); refine blk_far ?_ NB144_143.out _; (with_reducible repeat (first | refine blk_drewN ?_ _ | refine blk_drew ?_ | refine blk_alloc ?_ _)); refine blk_far ?_ NB144_143.out _; (with_reducible repeat (first | refine blk_drewN ?_ _ | refine blk_drew ?_ | refine blk_alloc ?_ _)); refine blk_far ?_ NB144_143.out _; (with_reducible repeat (first | refine blk_drewN ?_ _ | refine blk_drew ?_ | refine blk_alloc ?_ _)); exact BK144.out) hb); have n4_ := am (below_step pw hb); clear BK141; clear BK142; clear BK143; clear BK144; clear HB; have BK141 := n0_; have BK142 := n1_; have BK143 := n2_; have BK144 := n3_; have HB := n4_; clear n0_ n1_ n2_ n3_ n4_; (try clear hb); (try clear hb2); (try clear hk); (try clear hi); have hnb101 := NB141_143.out; have hnc101 := NB143_141.out; have hnb102 := NB141_144.out; have hnc102 := NB144_141.out; have hcz103_0 : w100.cell? ⟨gb141, 0, none⟩ = some (.bool a0_0) := bc BK141 0; have hcz103_1 : w100.cell? ⟨gb141, 1, none⟩ = some (.bool a0_1) := bc BK141 1; have hcz103_2 : w100.cell? ⟨gb141, 2, none⟩ = some (.int .i64 a0_2) := bc BK141 2; have hcz103_3 : w100.cell? ⟨gb141, 3, none⟩ = some (.int .i64 a0_3) := bc BK141 3; have hfz103_0 := blk_frozen BK141.out 0; have hfz103_1 := blk_frozen BK141.out 1; have hfz103_2 := blk_frozen BK141.out 2; have hfz103_3 := blk_frozen BK141.out 3; have hcz104_0 : w100.cell? ⟨gb142, 0, none⟩ = some (.bool a1_0) := bc BK142 0; have hcz104_1 : w100.cell? ⟨gb142, 1, none⟩ = some (.bool a1_1) := bc BK142 1; have hcz104_2 : w100.cell? ⟨gb142, 2, none⟩ = some (.int .i64 a1_2) := bc BK142 2; have hcz104_3 : w100.cell? ⟨gb142, 3, none⟩ = some (.int .i64 a1_3) := bc BK142 3; have hfz104_0 := blk_frozen BK142.out 0; have hfz104_1 := blk_frozen BK142.out 1; have hfz104_2 := blk_frozen BK142.out 2; have hfz104_3 := blk_frozen BK142.out 3) | ((with_reducible refine gate_callee (f := 99) rfl ?_); refine goesL_ (some 80) rfl rfl Tryd.func99 kk rfl #[.agg #[.bool a0_0, .bool a0_1, .int .i64 a0_2, .int .i64 a0_3], .int .i64 a1_2] rfl (by (try simp only [List.map_toArray, List.map_cons, List.map_nil]); first | done | rfl | (simp only [List.length_drop, List.length_take]; rfl)) ?_; (with_reducible refine (interval_without.calls k a0_0 a0_1 a0_2 a0_3 a1_2 t189 t190 t191 t192 t193 _ A86.out).mono ?_); rintro e w105 ⟨rfl, hb⟩; refine ⟨_, rfl, ?_⟩; have n0_ := bb BK141 hb; have n1_ := bb BK142 hb; have n2_ := bb BK143 hb; have n3_ := bb BK144 hb; have n4_ := am (below_step pw hb); clear BK141; clear BK142; clear BK143; clear BK144; clear HB; have BK141 := n0_; have BK142 := n1_; have BK143 := n2_; have BK144 := n3_; have HB := n4_; clear n0_ n1_ n2_ n3_ n4_; (try clear hb); (try clear hb2); (try clear hk); (try clear hi); have hnb106 := NB143_144.out; have hnc106 := NB144_143.out; have hcz107_0 : w105.cell? ⟨gb143, 0, none⟩ = some (.bool a0_0) := bc BK143 0; have hcz107_1 : w105.cell? ⟨gb143, 1, none⟩ = some (.bool a0_1) := bc BK143 1; have hcz107_2 : w105.cell? ⟨gb143, 2, none⟩ = some (.int .i64 a0_2) := bc BK143 2; have hcz107_3 : w105.cell? ⟨gb143, 3, none⟩ = some (.int .i64 a0_3) := bc BK143 3; have hfz107_0 := blk_frozen BK143.out 0; have hfz107_1 := blk_frozen BK143.out 1; have hfz107_2 := blk_frozen BK143.out 2; have hfz107_3 := blk_frozen BK143.out 3))
     go_meet
     case rel => exact ⟨_, (t193), (t189), (t190), (t191), (t192), (a1_0), (a1_1), (a1_2), (a1_3), pr, H', ⟨by first | omega | exact Nat.le_refl _⟩, ⟨by (with_reducible repeat (first | refine blk_drewN ?_ _ | refine blk_drew ?_ | refine blk_alloc ?_ _)); refine blk_far ?_ NB141_143.out _; (with_reducible repeat (first | refine blk_drewN ?_ _ | refine blk_drew ?_ | refine blk_alloc ?_ _)); refine blk_far ?_ NB141_143.out _; (with_reducible repeat (first | refine blk_drewN ?_ _ | refine blk_drew ?_ | refine blk_alloc ?_ _)); refine blk_far ?_ NB141_143.out _; (with_reducible repeat (first | refine blk_drewN ?_ _ | refine blk_drew ?_ | refine blk_alloc ?_ _)); refine blk_far ?_ NB141_143.out _; (with_reducible repeat (first | refine blk_drewN ?_ _ | refine blk_drew ?_ | refine blk_alloc ?_ _)); exact BK141.out⟩, ⟨by (with_reducible repeat (first | refine blk_drewN ?_ _ | refine blk_drew ?_ | refine blk_alloc ?_ _)); refine blk_far ?_ NB142_143.out _; (with_reducible repeat (first | refine blk_drewN ?_ _ | refine blk_drew ?_ | refine blk_alloc ?_ _)); refine blk_far ?_ NB142_143.out _; (with_reducible repeat (first | refine blk_drewN ?_ _ | refine blk_drew ?_ | refine blk_alloc ?_ _)); refine blk_far ?_ NB142_143.out _; (with_reducible repeat (first | refine blk_drewN ?_ _ | refine blk_drew ?_ | refine blk_alloc ?_ _)); refine blk_far ?_ NB142_143.out _; (with_reducible repeat (first | refine blk_drewN ?_ _ | refine blk_drew ?_ | refine blk_alloc ?_ _)); exact BK142.out⟩, ⟨by (with_reducible repeat (first | refine blk_drewN ?_ _ | refine blk_drew ?_ | refine blk_alloc ?_ _)); refine blk_put (cs := #[.bool t189, .bool t190, .int .i64 t191, .int .i64 a0_3]) ?_ 3 _ rfl; (with_reducible repeat (first | refine blk_drewN ?_ _ | refine blk_drew ?_ | refine blk_alloc ?_ _)); refine blk_put (cs := #[.bool t189, .bool t190, .int .i64 a0_2, .int .i64 a0_3]) ?_ 2 _ rfl; (with_reducible repeat (first | refine blk_drewN ?_ _ | refine blk_drew ?_ | refine blk_alloc ?_ _)); refine blk_put (cs := #[.bool t189, .bool a0_1, .int .i64 a0_2, .int .i64 a0_3]) ?_ 1 _ rfl; (with_reducible repeat (first | refine blk_drewN ?_ _ | refine blk_drew ?_ | refine blk_alloc ?_ _)); refine blk_put (cs := #[.bool a0_0, .bool a0_1, .int .i64 a0_2, .int .i64 a0_3]) ?_ 0 _ rfl; (with_reducible repeat (first | refine blk_drewN ?_ _ | refine blk_drew ?_ | refine blk_alloc ?_ _)); exact BK143.out⟩, ⟨by (with_reducible repeat (first | refine blk_drewN ?_ _ | refine blk_drew ?_ | refine blk_alloc ?_ _)); refine blk_far ?_ NB144_143.out _; (with_reducible repeat (first | refine blk_drewN ?_ _ | refine blk_drew ?_ | refine blk_alloc ?_ _)); refine blk_far ?_ NB144_143.out _; (with_reducible repeat (first | refine blk_drewN ?_ _ | refine blk_drew ?_ | refine blk_alloc ?_ _)); refine blk_far ?_ NB144_143.out _; (with_reducible repeat (first | refine blk_drewN ?_ _ | refine blk_drew ?_ | refine blk_alloc ?_ _)); refine blk_far ?_ NB144_143.out _; (with_reducible repeat (first | refine blk_drewN ?_ _ | refine blk_drew ?_ | refine blk_alloc ?_ _)); exact BK144.out⟩, ⟨pw⟩⟩
    replace c85 := Bool.eq_false_iff.mpr c85
    subst c85
    have H1 : ((interval_Refine_1.f a0_0 a0_1 a0_2 a0_3).bind fun t194 => (if t194 = true then ((interval_without.f k a1_0 a1_1 a1_2 a1_3 a0_2).bind fun bt195 => (interval_Refine.j0 k bt195.2.2.2.2 a0_0 a0_1 a0_2 a0_3 bt195.1 bt195.2.1 bt195.2.2.1 bt195.2.2.2.1)) else (interval_Refine.j0 k true a0_0 a0_1 a0_2 a0_3 a1_0 a1_1 a1_2 a1_3))) = some (r1, r2, r3, r4, r5, r6, r7, r8, r9, r10) := by rw [if_neg (show ¬ (false = true) by decide)] at H; exact H
    clear H
    have H := H1
    clear H1
    replace H := Option.bind_eq_some_iff.mp H
    obtain ⟨t194, A1080, H⟩ := H
    replace H : (if t194 = true then ((interval_without.f k a1_0 a1_1 a1_2 a1_3 a0_2).bind fun bt195 => (interval_Refine.j0 k bt195.2.2.2.2 a0_0 a0_1 a0_2 a0_3 bt195.1 bt195.2.1 bt195.2.2.1 bt195.2.2.2.1)) else (interval_Refine.j0 k true a0_0 a0_1 a0_2 a0_3 a1_0 a1_1 a1_2 a1_3)) = some (r1, r2, r3, r4, r5, r6, r7, r8, r9, r10) := H
    have A108 := am A1080
    clear A1080
    by_cases c109 : t194 = true
    ·subst c109
     have H1 : ((interval_without.f k a1_0 a1_1 a1_2 a1_3 a0_2).bind fun bt195 => (interval_Refine.j0 k bt195.2.2.2.2 a0_0 a0_1 a0_2 a0_3 bt195.1 bt195.2.1 bt195.2.2.1 bt195.2.2.2.1)) = some (r1, r2, r3, r4, r5, r6, r7, r8, r9, r10) := by rw [if_pos rfl] at H; exact H
     clear H
     have H := H1
     clear H1
     replace H := Option.bind_eq_some_iff.mp H
     obtain ⟨⟨t195, t196, t197, t198, t199⟩, A1100, H⟩ := H
     replace H : (interval_Refine.j0 k t199 a0_0 a0_1 a0_2 a0_3 t195 t196 t197 t198) = some (r1, r2, r3, r4, r5, r6, r7, r8, r9, r10) := H
     have A110 := am A1100
     clear A1100
     have H' := am H
     clear H
     try go_wp2
     have n0_ := am (blk_drew BK141.out)
     have n1_ := am (blk_drew BK142.out)
     have n2_ := am (blk_drew BK143.out)
     have n3_ := am (blk_drew BK144.out)
     have n4_ := am (below_drew1 HB.out)
     clear BK141 BK142 BK143 BK144 HB
     revert n0_ n1_ n2_ n3_ n4_
     intro BK141 BK142 BK143 BK144 HB
     refine start_ (n := 5) (S := fun w' => w'.cell? ⟨gb141, 0, none⟩ = some (.bool a0_0) ∧ w'.cell? ⟨gb141, 1, none⟩ = some (.bool a0_1) ∧ w'.cell? ⟨gb141, 2, none⟩ = some (.int .i64 a0_2) ∧ w'.cell? ⟨gb141, 3, none⟩ = some (.int .i64 a0_3) ∧ w'.cell? ⟨gb142, 0, none⟩ = some (.bool a1_0) ∧ w'.cell? ⟨gb142, 1, none⟩ = some (.bool a1_1) ∧ w'.cell? ⟨gb142, 2, none⟩ = some (.int .i64 a1_2) ∧ w'.cell? ⟨gb142, 3, none⟩ = some (.int .i64 a1_3)) (ds := []) #[false, false, false, false, false] kk rfl rfl ⟨bc BK141 0, bc BK141 1, bc BK141 2, bc BK141 3, bc BK142 0, bc BK142 1, bc BK142 2, bc BK142 3⟩ (fun hHeld => ?_)
     generalize w17.drew = w111 at BK141 BK142 BK143 BK144 HB hHeld ⊢
     refine take_ (i := 0) (N := some 71) (v := ?_) (a' := ?_) #[true, false, false, false, false] rfl rfl kk (fun _ _ _ h => h) (Or.inl ⟨by rfl, ?_⟩) hHeld ?_ ?_
     rotate_left
     ·rintro w' ⟨s0, s1, s2, s3, s4, s5, s6, s7⟩
      go_simp
      with_reducible rfl
     rotate_left
     ·simp only [Act.put, List.setIfInBounds_toArray, List.set_cons_zero, List.set_cons_succ, i64_w, i32_w]
      rfl
     refine take_ (i := 1) (N := some 72) (v := ?_) (a' := ?_) #[true, true, false, false, false] rfl rfl kk (fun _ _ _ h => h) (Or.inl ⟨by rfl, ?_⟩) hHeld ?_ ?_
     rotate_left
     ·rintro w' ⟨s0, s1, s2, s3, s4, s5, s6, s7⟩
      go_simp
      with_reducible rfl
     rotate_left
     ·simp only [Act.put, List.setIfInBounds_toArray, List.set_cons_zero, List.set_cons_succ, i64_w, i32_w]
      rfl
     refine one_ (i := 2) (N := none) #[true, true, true, false, false] rfl rfl kk (by decide) (fun K hK => ?_)
     have hs112 : w111.cell? ⟨gb143, 0, none⟩ = some (.bool false) := bc BK143 0
     have hfs112 := blk_frozen BK143.out 0
     have hns112_0 := NB141_143.out
     have hns112_1 := NB142_143.out
     have hns112_3 := NB144_143.out
     have hms112_0 := NB143_141.out
     have hms112_1 := NB143_142.out
     have hms112_3 := NB143_144.out
     have hs113 : w111.cell? ⟨gb143, 1, none⟩ = some (.bool false) := bc BK143 1
     have hfs113 := blk_frozen BK143.out 1
     have hns113_0 := NB141_143.out
     have hns113_1 := NB142_143.out
     have hns113_3 := NB144_143.out
     have hms113_0 := NB143_141.out
     have hms113_1 := NB143_142.out
     have hms113_3 := NB143_144.out
     have hs114 : w111.cell? ⟨gb143, 2, none⟩ = some (.int .i64 0) := bc BK143 2
     have hfs114 := blk_frozen BK143.out 2
     have hns114_0 := NB141_143.out
     have hns114_1 := NB142_143.out
     have hns114_3 := NB144_143.out
     have hms114_0 := NB143_141.out
     have hms114_1 := NB143_142.out
     have hms114_3 := NB143_144.out
     have hs115 : w111.cell? ⟨gb143, 3, none⟩ = some (.int .i64 0) := bc BK143 3
     have hfs115 := blk_frozen BK143.out 3
     have hns115_0 := NB141_143.out
     have hns115_1 := NB142_143.out
     have hns115_3 := NB144_143.out
     have hms115_0 := NB143_141.out
     have hms115_1 := NB143_142.out
     have hms115_3 := NB143_144.out
     refine skip_ (w1 := ?_) (by rfl) rfl ?_ ?_
     rotate_left
     ·go_simp
      rfl
     refine hK.out _ _ ⟨((cell_far (p := ⟨gb143, _, none⟩) NB141_143.out _).trans (((cell_far (p := ⟨gb143, _, none⟩) NB141_143.out _).trans (((cell_far (p := ⟨gb143, _, none⟩) NB141_143.out _).trans (((cell_far (p := ⟨gb143, _, none⟩) NB141_143.out _).trans (hHeld.1)))))))), ((cell_far (p := ⟨gb143, _, none⟩) NB141_143.out _).trans (((cell_far (p := ⟨gb143, _, none⟩) NB141_143.out _).trans (((cell_far (p := ⟨gb143, _, none⟩) NB141_143.out _).trans (((cell_far (p := ⟨gb143, _, none⟩) NB141_143.out _).trans (hHeld.2.1)))))))), ((cell_far (p := ⟨gb143, _, none⟩) NB141_143.out _).trans (((cell_far (p := ⟨gb143, _, none⟩) NB141_143.out _).trans (((cell_far (p := ⟨gb143, _, none⟩) NB141_143.out _).trans (((cell_far (p := ⟨gb143, _, none⟩) NB141_143.out _).trans (hHeld.2.2.1)))))))), ((cell_far (p := ⟨gb143, _, none⟩) NB141_143.out _).trans (((cell_far (p := ⟨gb143, _, none⟩) NB141_143.out _).trans (((cell_far (p := ⟨gb143, _, none⟩) NB141_143.out _).trans (((cell_far (p := ⟨gb143, _, none⟩) NB141_143.out _).trans (hHeld.2.2.2.1)))))))), ((cell_far (p := ⟨gb143, _, none⟩) NB142_143.out _).trans (((cell_far (p := ⟨gb143, _, none⟩) NB142_143.out _).trans (((cell_far (p := ⟨gb143, _, none⟩) NB142_143.out _).trans (((cell_far (p := ⟨gb143, _, none⟩) NB142_143.out _).trans (hHeld.2.2.2.2.1)))))))), ((cell_far (p := ⟨gb143, _, none⟩) NB142_143.out _).trans (((cell_far (p := ⟨gb143, _, none⟩) NB142_143.out _).trans (((cell_far (p := ⟨gb143, _, none⟩) NB142_143.out _).trans (((cell_far (p := ⟨gb143, _, none⟩) NB142_143.out _).trans (hHeld.2.2.2.2.2.1)))))))), ((cell_far (p := ⟨gb143, _, none⟩) NB142_143.out _).trans (((cell_far (p := ⟨gb143, _, none⟩) NB142_143.out _).trans (((cell_far (p := ⟨gb143, _, none⟩) NB142_143.out _).trans (((cell_far (p := ⟨gb143, _, none⟩) NB142_143.out _).trans (hHeld.2.2.2.2.2.2.1)))))))), ((cell_far (p := ⟨gb143, _, none⟩) NB142_143.out _).trans (((cell_far (p := ⟨gb143, _, none⟩) NB142_143.out _).trans (((cell_far (p := ⟨gb143, _, none⟩) NB142_143.out _).trans (((cell_far (p := ⟨gb143, _, none⟩) NB142_143.out _).trans (hHeld.2.2.2.2.2.2.2))))))))⟩ (fun hHeld => ?_)
     clear hK K
     refine one_ (i := 3) (N := none) #[true, true, true, true, false] rfl rfl kk (by decide) (fun K hK => ?_)
     have hs116 : w111.cell? ⟨gb144, 0, none⟩ = some (.bool false) := bc BK144 0
     have hfs116 := blk_frozen BK144.out 0
     have hns116_0 := NB141_144.out
     have hns116_1 := NB142_144.out
     have hns116_2 := NB143_144.out
     have hms116_0 := NB144_141.out
     have hms116_1 := NB144_142.out
     have hms116_2 := NB144_143.out
     have hs117 : w111.cell? ⟨gb144, 1, none⟩ = some (.bool false) := bc BK144 1
     have hfs117 := blk_frozen BK144.out 1
     have hns117_0 := NB141_144.out
     have hns117_1 := NB142_144.out
     have hns117_2 := NB143_144.out
     have hms117_0 := NB144_141.out
     have hms117_1 := NB144_142.out
     have hms117_2 := NB144_143.out
     have hs118 : w111.cell? ⟨gb144, 2, none⟩ = some (.int .i64 0) := bc BK144 2
     have hfs118 := blk_frozen BK144.out 2
     have hns118_0 := NB141_144.out
     have hns118_1 := NB142_144.out
     have hns118_2 := NB143_144.out
     have hms118_0 := NB144_141.out
     have hms118_1 := NB144_142.out
     have hms118_2 := NB144_143.out
     have hs119 : w111.cell? ⟨gb144, 3, none⟩ = some (.int .i64 0) := bc BK144 3
     have hfs119 := blk_frozen BK144.out 3
     have hns119_0 := NB141_144.out
     have hns119_1 := NB142_144.out
     have hns119_2 := NB143_144.out
     have hms119_0 := NB144_141.out
     have hms119_1 := NB144_142.out
     have hms119_2 := NB144_143.out
     refine skip_ (w1 := ?_) (by rfl) rfl ?_ ?_
     rotate_left
     ·go_simp
      rfl
     refine hK.out _ _ ⟨((cell_far (p := ⟨gb144, _, none⟩) NB141_144.out _).trans (((cell_far (p := ⟨gb144, _, none⟩) NB141_144.out _).trans (((cell_far (p := ⟨gb144, _, none⟩) NB141_144.out _).trans (((cell_far (p := ⟨gb144, _, none⟩) NB141_144.out _).trans (hHeld.1)))))))), ((cell_far (p := ⟨gb144, _, none⟩) NB141_144.out _).trans (((cell_far (p := ⟨gb144, _, none⟩) NB141_144.out _).trans (((cell_far (p := ⟨gb144, _, none⟩) NB141_144.out _).trans (((cell_far (p := ⟨gb144, _, none⟩) NB141_144.out _).trans (hHeld.2.1)))))))), ((cell_far (p := ⟨gb144, _, none⟩) NB141_144.out _).trans (((cell_far (p := ⟨gb144, _, none⟩) NB141_144.out _).trans (((cell_far (p := ⟨gb144, _, none⟩) NB141_144.out _).trans (((cell_far (p := ⟨gb144, _, none⟩) NB141_144.out _).trans (hHeld.2.2.1)))))))), ((cell_far (p := ⟨gb144, _, none⟩) NB141_144.out _).trans (((cell_far (p := ⟨gb144, _, none⟩) NB141_144.out _).trans (((cell_far (p := ⟨gb144, _, none⟩) NB141_144.out _).trans (((cell_far (p := ⟨gb144, _, none⟩) NB141_144.out _).trans (hHeld.2.2.2.1)))))))), ((cell_far (p := ⟨gb144, _, none⟩) NB142_144.out _).trans (((cell_far (p := ⟨gb144, _, none⟩) NB142_144.out _).trans (((cell_far (p := ⟨gb144, _, none⟩) NB142_144.out _).trans (((cell_far (p := ⟨gb144, _, none⟩) NB142_144.out _).trans (hHeld.2.2.2.2.1)))))))), ((cell_far (p := ⟨gb144, _, none⟩) NB142_144.out _).trans (((cell_far (p := ⟨gb144, _, none⟩) NB142_144.out _).trans (((cell_far (p := ⟨gb144, _, none⟩) NB142_144.out _).trans (((cell_far (p := ⟨gb144, _, none⟩) NB142_144.out _).trans (hHeld.2.2.2.2.2.1)))))))), ((cell_far (p := ⟨gb144, _, none⟩) NB142_144.out _).trans (((cell_far (p := ⟨gb144, _, none⟩) NB142_144.out _).trans (((cell_far (p := ⟨gb144, _, none⟩) NB142_144.out _).trans (((cell_far (p := ⟨gb144, _, none⟩) NB142_144.out _).trans (hHeld.2.2.2.2.2.2.1)))))))), ((cell_far (p := ⟨gb144, _, none⟩) NB142_144.out _).trans (((cell_far (p := ⟨gb144, _, none⟩) NB142_144.out _).trans (((cell_far (p := ⟨gb144, _, none⟩) NB142_144.out _).trans (((cell_far (p := ⟨gb144, _, none⟩) NB142_144.out _).trans (hHeld.2.2.2.2.2.2.2))))))))⟩ (fun hHeld => ?_)
     clear hK K
     refine pure_ (i := 4) (N := some 8) (v := ?_) (a' := ?_) #[true, true, true, true, true] rfl rfl kk (fun _ _ _ h => h) (Or.inl ⟨by rfl, ?_⟩) ?_ ?_
     rotate_left
     ·intro w'
      go_simp
      with_reducible rfl
     rotate_left
     ·simp only [Act.put, List.setIfInBounds_toArray, List.set_cons_zero, List.set_cons_succ, i64_w, i32_w]
      rfl
     refine done_ kk ?_
     have hnb120 := NB142_141.out
     have hnc120 := NB141_142.out
     have hnb121 := NB142_143.out
     have hnc121 := NB143_142.out
     have hnb122 := NB142_144.out
     have hnc122 := NB144_142.out
     have hcz123_0 : w111.cell? ⟨gb142, 0, none⟩ = some (.bool a1_0) := bc BK142 0
     have hcz123_1 : w111.cell? ⟨gb142, 1, none⟩ = some (.bool a1_1) := bc BK142 1
     have hcz123_2 : w111.cell? ⟨gb142, 2, none⟩ = some (.int .i64 a1_2) := bc BK142 2
     have hcz123_3 : w111.cell? ⟨gb142, 3, none⟩ = some (.int .i64 a1_3) := bc BK142 3
     have hfz123_0 := blk_frozen BK142.out 0
     have hfz123_1 := blk_frozen BK142.out 1
     have hfz123_2 := blk_frozen BK142.out 2
     have hfz123_3 := blk_frozen BK142.out 3
     try go_wp2_with (first | (go_at_call 98; (with_reducible refine (interval_Refine_1.calls a1_0 a1_1 a1_2 a1_3 false _ A84.out).mono ?_); rintro e w124 ⟨rfl, hb⟩; have n0_ := am (blk_below (g := gb141) (o := .cells #[.bool a0_0, .bool a0_1, .int .i64 a0_2, .int .i64 a0_3] 49 (0, 0)) (by (with_reducible repeat (first | refine blk_drewN ?_ _ | refine blk_drew ?_ | refine blk_alloc ?_ _)); refine blk_far ?_ NB141_144.out _; (with_reducible repeat (first | refine blk_drewN ?_ _ | refine blk_drew ?_ | refine blk_alloc ?_ _)); refine blk_far ?_ NB141_144.out _; (with_reducible repeat (first | refine blk_drewN ?_ _ | refine blk_drew ?_ | refine blk_alloc ?_ _)); refine blk_far ?_ NB141_144.out _; (with_reducible repeat (first | refine blk_drewN ?_ _ | refine blk_drew ?_ | refine blk_alloc ?_ _)); refine blk_far ?_ NB141_144.out _; (with_reducible repeat (first | refine blk_drewN ?_ _ | refine blk_drew ?_ | refine blk_alloc ?_ _)); refine blk_far ?_ NB141_143.out _; (with_reducible repeat (first | refine blk_drewN ?_ _ | refine blk_drew ?_ | refine blk_alloc ?_ _)); refine blk_far ?_ NB141_143.out _; (with_reducible repeat (first | refine blk_drewN ?_ _ | refine blk_drew ?_ | refine blk_alloc ?_ _)); refine blk_far ?_ NB141_143.out _; (with_reducible repeat (first | refine blk_drewN ?_ _ | refine blk_drew ?_ | refine blk_alloc ?_ _)); refine blk_far ?_ NB141_143.out _; (with_reducible repeat (first | refine blk_drewN ?_ _ | refine blk_drew ?_ | refine blk_alloc ?_ _)); exact BK141.out) hb); have n1_ := am (blk_below (g := gb142) (o := .cells #[.bool a1_0, .bool a1_1, .int .i64 a1_2, .int .i64 a1_3] 49 (0, 0)) (by (with_reducible repeat (first | refine blk_drewN ?_ _ | refine blk_drew ?_ | refine blk_alloc ?_ _)); refine blk_far ?_ NB142_144.out _; (with_reducible repeat (first | refine blk_drewN ?_ _ | refine blk_drew ?_ | refine blk_alloc ?_ _)); refine blk_far ?_ NB142_144.out _; (with_reducible repeat (first | refine blk_drewN ?_ _ | refine blk_drew ?_ | refine blk_alloc ?_ _)); refine blk_far ?_ NB142_144.out _; (with_reducible repeat (first | refine blk_drewN ?_ _ | refine blk_drew ?_ | refine blk_alloc ?_ _)); refine blk_far ?_ NB142_144.out _; (with_reducible repeat (first | refine blk_drewN ?_ _ | refine blk_drew ?_ | refine blk_alloc ?_ _)); refine blk_far ?_ NB142_143.out _; (with_reducible repeat (first | refine blk_drewN ?_ _ | refine blk_drew ?_ | refine blk_alloc ?_ _)); refine blk_far ?_ NB142_143.out _; (with_reducible repeat (first | refine blk_drewN ?_ _ | refine blk_drew ?_ | refine blk_alloc ?_ _)); refine blk_far ?_ NB142_143.out _; (with_reducible repeat (first | refine blk_drewN ?_ _ | refine blk_drew ?_ | refine blk_alloc ?_ _)); refine blk_far ?_ NB142_143.out _; (with_reducible repeat (first | refine blk_drewN ?_ _ | refine blk_drew ?_ | refine blk_alloc ?_ _)); exact BK142.out) hb); have n2_ := am (blk_below (g := gb143) (o := .cells #[.bool a0_0, .bool a0_1, .int .i64 a0_2, .int .i64 a0_3] 49 (0, 0)) (by (with_reducible repeat (first | refine blk_drewN ?_ _ | refine blk_drew ?_ | refine blk_alloc ?_ _)); refine blk_far ?_ NB143_144.out _; (with_reducible repeat (first | refine blk_drewN ?_ _ | refine blk_drew ?_ | refine blk_alloc ?_ _)); refine blk_far ?_ NB143_144.out _; (with_reducible repeat (first | refine blk_drewN ?_ _ | refine blk_drew ?_ | refine blk_alloc ?_ _)); refine blk_far ?_ NB143_144.out _; (with_reducible repeat (first | refine blk_drewN ?_ _ | refine blk_drew ?_ | refine blk_alloc ?_ _)); refine blk_far ?_ NB143_144.out _; (with_reducible repeat (first | refine blk_drewN ?_ _ | refine blk_drew ?_ | refine blk_alloc ?_ _)); refine blk_put (cs := #[.bool a0_0, .bool a0_1, .int .i64 a0_2, .int .i64 0]) ?_ 3 _ rfl; (with_reducible repeat (first | refine blk_drewN ?_ _ | refine blk_drew ?_ | refine blk_alloc ?_ _)); refine blk_put (cs := #[.bool a0_0, .bool a0_1, .int .i64 0, .int .i64 0]) ?_ 2 _ rfl; (with_reducible repeat (first | refine blk_drewN ?_ _ | refine blk_drew ?_ | refine blk_alloc ?_ _)); refine blk_put (cs := #[.bool a0_0, .bool false, .int .i64 0, .int .i64 0]) ?_ 1 _ rfl; (with_reducible repeat (first | refine blk_drewN ?_ _ | refine blk_drew ?_ | refine blk_alloc ?_ _)); refine blk_put (cs := #[.bool false, .bool false, .int .i64 0, .int .i64 0]) ?_ 0 _ rfl; (with_reducible repeat (first | refine blk_drewN ?_ _ | refine blk_drew ?_ | refine blk_alloc ?_ _)); exact BK143.out) hb); have n3_ := am (blk_below (g := gb144) (o := .cells #[.bool a1_0, .bool a1_1, .int .i64 a1_2, .int .i64 a1_3] 49 (0, 0)) (by (with_reducible repeat (first | refine blk_drewN ?_ _ | refine blk_drew ?_ | refine blk_alloc ?_ _)); refine blk_put (cs := #[.bool a1_0, .bool a1_1, .int .i64 a1_2, .int .i64 0]) ?_ 3 _ rfl; (with_reducible repeat (first | refine blk_drewN ?_ _ | refine blk_drew ?_ | refine blk_alloc ?_ _)); refine blk_put (cs := #[.bool a1_0, .bool a1_1, .int .i64 0, .int .i64 0]) ?_ 2 _ rfl; (with_reducible repeat (first | refine blk_drewN ?_ _ | refine blk_drew ?_ | refine blk_alloc ?_ _)); refine blk_put (cs := #[.bool a1_0, .bool false, .int .i64 0, .int .i64 0]) ?_ 1 _ rfl; (with_reducible repeat (first | refine blk_drewN ?_ _ | refine blk_drew ?_ | refine blk_alloc ?_ _)); refine blk_put (cs := #[.bool false, .bool false, .int .i64 0, .int .i64 0]) ?_ 0 _ rfl; (with_reducible repeat (first | refine blk_drewN ?_ _ | refine blk_drew ?_ | refine blk_alloc ?_ _)); refine blk_far ?_ NB144_143.out _; (with_reducible repeat (first | refine blk_drewN ?_ _ | refine blk_drew ?_ | refine blk_alloc ?_ _)); refine blk_far ?_ NB144_143.out _; (with_reducible repeat (first | refine blk_drewN ?_ _ | refine blk_drew ?_ | refine blk_alloc ?_ _)); refine blk_far ?_ NB144_143.out _; (with_reducible repeat (first | refine blk_drewN ?_ _ | refine blk_drew ?_ | refine blk_alloc ?_ _)); refine blk_far ?_ NB144_143.out _; (with_reducible repeat (first | refine blk_drewN ?_ _ | refine blk_drew ?_ | refine blk_alloc ?_ _)); exact BK144.out) hb); have n4_ := am (below_step pw hb); clear BK141; clear BK142; clear BK143; clear BK144; clear HB; have BK141 := n0_; have BK142 := n1_; have BK143 := n2_; have BK144 := n3_; have HB := n4_; clear n0_ n1_ n2_ n3_ n4_; (try clear hb); (try clear hb2); (try clear hk); (try clear hi); have hnb125 := NB141_143.out; have hnc125 := NB143_141.out; have hnb126 := NB141_144.out; have hnc126 := NB144_141.out; have hcz127_0 : w124.cell? ⟨gb141, 0, none⟩ = some (.bool a0_0) := bc BK141 0; have hcz127_1 : w124.cell? ⟨gb141, 1, none⟩ = some (.bool a0_1) := bc BK141 1; have hcz127_2 : w124.cell? ⟨gb141, 2, none⟩ = some (.int .i64 a0_2) := bc BK141 2; have hcz127_3 : w124.cell? ⟨gb141, 3, none⟩ = some (.int .i64 a0_3) := bc BK141 3; have hfz127_0 := blk_frozen BK141.out 0; have hfz127_1 := blk_frozen BK141.out 1; have hfz127_2 := blk_frozen BK141.out 2; have hfz127_3 := blk_frozen BK141.out 3) | (go_at_call 98; (with_reducible refine (interval_Refine_1.calls a0_0 a0_1 a0_2 a0_3 true _ A108.out).mono ?_); rintro e w128 ⟨rfl, hb⟩; have n0_ := bb BK141 hb; have n1_ := bb BK142 hb; have n2_ := bb BK143 hb; have n3_ := bb BK144 hb; have n4_ := am (below_step pw hb); clear BK141; clear BK142; clear BK143; clear BK144; clear HB; have BK141 := n0_; have BK142 := n1_; have BK143 := n2_; have BK144 := n3_; have HB := n4_; clear n0_ n1_ n2_ n3_ n4_; (try clear hb); (try clear hb2); (try clear hk); (try clear hi); have hcz129_0 : w128.cell? ⟨gb142, 0, none⟩ = some (.bool a1_0) := bc BK142 0; have hcz129_1 : w128.cell? ⟨gb142, 1, none⟩ = some (.bool a1_1) := bc BK142 1; have hcz129_2 : w128.cell? ⟨gb142, 2, none⟩ = some (.int .i64 a1_2) := bc BK142 2; have hcz129_3 : w128.cell? ⟨gb142, 3, none⟩ = some (.int .i64 a1_3) := bc BK142 3; have hfz129_0 := blk_frozen BK142.out 0; have hfz129_1 := blk_frozen BK142.out 1; have hfz129_2 := blk_frozen BK142.out 2; have hfz129_3 := blk_frozen BK142.out 3; have hcz130_0 : w128.cell? ⟨gb141, 0, none⟩ = some (.bool a0_0) := bc BK141 0; have hcz130_1 : w128.cell? ⟨gb141, 1, none⟩ = some (.bool a0_1) := bc BK141 1; have hcz130_2 : w128.cell? ⟨gb141, 2, none⟩ = some (.int .i64 a0_2) := bc BK141 2; have hcz130_3 : w128.cell? ⟨gb141, 3, none⟩ = some (.int .i64 a0_3) := bc BK141 3; have hfz130_0 := blk_frozen BK141.out 0; have hfz130_1 := blk_frozen BK141.out 1; have hfz130_2 := blk_frozen BK141.out 2; have hfz130_3 := blk_frozen BK141.out 3) | ((with_reducible refine gate_callee (f := 99) rfl ?_); refine goesL_ (some 90) rfl rfl Tryd.func99 kk rfl #[.agg #[.bool a1_0, .bool a1_1, .int .i64 a1_2, .int .i64 a1_3], .int .i64 a0_2] rfl (by (try simp only [List.map_toArray, List.map_cons, List.map_nil]); first | done | rfl | (simp only [List.length_drop, List.length_take]; rfl)) ?_; (with_reducible refine (interval_without.calls k a1_0 a1_1 a1_2 a1_3 a0_2 t195 t196 t197 t198 t199 _ A110.out).mono ?_); rintro e w131 ⟨rfl, hb⟩; refine ⟨_, rfl, ?_⟩; have n0_ := bb BK141 hb; have n1_ := bb BK142 hb; have n2_ := bb BK143 hb; have n3_ := bb BK144 hb; have n4_ := am (below_step pw hb); clear BK141; clear BK142; clear BK143; clear BK144; clear HB; have BK141 := n0_; have BK142 := n1_; have BK143 := n2_; have BK144 := n3_; have HB := n4_; clear n0_ n1_ n2_ n3_ n4_; (try clear hb); (try clear hb2); (try clear hk); (try clear hi); have hnb132 := NB144_143.out; have hnc132 := NB143_144.out; have hcz133_0 : w131.cell? ⟨gb144, 0, none⟩ = some (.bool a1_0) := bc BK144 0; have hcz133_1 : w131.cell? ⟨gb144, 1, none⟩ = some (.bool a1_1) := bc BK144 1; have hcz133_2 : w131.cell? ⟨gb144, 2, none⟩ = some (.int .i64 a1_2) := bc BK144 2; have hcz133_3 : w131.cell? ⟨gb144, 3, none⟩ = some (.int .i64 a1_3) := bc BK144 3; have hfz133_0 := blk_frozen BK144.out 0; have hfz133_1 := blk_frozen BK144.out 1; have hfz133_2 := blk_frozen BK144.out 2; have hfz133_3 := blk_frozen BK144.out 3))
     go_meet
     case rel => exact ⟨_, (t199), (a0_0), (a0_1), (a0_2), (a0_3), (t195), (t196), (t197), (t198), pr, H', ⟨by first | omega | exact Nat.le_refl _⟩, ⟨by (with_reducible repeat (first | refine blk_drewN ?_ _ | refine blk_drew ?_ | refine blk_alloc ?_ _)); refine blk_far ?_ NB141_144.out _; (with_reducible repeat (first | refine blk_drewN ?_ _ | refine blk_drew ?_ | refine blk_alloc ?_ _)); refine blk_far ?_ NB141_144.out _; (with_reducible repeat (first | refine blk_drewN ?_ _ | refine blk_drew ?_ | refine blk_alloc ?_ _)); refine blk_far ?_ NB141_144.out _; (with_reducible repeat (first | refine blk_drewN ?_ _ | refine blk_drew ?_ | refine blk_alloc ?_ _)); refine blk_far ?_ NB141_144.out _; (with_reducible repeat (first | refine blk_drewN ?_ _ | refine blk_drew ?_ | refine blk_alloc ?_ _)); exact BK141.out⟩, ⟨by (with_reducible repeat (first | refine blk_drewN ?_ _ | refine blk_drew ?_ | refine blk_alloc ?_ _)); refine blk_far ?_ NB142_144.out _; (with_reducible repeat (first | refine blk_drewN ?_ _ | refine blk_drew ?_ | refine blk_alloc ?_ _)); refine blk_far ?_ NB142_144.out _; (with_reducible repeat (first | refine blk_drewN ?_ _ | refine blk_drew ?_ | refine blk_alloc ?_ _)); refine blk_far ?_ NB142_144.out _; (with_reducible repeat (first | refine blk_drewN ?_ _ | refine blk_drew ?_ | refine blk_alloc ?_ _)); refine blk_far ?_ NB142_144.out _; (with_reducible repeat (first | refine blk_drewN ?_ _ | refine blk_drew ?_ | refine blk_alloc ?_ _)); exact BK142.out⟩, ⟨by (with_reducible repeat (first | refine blk_drewN ?_ _ | refine blk_drew ?_ | refine blk_alloc ?_ _)); refine blk_far ?_ NB143_144.out _; (with_reducible repeat (first | refine blk_drewN ?_ _ | refine blk_drew ?_ | refine blk_alloc ?_ _)); refine blk_far ?_ NB143_144.out _; (with_reducible repeat (first | refine blk_drewN ?_ _ | refine blk_drew ?_ | refine blk_alloc ?_ _)); refine blk_far ?_ NB143_144.out _; (with_reducible repeat (first | refine blk_drewN ?_ _ | refine blk_drew ?_ | refine blk_alloc ?_ _)); refine blk_far ?_ NB143_144.out _; (with_reducible repeat (first | refine blk_drewN ?_ _ | refine blk_drew ?_ | refine blk_alloc ?_ _)); exact BK143.out⟩, ⟨by (with_reducible repeat (first | refine blk_drewN ?_ _ | refine blk_drew ?_ | refine blk_alloc ?_ _)); refine blk_put (cs := #[.bool t195, .bool t196, .int .i64 t197, .int .i64 a1_3]) ?_ 3 _ rfl; (with_reducible repeat (first | refine blk_drewN ?_ _ | refine blk_drew ?_ | refine blk_alloc ?_ _)); refine blk_put (cs := #[.bool t195, .bool t196, .int .i64 a1_2, .int .i64 a1_3]) ?_ 2 _ rfl; (with_reducible repeat (first | refine blk_drewN ?_ _ | refine blk_drew ?_ | refine blk_alloc ?_ _)); refine blk_put (cs := #[.bool t195, .bool a1_1, .int .i64 a1_2, .int .i64 a1_3]) ?_ 1 _ rfl; (with_reducible repeat (first | refine blk_drewN ?_ _ | refine blk_drew ?_ | refine blk_alloc ?_ _)); refine blk_put (cs := #[.bool a1_0, .bool a1_1, .int .i64 a1_2, .int .i64 a1_3]) ?_ 0 _ rfl; (with_reducible repeat (first | refine blk_drewN ?_ _ | refine blk_drew ?_ | refine blk_alloc ?_ _)); exact BK144.out⟩, ⟨pw⟩⟩
    replace c109 := Bool.eq_false_iff.mpr c109
    subst c109
    have H1 : (interval_Refine.j0 k true a0_0 a0_1 a0_2 a0_3 a1_0 a1_1 a1_2 a1_3) = some (r1, r2, r3, r4, r5, r6, r7, r8, r9, r10) := by rw [if_neg (show ¬ (false = true) by decide)] at H; exact H
    clear H
    have H := H1
    clear H1
    have H' := am H
    clear H
    try go_wp2
    have n0_ := am (blk_drew BK141.out)
    have n1_ := am (blk_drew BK142.out)
    have n2_ := am (blk_drew BK143.out)
    have n3_ := am (blk_drew BK144.out)
    have n4_ := am (below_drew1 HB.out)
    clear BK141 BK142 BK143 BK144 HB
    revert n0_ n1_ n2_ n3_ n4_
    intro BK141 BK142 BK143 BK144 HB
    refine start_ (n := 5) (S := fun w' => w'.cell? ⟨gb141, 0, none⟩ = some (.bool a0_0) ∧ w'.cell? ⟨gb141, 1, none⟩ = some (.bool a0_1) ∧ w'.cell? ⟨gb141, 2, none⟩ = some (.int .i64 a0_2) ∧ w'.cell? ⟨gb141, 3, none⟩ = some (.int .i64 a0_3) ∧ w'.cell? ⟨gb142, 0, none⟩ = some (.bool a1_0) ∧ w'.cell? ⟨gb142, 1, none⟩ = some (.bool a1_1) ∧ w'.cell? ⟨gb142, 2, none⟩ = some (.int .i64 a1_2) ∧ w'.cell? ⟨gb142, 3, none⟩ = some (.int .i64 a1_3)) (ds := []) #[false, false, false, false, false] kk rfl rfl ⟨bc BK141 0, bc BK141 1, bc BK141 2, bc BK141 3, bc BK142 0, bc BK142 1, bc BK142 2, bc BK142 3⟩ (fun hHeld => ?_)
    generalize w17.drew = w134 at BK141 BK142 BK143 BK144 HB hHeld ⊢
    refine take_ (i := 0) (N := some 71) (v := ?_) (a' := ?_) #[true, false, false, false, false] rfl rfl kk (fun _ _ _ h => h) (Or.inl ⟨by rfl, ?_⟩) hHeld ?_ ?_
    rotate_left
    ·rintro w' ⟨s0, s1, s2, s3, s4, s5, s6, s7⟩
     go_simp
     with_reducible rfl
    rotate_left
    ·simp only [Act.put, List.setIfInBounds_toArray, List.set_cons_zero, List.set_cons_succ, i64_w, i32_w]
     rfl
    refine take_ (i := 1) (N := some 72) (v := ?_) (a' := ?_) #[true, true, false, false, false] rfl rfl kk (fun _ _ _ h => h) (Or.inl ⟨by rfl, ?_⟩) hHeld ?_ ?_
    rotate_left
    ·rintro w' ⟨s0, s1, s2, s3, s4, s5, s6, s7⟩
     go_simp
     with_reducible rfl
    rotate_left
    ·simp only [Act.put, List.setIfInBounds_toArray, List.set_cons_zero, List.set_cons_succ, i64_w, i32_w]
     rfl
    refine one_ (i := 2) (N := none) #[true, true, true, false, false] rfl rfl kk (by decide) (fun K hK => ?_)
    have hs135 : w134.cell? ⟨gb143, 0, none⟩ = some (.bool false) := bc BK143 0
    have hfs135 := blk_frozen BK143.out 0
    have hns135_0 := NB141_143.out
    have hns135_1 := NB142_143.out
    have hns135_3 := NB144_143.out
    have hms135_0 := NB143_141.out
    have hms135_1 := NB143_142.out
    have hms135_3 := NB143_144.out
    have hs136 : w134.cell? ⟨gb143, 1, none⟩ = some (.bool false) := bc BK143 1
    have hfs136 := blk_frozen BK143.out 1
    have hns136_0 := NB141_143.out
    have hns136_1 := NB142_143.out
    have hns136_3 := NB144_143.out
    have hms136_0 := NB143_141.out
    have hms136_1 := NB143_142.out
    have hms136_3 := NB143_144.out
    have hs137 : w134.cell? ⟨gb143, 2, none⟩ = some (.int .i64 0) := bc BK143 2
    have hfs137 := blk_frozen BK143.out 2
    have hns137_0 := NB141_143.out
    have hns137_1 := NB142_143.out
    have hns137_3 := NB144_143.out
    have hms137_0 := NB143_141.out
    have hms137_1 := NB143_142.out
    have hms137_3 := NB143_144.out
    have hs138 : w134.cell? ⟨gb143, 3, none⟩ = some (.int .i64 0) := bc BK143 3
    have hfs138 := blk_frozen BK143.out 3
    have hns138_0 := NB141_143.out
    have hns138_1 := NB142_143.out
    have hns138_3 := NB144_143.out
    have hms138_0 := NB143_141.out
    have hms138_1 := NB143_142.out
    have hms138_3 := NB143_144.out
    refine skip_ (w1 := ?_) (by rfl) rfl ?_ ?_
    rotate_left
    ·go_simp
     rfl
    refine hK.out _ _ ⟨((cell_far (p := ⟨gb143, _, none⟩) NB141_143.out _).trans (((cell_far (p := ⟨gb143, _, none⟩) NB141_143.out _).trans (((cell_far (p := ⟨gb143, _, none⟩) NB141_143.out _).trans (((cell_far (p := ⟨gb143, _, none⟩) NB141_143.out _).trans (hHeld.1)))))))), ((cell_far (p := ⟨gb143, _, none⟩) NB141_143.out _).trans (((cell_far (p := ⟨gb143, _, none⟩) NB141_143.out _).trans (((cell_far (p := ⟨gb143, _, none⟩) NB141_143.out _).trans (((cell_far (p := ⟨gb143, _, none⟩) NB141_143.out _).trans (hHeld.2.1)))))))), ((cell_far (p := ⟨gb143, _, none⟩) NB141_143.out _).trans (((cell_far (p := ⟨gb143, _, none⟩) NB141_143.out _).trans (((cell_far (p := ⟨gb143, _, none⟩) NB141_143.out _).trans (((cell_far (p := ⟨gb143, _, none⟩) NB141_143.out _).trans (hHeld.2.2.1)))))))), ((cell_far (p := ⟨gb143, _, none⟩) NB141_143.out _).trans (((cell_far (p := ⟨gb143, _, none⟩) NB141_143.out _).trans (((cell_far (p := ⟨gb143, _, none⟩) NB141_143.out _).trans (((cell_far (p := ⟨gb143, _, none⟩) NB141_143.out _).trans (hHeld.2.2.2.1)))))))), ((cell_far (p := ⟨gb143, _, none⟩) NB142_143.out _).trans (((cell_far (p := ⟨gb143, _, none⟩) NB142_143.out _).trans (((cell_far (p := ⟨gb143, _, none⟩) NB142_143.out _).trans (((cell_far (p := ⟨gb143, _, none⟩) NB142_143.out _).trans (hHeld.2.2.2.2.1)))))))), ((cell_far (p := ⟨gb143, _, none⟩) NB142_143.out _).trans (((cell_far (p := ⟨gb143, _, none⟩) NB142_143.out _).trans (((cell_far (p := ⟨gb143, _, none⟩) NB142_143.out _).trans (((cell_far (p := ⟨gb143, _, none⟩) NB142_143.out _).trans (hHeld.2.2.2.2.2.1)))))))), ((cell_far (p := ⟨gb143, _, none⟩) NB142_143.out _).trans (((cell_far (p := ⟨gb143, _, none⟩) NB142_143.out _).trans (((cell_far (p := ⟨gb143, _, none⟩) NB142_143.out _).trans (((cell_far (p := ⟨gb143, _, none⟩) NB142_143.out _).trans (hHeld.2.2.2.2.2.2.1)))))))), ((cell_far (p := ⟨gb143, _, none⟩) NB142_143.out _).trans (((cell_far (p := ⟨gb143, _, none⟩) NB142_143.out _).trans (((cell_far (p := ⟨gb143, _, none⟩) NB142_143.out _).trans (((cell_far (p := ⟨gb143, _, none⟩) NB142_143.out _).trans (hHeld.2.2.2.2.2.2.2))))))))⟩ (fun hHeld => ?_)
    clear hK K
    refine one_ (i := 3) (N := none) #[true, true, true, true, false] rfl rfl kk (by decide) (fun K hK => ?_)
    have hs139 : w134.cell? ⟨gb144, 0, none⟩ = some (.bool false) := bc BK144 0
    have hfs139 := blk_frozen BK144.out 0
    have hns139_0 := NB141_144.out
    have hns139_1 := NB142_144.out
    have hns139_2 := NB143_144.out
    have hms139_0 := NB144_141.out
    have hms139_1 := NB144_142.out
    have hms139_2 := NB144_143.out
    have hs140 : w134.cell? ⟨gb144, 1, none⟩ = some (.bool false) := bc BK144 1
    have hfs140 := blk_frozen BK144.out 1
    have hns140_0 := NB141_144.out
    have hns140_1 := NB142_144.out
    have hns140_2 := NB143_144.out
    have hms140_0 := NB144_141.out
    have hms140_1 := NB144_142.out
    have hms140_2 := NB144_143.out
    have hs141 : w134.cell? ⟨gb144, 2, none⟩ = some (.int .i64 0) := bc BK144 2
    have hfs141 := blk_frozen BK144.out 2
    have hns141_0 := NB141_144.out
    have hns141_1 := NB142_144.out
    have hns141_2 := NB143_144.out
    have hms141_0 := NB144_141.out
    have hms141_1 := NB144_142.out
    have hms141_2 := NB144_143.out
    have hs142 : w134.cell? ⟨gb144, 3, none⟩ = some (.int .i64 0) := bc BK144 3
    have hfs142 := blk_frozen BK144.out 3
    have hns142_0 := NB141_144.out
    have hns142_1 := NB142_144.out
    have hns142_2 := NB143_144.out
    have hms142_0 := NB144_141.out
    have hms142_1 := NB144_142.out
    have hms142_2 := NB144_143.out
    refine skip_ (w1 := ?_) (by rfl) rfl ?_ ?_
    rotate_left
    ·go_simp
     rfl
    refine hK.out _ _ ⟨((cell_far (p := ⟨gb144, _, none⟩) NB141_144.out _).trans (((cell_far (p := ⟨gb144, _, none⟩) NB141_144.out _).trans (((cell_far (p := ⟨gb144, _, none⟩) NB141_144.out _).trans (((cell_far (p := ⟨gb144, _, none⟩) NB141_144.out _).trans (hHeld.1)))))))), ((cell_far (p := ⟨gb144, _, none⟩) NB141_144.out _).trans (((cell_far (p := ⟨gb144, _, none⟩) NB141_144.out _).trans (((cell_far (p := ⟨gb144, _, none⟩) NB141_144.out _).trans (((cell_far (p := ⟨gb144, _, none⟩) NB141_144.out _).trans (hHeld.2.1)))))))), ((cell_far (p := ⟨gb144, _, none⟩) NB141_144.out _).trans (((cell_far (p := ⟨gb144, _, none⟩) NB141_144.out _).trans (((cell_far (p := ⟨gb144, _, none⟩) NB141_144.out _).trans (((cell_far (p := ⟨gb144, _, none⟩) NB141_144.out _).trans (hHeld.2.2.1)))))))), ((cell_far (p := ⟨gb144, _, none⟩) NB141_144.out _).trans (((cell_far (p := ⟨gb144, _, none⟩) NB141_144.out _).trans (((cell_far (p := ⟨gb144, _, none⟩) NB141_144.out _).trans (((cell_far (p := ⟨gb144, _, none⟩) NB141_144.out _).trans (hHeld.2.2.2.1)))))))), ((cell_far (p := ⟨gb144, _, none⟩) NB142_144.out _).trans (((cell_far (p := ⟨gb144, _, none⟩) NB142_144.out _).trans (((cell_far (p := ⟨gb144, _, none⟩) NB142_144.out _).trans (((cell_far (p := ⟨gb144, _, none⟩) NB142_144.out _).trans (hHeld.2.2.2.2.1)))))))), ((cell_far (p := ⟨gb144, _, none⟩) NB142_144.out _).trans (((cell_far (p := ⟨gb144, _, none⟩) NB142_144.out _).trans (((cell_far (p := ⟨gb144, _, none⟩) NB142_144.out _).trans (((cell_far (p := ⟨gb144, _, none⟩) NB142_144.out _).trans (hHeld.2.2.2.2.2.1)))))))), ((cell_far (p := ⟨gb144, _, none⟩) NB142_144.out _).trans (((cell_far (p := ⟨gb144, _, none⟩) NB142_144.out _).trans (((cell_far (p := ⟨gb144, _, none⟩) NB142_144.out _).trans (((cell_far (p := ⟨gb144, _, none⟩) NB142_144.out _).trans (hHeld.2.2.2.2.2.2.1)))))))), ((cell_far (p := ⟨gb144, _, none⟩) NB142_144.out _).trans (((cell_far (p := ⟨gb144, _, none⟩) NB142_144.out _).trans (((cell_far (p := ⟨gb144, _, none⟩) NB142_144.out _).trans (((cell_far (p := ⟨gb144, _, none⟩) NB142_144.out _).trans (hHeld.2.2.2.2.2.2.2))))))))⟩ (fun hHeld => ?_)
    clear hK K
    refine pure_ (i := 4) (N := some 8) (v := ?_) (a' := ?_) #[true, true, true, true, true] rfl rfl kk (fun _ _ _ h => h) (Or.inl ⟨by rfl, ?_⟩) ?_ ?_
    rotate_left
    ·intro w'
     go_simp
     with_reducible rfl
    rotate_left
    ·simp only [Act.put, List.setIfInBounds_toArray, List.set_cons_zero, List.set_cons_succ, i64_w, i32_w]
     rfl
    refine done_ kk ?_
    have hnb143 := NB142_141.out
    have hnc143 := NB141_142.out
    have hnb144 := NB142_143.out
    have hnc144 := NB143_142.out
    have hnb145 := NB142_144.out
    have hnc145 := NB144_142.out
    have hcz146_0 : w134.cell? ⟨gb142, 0, none⟩ = some (.bool a1_0) := bc BK142 0
    have hcz146_1 : w134.cell? ⟨gb142, 1, none⟩ = some (.bool a1_1) := bc BK142 1
    have hcz146_2 : w134.cell? ⟨gb142, 2, none⟩ = some (.int .i64 a1_2) := bc BK142 2
    have hcz146_3 : w134.cell? ⟨gb142, 3, none⟩ = some (.int .i64 a1_3) := bc BK142 3
    have hfz146_0 := blk_frozen BK142.out 0
    have hfz146_1 := blk_frozen BK142.out 1
    have hfz146_2 := blk_frozen BK142.out 2
    have hfz146_3 := blk_frozen BK142.out 3
    try go_wp2_with (first | (go_at_call 98; (with_reducible refine (interval_Refine_1.calls a1_0 a1_1 a1_2 a1_3 false _ A84.out).mono ?_); rintro e w147 ⟨rfl, hb⟩; have n0_ := am (blk_below (g := gb141) (o := .cells #[.bool a0_0, .bool a0_1, .int .i64 a0_2, .int .i64 a0_3] 49 (0, 0)) (by (with_reducible repeat (first | refine blk_drewN ?_ _ | refine blk_drew ?_ | refine blk_alloc ?_ _)); refine blk_far ?_ NB141_144.out _; (with_reducible repeat (first | refine blk_drewN ?_ _ | refine blk_drew ?_ | refine blk_alloc ?_ _)); refine blk_far ?_ NB141_144.out _; (with_reducible repeat (first | refine blk_drewN ?_ _ | refine blk_drew ?_ | refine blk_alloc ?_ _)); refine blk_far ?_ NB141_144.out _; (with_reducible repeat (first | refine blk_drewN ?_ _ | refine blk_drew ?_ | refine blk_alloc ?_ _)); refine blk_far ?_ NB141_144.out _; (with_reducible repeat (first | refine blk_drewN ?_ _ | refine blk_drew ?_ | refine blk_alloc ?_ _)); refine blk_far ?_ NB141_143.out _; (with_reducible repeat (first | refine blk_drewN ?_ _ | refine blk_drew ?_ | refine blk_alloc ?_ _)); refine blk_far ?_ NB141_143.out _; (with_reducible repeat (first | refine blk_drewN ?_ _ | refine blk_drew ?_ | refine blk_alloc ?_ _)); refine blk_far ?_ NB141_143.out _; (with_reducible repeat (first | refine blk_drewN ?_ _ | refine blk_drew ?_ | refine blk_alloc ?_ _)); refine blk_far ?_ NB141_143.out _; (with_reducible repeat (first | refine blk_drewN ?_ _ | refine blk_drew ?_ | refine blk_alloc ?_ _)); exact BK141.out) hb); have n1_ := am (blk_below (g := gb142) (o := .cells #[.bool a1_0, .bool a1_1, .int .i64 a1_2, .int .i64 a1_3] 49 (0, 0)) (by (with_reducible repeat (first | refine blk_drewN ?_ _ | refine blk_drew ?_ | refine blk_alloc ?_ _)); refine blk_far ?_ NB142_144.out _; (with_reducible repeat (first | refine blk_drewN ?_ _ | refine blk_drew ?_ | refine blk_alloc ?_ _)); refine blk_far ?_ NB142_144.out _; (with_reducible repeat (first | refine blk_drewN ?_ _ | refine blk_drew ?_ | refine blk_alloc ?_ _)); refine blk_far ?_ NB142_144.out _; (with_reducible repeat (first | refine blk_drewN ?_ _ | refine blk_drew ?_ | refine blk_alloc ?_ _)); refine blk_far ?_ NB142_144.out _; (with_reducible repeat (first | refine blk_drewN ?_ _ | refine blk_drew ?_ | refine blk_alloc ?_ _)); refine blk_far ?_ NB142_143.out _; (with_reducible repeat (first | refine blk_drewN ?_ _ | refine blk_drew ?_ | refine blk_alloc ?_ _)); refine blk_far ?_ NB142_143.out _; (with_reducible repeat (first | refine blk_drewN ?_ _ | refine blk_drew ?_ | refine blk_alloc ?_ _)); refine blk_far ?_ NB142_143.out _; (with_reducible repeat (first | refine blk_drewN ?_ _ | refine blk_drew ?_ | refine blk_alloc ?_ _)); refine blk_far ?_ NB142_143.out _; (with_reducible repeat (first | refine blk_drewN ?_ _ | refine blk_drew ?_ | refine blk_alloc ?_ _)); exact BK142.out) hb); have n2_ := am (blk_below (g := gb143) (o := .cells #[.bool a0_0, .bool a0_1, .int .i64 a0_2, .int .i64 a0_3] 49 (0, 0)) (by (with_reducible repeat (first | refine blk_drewN ?_ _ | refine blk_drew ?_ | refine blk_alloc ?_ _)); refine blk_far ?_ NB143_144.out _; (with_reducible repeat (first | refine blk_drewN ?_ _ | refine blk_drew ?_ | refine blk_alloc ?_ _)); refine blk_far ?_ NB143_144.out _; (with_reducible repeat (first | refine blk_drewN ?_ _ | refine blk_drew ?_ | refine blk_alloc ?_ _)); refine blk_far ?_ NB143_144.out _; (with_reducible repeat (first | refine blk_drewN ?_ _ | refine blk_drew ?_ | refine blk_alloc ?_ _)); refine blk_far ?_ NB143_144.out _; (with_reducible repeat (first | refine blk_drewN ?_ _ | refine blk_drew ?_ | refine blk_alloc ?_ _)); refine blk_put (cs := #[.bool a0_0, .bool a0_1, .int .i64 a0_2, .int .i64 0]) ?_ 3 _ rfl; (with_reducible repeat (first | refine blk_drewN ?_ _ | refine blk_drew ?_ | refine blk_alloc ?_ _)); refine blk_put (cs := #[.bool a0_0, .bool a0_1, .int .i64 0, .int .i64 0]) ?_ 2 _ rfl; (with_reducible repeat (first | refine blk_drewN ?_ _ | refine blk_drew ?_ | refine blk_alloc ?_ _)); refine blk_put (cs := #[.bool a0_0, .bool false, .int .i64 0, .int .i64 0]) ?_ 1 _ rfl; (with_reducible repeat (first | refine blk_drewN ?_ _ | refine blk_drew ?_ | refine blk_alloc ?_ _)); refine blk_put (cs := #[.bool false, .bool false, .int .i64 0, .int .i64 0]) ?_ 0 _ rfl; (with_reducible repeat (first | refine blk_drewN ?_ _ | refine blk_drew ?_ | refine blk_alloc ?_ _)); exact BK143.out) hb); have n3_ := am (blk_below (g := gb144) (o := .cells #[.bool a1_0, .bool a1_1, .int .i64 a1_2, .int .i64 a1_3] 49 (0, 0)) (by (with_reducible repeat (first | refine blk_drewN ?_ _ | refine blk_drew ?_ | refine blk_alloc ?_ _)); refine blk_put (cs := #[.bool a1_0, .bool a1_1, .int .i64 a1_2, .int .i64 0]) ?_ 3 _ rfl; (with_reducible repeat (first | refine blk_drewN ?_ _ | refine blk_drew ?_ | refine blk_alloc ?_ _)); refine blk_put (cs := #[.bool a1_0, .bool a1_1, .int .i64 0, .int .i64 0]) ?_ 2 _ rfl; (with_reducible repeat (first | refine blk_drewN ?_ _ | refine blk_drew ?_ | refine blk_alloc ?_ _)); refine blk_put (cs := #[.bool a1_0, .bool false, .int .i64 0, .int .i64 0]) ?_ 1 _ rfl; (with_reducible repeat (first | refine blk_drewN ?_ _ | refine blk_drew ?_ | refine blk_alloc ?_ _)); refine blk_put (cs := #[.bool false, .bool false, .int .i64 0, .int .i64 0]) ?_ 0 _ rfl; (with_reducible repeat (first | refine blk_drewN ?_ _ | refine blk_drew ?_ | refine blk_alloc ?_ _)); refine blk_far ?_ NB144_143.out _; (with_reducible repeat (first | refine blk_drewN ?_ _ | refine blk_drew ?_ | refine blk_alloc ?_ _)); refine blk_far ?_ NB144_143.out _; (with_reducible repeat (first | refine blk_drewN ?_ _ | refine blk_drew ?_ | refine blk_alloc ?_ _)); refine blk_far ?_ NB144_143.out _; (with_reducible repeat (first | refine blk_drewN ?_ _ | refine blk_drew ?_ | refine blk_alloc ?_ _)); refine blk_far ?_ NB144_143.out _; (with_reducible repeat (first | refine blk_drewN ?_ _ | refine blk_drew ?_ | refine blk_alloc ?_ _)); exact BK144.out) hb); have n4_ := am (below_step pw hb); clear BK141; clear BK142; clear BK143; clear BK144; clear HB; have BK141 := n0_; have BK142 := n1_; have BK143 := n2_; have BK144 := n3_; have HB := n4_; clear n0_ n1_ n2_ n3_ n4_; (try clear hb); (try clear hb2); (try clear hk); (try clear hi); have hnb148 := NB141_143.out; have hnc148 := NB143_141.out; have hnb149 := NB141_144.out; have hnc149 := NB144_141.out; have hcz150_0 : w147.cell? ⟨gb141, 0, none⟩ = some (.bool a0_0) := bc BK141 0; have hcz150_1 : w147.cell? ⟨gb141, 1, none⟩ = some (.bool a0_1) := bc BK141 1; have hcz150_2 : w147.cell? ⟨gb141, 2, none⟩ = some (.int .i64 a0_2) := bc BK141 2; have hcz150_3 : w147.cell? ⟨gb141, 3, none⟩ = some (.int .i64 a0_3) := bc BK141 3; have hfz150_0 := blk_frozen BK141.out 0; have hfz150_1 := blk_frozen BK141.out 1; have hfz150_2 := blk_frozen BK141.out 2; have hfz150_3 := blk_frozen BK141.out 3) | (go_at_call 98; (with_reducible refine (interval_Refine_1.calls a0_0 a0_1 a0_2 a0_3 false _ A108.out).mono ?_); rintro e w151 ⟨rfl, hb⟩; have n0_ := bb BK141 hb; have n1_ := bb BK142 hb; have n2_ := bb BK143 hb; have n3_ := bb BK144 hb; have n4_ := am (below_step pw hb); clear BK141; clear BK142; clear BK143; clear BK144; clear HB; have BK141 := n0_; have BK142 := n1_; have BK143 := n2_; have BK144 := n3_; have HB := n4_; clear n0_ n1_ n2_ n3_ n4_; (try clear hb); (try clear hb2); (try clear hk); (try clear hi)))
    go_meet
    case rel => exact ⟨_, (true), (a0_0), (a0_1), (a0_2), (a0_3), (a1_0), (a1_1), (a1_2), (a1_3), pr, H', ⟨by first | omega | exact Nat.le_refl _⟩, ⟨pk⟩, ⟨pk⟩, ⟨pk⟩, ⟨pk⟩, ⟨pw⟩⟩
   rw [if_neg c83] at H
   have c83b0 : (a2.toList == ([33, 61] : List UInt8)) = false := beq_eq_false_iff_ne.mpr c83
   have c83b1 : (a2.toList != ([33, 61] : List UInt8)) = true := bne_iff_ne.mpr c83
   simp only [Option.some.injEq, Prod.mk.injEq] at H
   obtain ⟨rfl, rfl, rfl, rfl, rfl, rfl, rfl, rfl, rfl, rfl⟩ := H
   try go_wp2
   have n0_ := am (blk_drew BK141.out)
   have n1_ := am (blk_drew BK142.out)
   have n2_ := am (blk_drew BK143.out)
   have n3_ := am (blk_drew BK144.out)
   have n4_ := am (below_drew1 HB.out)
   clear BK141 BK142 BK143 BK144 HB
   revert n0_ n1_ n2_ n3_ n4_
   intro BK141 BK142 BK143 BK144 HB
   refine start_ (n := 7) (S := fun w' => w'.cell? ⟨2, 0, none⟩ = some (.iface 210 (.pointer (some (EA.adr 1))))) (ds := []) #[false, false, false, false, false, false, false] kk rfl rfl (((HB.out.cell (World.block_lt_of_cell? w _ hE1.out.cell)).trans hE1.out.cell)) (fun hHeld => ?_)
   generalize w17.drew = w152 at BK141 BK142 BK143 BK144 HB hHeld ⊢
   refine pure_ (i := 0) (N := some 21) (v := ?_) (a' := ?_) #[true, false, false, false, false, false, false] rfl rfl kk (fun _ _ _ h => h) (Or.inl ⟨by rfl, ?_⟩) ?_ ?_
   rotate_left
   ·intro w'
    go_simp
    with_reducible rfl
   rotate_left
   ·simp only [Act.put, List.setIfInBounds_toArray, List.set_cons_zero, List.set_cons_succ, i64_w, i32_w]
    rfl
   refine pure_ (i := 1) (N := some 22) (v := ?_) (a' := ?_) #[true, true, false, false, false, false, false] rfl rfl kk (fun _ _ _ h => h) (Or.inl ⟨by rfl, ?_⟩) ?_ ?_
   rotate_left
   ·intro w'
    go_simp
    with_reducible rfl
   rotate_left
   ·simp only [Act.put, List.setIfInBounds_toArray, List.set_cons_zero, List.set_cons_succ, i64_w, i32_w]
    rfl
   refine take_ (i := 2) (N := some 23) (v := ?_) (a' := ?_) #[true, true, true, false, false, false, false] rfl rfl kk (fun _ _ _ h => h) (Or.inl ⟨by rfl, ?_⟩) hHeld ?_ ?_
   rotate_left
   ·intro w' s0
    go_simp
    with_reducible rfl
   rotate_left
   ·simp only [Act.put, List.setIfInBounds_toArray, List.set_cons_zero, List.set_cons_succ, i64_w, i32_w]
    rfl
   refine one_ (i := 3) (N := none) #[true, true, true, true, false, false, false] rfl rfl kk (by decide) (fun K hK => ?_)
   have hs153 : w152.cell? ⟨gb143, 0, none⟩ = some (.bool false) := bc BK143 0
   have hfs153 := blk_frozen BK143.out 0
   have hns153_0 := NB141_143.out
   have hns153_1 := NB142_143.out
   have hns153_3 := NB144_143.out
   have hms153_0 := NB143_141.out
   have hms153_1 := NB143_142.out
   have hms153_3 := NB143_144.out
   have hs154 : w152.cell? ⟨gb143, 1, none⟩ = some (.bool false) := bc BK143 1
   have hfs154 := blk_frozen BK143.out 1
   have hns154_0 := NB141_143.out
   have hns154_1 := NB142_143.out
   have hns154_3 := NB144_143.out
   have hms154_0 := NB143_141.out
   have hms154_1 := NB143_142.out
   have hms154_3 := NB143_144.out
   have hs155 : w152.cell? ⟨gb143, 2, none⟩ = some (.int .i64 0) := bc BK143 2
   have hfs155 := blk_frozen BK143.out 2
   have hns155_0 := NB141_143.out
   have hns155_1 := NB142_143.out
   have hns155_3 := NB144_143.out
   have hms155_0 := NB143_141.out
   have hms155_1 := NB143_142.out
   have hms155_3 := NB143_144.out
   have hs156 : w152.cell? ⟨gb143, 3, none⟩ = some (.int .i64 0) := bc BK143 3
   have hfs156 := blk_frozen BK143.out 3
   have hns156_0 := NB141_143.out
   have hns156_1 := NB142_143.out
   have hns156_3 := NB144_143.out
   have hms156_0 := NB143_141.out
   have hms156_1 := NB143_142.out
   have hms156_3 := NB143_144.out
   refine skip_ (w1 := ?_) (by rfl) rfl ?_ ?_
   rotate_left
   ·go_simp
    rfl
   refine hK.out _ _ (((cell_far (p := ⟨gb143, _, none⟩) (by first | exact Nat.ne_of_lt (Nat.lt_of_lt_of_le (ErrAt.lt hE1.out) GW143.out) | (rw [add_block]; exact Nat.ne_of_lt (Nat.lt_of_lt_of_le (ErrAt.lt hE1.out) GW143.out)) | (show (Addr.add _ _).block ≠ _; rw [add_block]; exact Nat.ne_of_lt (Nat.lt_of_lt_of_le (ErrAt.lt hE1.out) GW143.out)) | (dsimp only; exact Nat.ne_of_lt (Nat.lt_of_lt_of_le (ErrAt.lt hE1.out) GW143.out))) _).trans (((cell_far (p := ⟨gb143, _, none⟩) (by first | exact Nat.ne_of_lt (Nat.lt_of_lt_of_le (ErrAt.lt hE1.out) GW143.out) | (rw [add_block]; exact Nat.ne_of_lt (Nat.lt_of_lt_of_le (ErrAt.lt hE1.out) GW143.out)) | (show (Addr.add _ _).block ≠ _; rw [add_block]; exact Nat.ne_of_lt (Nat.lt_of_lt_of_le (ErrAt.lt hE1.out) GW143.out)) | (dsimp only; exact Nat.ne_of_lt (Nat.lt_of_lt_of_le (ErrAt.lt hE1.out) GW143.out))) _).trans (((cell_far (p := ⟨gb143, _, none⟩) (by first | exact Nat.ne_of_lt (Nat.lt_of_lt_of_le (ErrAt.lt hE1.out) GW143.out) | (rw [add_block]; exact Nat.ne_of_lt (Nat.lt_of_lt_of_le (ErrAt.lt hE1.out) GW143.out)) | (show (Addr.add _ _).block ≠ _; rw [add_block]; exact Nat.ne_of_lt (Nat.lt_of_lt_of_le (ErrAt.lt hE1.out) GW143.out)) | (dsimp only; exact Nat.ne_of_lt (Nat.lt_of_lt_of_le (ErrAt.lt hE1.out) GW143.out))) _).trans (((cell_far (p := ⟨gb143, _, none⟩) (by first | exact Nat.ne_of_lt (Nat.lt_of_lt_of_le (ErrAt.lt hE1.out) GW143.out) | (rw [add_block]; exact Nat.ne_of_lt (Nat.lt_of_lt_of_le (ErrAt.lt hE1.out) GW143.out)) | (show (Addr.add _ _).block ≠ _; rw [add_block]; exact Nat.ne_of_lt (Nat.lt_of_lt_of_le (ErrAt.lt hE1.out) GW143.out)) | (dsimp only; exact Nat.ne_of_lt (Nat.lt_of_lt_of_le (ErrAt.lt hE1.out) GW143.out))) _).trans (hHeld))))))))) (fun hHeld => ?_)
   clear hK K
   refine one_ (i := 4) (N := none) #[true, true, true, true, true, false, false] rfl rfl kk (by decide) (fun K hK => ?_)
   have hs157 : w152.cell? ⟨gb144, 0, none⟩ = some (.bool false) := bc BK144 0
   have hfs157 := blk_frozen BK144.out 0
   have hns157_0 := NB141_144.out
   have hns157_1 := NB142_144.out
   have hns157_2 := NB143_144.out
   have hms157_0 := NB144_141.out
   have hms157_1 := NB144_142.out
   have hms157_2 := NB144_143.out
   have hs158 : w152.cell? ⟨gb144, 1, none⟩ = some (.bool false) := bc BK144 1
   have hfs158 := blk_frozen BK144.out 1
   have hns158_0 := NB141_144.out
   have hns158_1 := NB142_144.out
   have hns158_2 := NB143_144.out
   have hms158_0 := NB144_141.out
   have hms158_1 := NB144_142.out
   have hms158_2 := NB144_143.out
   have hs159 : w152.cell? ⟨gb144, 2, none⟩ = some (.int .i64 0) := bc BK144 2
   have hfs159 := blk_frozen BK144.out 2
   have hns159_0 := NB141_144.out
   have hns159_1 := NB142_144.out
   have hns159_2 := NB143_144.out
   have hms159_0 := NB144_141.out
   have hms159_1 := NB144_142.out
   have hms159_2 := NB144_143.out
   have hs160 : w152.cell? ⟨gb144, 3, none⟩ = some (.int .i64 0) := bc BK144 3
   have hfs160 := blk_frozen BK144.out 3
   have hns160_0 := NB141_144.out
   have hns160_1 := NB142_144.out
   have hns160_2 := NB143_144.out
   have hms160_0 := NB144_141.out
   have hms160_1 := NB144_142.out
   have hms160_2 := NB144_143.out
   refine skip_ (w1 := ?_) (by rfl) rfl ?_ ?_
   rotate_left
   ·go_simp
    rfl
   refine hK.out _ _ (((cell_far (p := ⟨gb144, _, none⟩) (by first | exact Nat.ne_of_lt (Nat.lt_of_lt_of_le (ErrAt.lt hE1.out) GW144.out) | (rw [add_block]; exact Nat.ne_of_lt (Nat.lt_of_lt_of_le (ErrAt.lt hE1.out) GW144.out)) | (show (Addr.add _ _).block ≠ _; rw [add_block]; exact Nat.ne_of_lt (Nat.lt_of_lt_of_le (ErrAt.lt hE1.out) GW144.out)) | (dsimp only; exact Nat.ne_of_lt (Nat.lt_of_lt_of_le (ErrAt.lt hE1.out) GW144.out))) _).trans (((cell_far (p := ⟨gb144, _, none⟩) (by first | exact Nat.ne_of_lt (Nat.lt_of_lt_of_le (ErrAt.lt hE1.out) GW144.out) | (rw [add_block]; exact Nat.ne_of_lt (Nat.lt_of_lt_of_le (ErrAt.lt hE1.out) GW144.out)) | (show (Addr.add _ _).block ≠ _; rw [add_block]; exact Nat.ne_of_lt (Nat.lt_of_lt_of_le (ErrAt.lt hE1.out) GW144.out)) | (dsimp only; exact Nat.ne_of_lt (Nat.lt_of_lt_of_le (ErrAt.lt hE1.out) GW144.out))) _).trans (((cell_far (p := ⟨gb144, _, none⟩) (by first | exact Nat.ne_of_lt (Nat.lt_of_lt_of_le (ErrAt.lt hE1.out) GW144.out) | (rw [add_block]; exact Nat.ne_of_lt (Nat.lt_of_lt_of_le (ErrAt.lt hE1.out) GW144.out)) | (show (Addr.add _ _).block ≠ _; rw [add_block]; exact Nat.ne_of_lt (Nat.lt_of_lt_of_le (ErrAt.lt hE1.out) GW144.out)) | (dsimp only; exact Nat.ne_of_lt (Nat.lt_of_lt_of_le (ErrAt.lt hE1.out) GW144.out))) _).trans (((cell_far (p := ⟨gb144, _, none⟩) (by first | exact Nat.ne_of_lt (Nat.lt_of_lt_of_le (ErrAt.lt hE1.out) GW144.out) | (rw [add_block]; exact Nat.ne_of_lt (Nat.lt_of_lt_of_le (ErrAt.lt hE1.out) GW144.out)) | (show (Addr.add _ _).block ≠ _; rw [add_block]; exact Nat.ne_of_lt (Nat.lt_of_lt_of_le (ErrAt.lt hE1.out) GW144.out)) | (dsimp only; exact Nat.ne_of_lt (Nat.lt_of_lt_of_le (ErrAt.lt hE1.out) GW144.out))) _).trans (hHeld))))))))) (fun hHeld => ?_)
   clear hK K
   refine pure_ (i := 5) (N := some 8) (v := ?_) (a' := ?_) #[true, true, true, true, true, true, false] rfl rfl kk (fun _ _ _ h => h) (Or.inl ⟨by rfl, ?_⟩) ?_ ?_
   rotate_left
   ·intro w'
    go_simp
    with_reducible rfl
   rotate_left
   ·simp only [Act.put, List.setIfInBounds_toArray, List.set_cons_zero, List.set_cons_succ, i64_w, i32_w]
    rfl
   refine pure_ (i := 6) (N := some 9) (v := ?_) (a' := ?_) #[true, true, true, true, true, true, true] rfl rfl kk (fun _ _ _ h => h) (Or.inl ⟨by rfl, ?_⟩) ?_ ?_
   rotate_left
   ·intro w'
    go_simp
    with_reducible rfl
   rotate_left
   ·simp only [Act.put, List.setIfInBounds_toArray, List.set_cons_zero, List.set_cons_succ, i64_w, i32_w]
    rfl
   refine done_ kk ?_
   (try simp only [errW_none, errW_some])
   try go_wp2
   refine bodyPost_ret (results_list (rs := [.cell 6 49, .cell 7 49, .tmp 8, .tmp 9]) rfl (by simp) (.cell gb143 49 #[.bool false, .bool false, .int .i64 0, .int .i64 0] (0, 0) _ rfl (by (with_reducible repeat (first | refine blk_drewN ?_ _ | refine blk_drew ?_ | refine blk_alloc ?_ _)); refine blk_far ?_ NB143_144.out _; (with_reducible repeat (first | refine blk_drewN ?_ _ | refine blk_drew ?_ | refine blk_alloc ?_ _)); refine blk_far ?_ NB143_144.out _; (with_reducible repeat (first | refine blk_drewN ?_ _ | refine blk_drew ?_ | refine blk_alloc ?_ _)); refine blk_far ?_ NB143_144.out _; (with_reducible repeat (first | refine blk_drewN ?_ _ | refine blk_drew ?_ | refine blk_alloc ?_ _)); refine blk_far ?_ NB143_144.out _; (with_reducible repeat (first | refine blk_drewN ?_ _ | refine blk_drew ?_ | refine blk_alloc ?_ _)); refine blk_put (cs := #[.bool false, .bool false, .int .i64 0, .int .i64 0]) ?_ 3 _ rfl; (with_reducible repeat (first | refine blk_drewN ?_ _ | refine blk_drew ?_ | refine blk_alloc ?_ _)); refine blk_put (cs := #[.bool false, .bool false, .int .i64 0, .int .i64 0]) ?_ 2 _ rfl; (with_reducible repeat (first | refine blk_drewN ?_ _ | refine blk_drew ?_ | refine blk_alloc ?_ _)); refine blk_put (cs := #[.bool false, .bool false, .int .i64 0, .int .i64 0]) ?_ 1 _ rfl; (with_reducible repeat (first | refine blk_drewN ?_ _ | refine blk_drew ?_ | refine blk_alloc ?_ _)); refine blk_put (cs := #[.bool false, .bool false, .int .i64 0, .int .i64 0]) ?_ 0 _ rfl; (with_reducible repeat (first | refine blk_drewN ?_ _ | refine blk_drew ?_ | refine blk_alloc ?_ _)); exact BK143.out) Tryd.underlying49 rfl kk (.cell gb144 49 #[.bool false, .bool false, .int .i64 0, .int .i64 0] (0, 0) _ rfl (by (with_reducible repeat (first | refine blk_drewN ?_ _ | refine blk_drew ?_ | refine blk_alloc ?_ _)); refine blk_put (cs := #[.bool false, .bool false, .int .i64 0, .int .i64 0]) ?_ 3 _ rfl; (with_reducible repeat (first | refine blk_drewN ?_ _ | refine blk_drew ?_ | refine blk_alloc ?_ _)); refine blk_put (cs := #[.bool false, .bool false, .int .i64 0, .int .i64 0]) ?_ 2 _ rfl; (with_reducible repeat (first | refine blk_drewN ?_ _ | refine blk_drew ?_ | refine blk_alloc ?_ _)); refine blk_put (cs := #[.bool false, .bool false, .int .i64 0, .int .i64 0]) ?_ 1 _ rfl; (with_reducible repeat (first | refine blk_drewN ?_ _ | refine blk_drew ?_ | refine blk_alloc ?_ _)); refine blk_put (cs := #[.bool false, .bool false, .int .i64 0, .int .i64 0]) ?_ 0 _ rfl; (with_reducible repeat (first | refine blk_drewN ?_ _ | refine blk_drew ?_ | refine blk_alloc ?_ _)); refine blk_far ?_ NB144_143.out _; (with_reducible repeat (first | refine blk_drewN ?_ _ | refine blk_drew ?_ | refine blk_alloc ?_ _)); refine blk_far ?_ NB144_143.out _; (with_reducible repeat (first | refine blk_drewN ?_ _ | refine blk_drew ?_ | refine blk_alloc ?_ _)); refine blk_far ?_ NB144_143.out _; (with_reducible repeat (first | refine blk_drewN ?_ _ | refine blk_drew ?_ | refine blk_alloc ?_ _)); refine blk_far ?_ NB144_143.out _; (with_reducible repeat (first | refine blk_drewN ?_ _ | refine blk_drew ?_ | refine blk_alloc ?_ _)); exact BK144.out) Tryd.underlying49 rfl kk (.tmp (.tmp .nil))))) rfl ?_
   exact ⟨pe, pw⟩
  clear HC5
  try clear c1
  try clear p2
  try clear c8
  try clear c9
  try clear c10
  try clear c12
  try clear c13
  try clear c14
  try clear c83
  try clear c83b0
  try clear c83b1
  try clear c85
  try clear c96
  try clear c97
  try clear c98
  try clear c99
  try clear c101
  try clear c102
  try clear c106
  try clear c109
  try clear c120
  try clear c121
  try clear c122
  try clear c125
  try clear c126
  try clear c132
  try clear c143
  try clear c144
  try clear c145
  try clear c148
  try clear c149
  try clear hcz103_0
  try clear hcz103_1
  try clear hcz103_2
  try clear hcz103_3
  try clear hcz104_0
  try clear hcz104_1
  try clear hcz104_2
  try clear hcz104_3
  try clear hcz107_0
  try clear hcz107_1
  try clear hcz107_2
  try clear hcz107_3
  try clear hcz123_0
  try clear hcz123_1
  try clear hcz123_2
  try clear hcz123_3
  try clear hcz127_0
  try clear hcz127_1
  try clear hcz127_2
  try clear hcz127_3
  try clear hcz129_0
  try clear hcz129_1
  try clear hcz129_2
  try clear hcz129_3
  try clear hcz130_0
  try clear hcz130_1
  try clear hcz130_2
  try clear hcz130_3
  try clear hcz133_0
  try clear hcz133_1
  try clear hcz133_2
  try clear hcz133_3
  try clear hcz146_0
  try clear hcz146_1
  try clear hcz146_2
  try clear hcz146_3
  try clear hcz150_0
  try clear hcz150_1
  try clear hcz150_2
  try clear hcz150_3
  try clear hcz99_0
  try clear hcz99_1
  try clear hcz99_2
  try clear hcz99_3
  try clear hfz103_0
  try clear hfz103_1
  try clear hfz103_2
  try clear hfz103_3
  try clear hfz104_0
  try clear hfz104_1
  try clear hfz104_2
  try clear hfz104_3
  try clear hfz107_0
  try clear hfz107_1
  try clear hfz107_2
  try clear hfz107_3
  try clear hfz123_0
  try clear hfz123_1
  try clear hfz123_2
  try clear hfz123_3
  try clear hfz127_0
  try clear hfz127_1
  try clear hfz127_2
  try clear hfz127_3
  try clear hfz129_0
  try clear hfz129_1
  try clear hfz129_2
  try clear hfz129_3
  try clear hfz130_0
  try clear hfz130_1
  try clear hfz130_2
  try clear hfz130_3
  try clear hfz133_0
  try clear hfz133_1
  try clear hfz133_2
  try clear hfz133_3
  try clear hfz146_0
  try clear hfz146_1
  try clear hfz146_2
  try clear hfz146_3
  try clear hfz150_0
  try clear hfz150_1
  try clear hfz150_2
  try clear hfz150_3
  try clear hfz99_0
  try clear hfz99_1
  try clear hfz99_2
  try clear hfz99_3
  obtain ⟨kq, x8_4, x144000_4, x144001_4, x144002_4, x144003_4, x145000_4, x145001_4, x145002_4, x145003_4, rfl, HA, HJ4, BK141, BK142, BK143, BK144, HB⟩ := hcut
  cases kq with
  | zero => exact absurd HA.out (by simp [interval_Refine.j0])
  | succ kj4 =>
   have H := HA.out
   clear HA
   simp only [interval_Refine.j0] at H
   by_cases c161 : x8_4 = true
   ·subst c161
    have H1 : ((interval_clip.f kj4 x144000_4 x144001_4 x144002_4 x144003_4).bind fun bt200 => ((interval_clip.f kj4 x145000_4 x145001_4 x145002_4 x145003_4).bind fun bt204 => (some (bt200.1, bt200.2.1, bt200.2.2.1, bt200.2.2.2, bt204.1, bt204.2.1, bt204.2.2.1, bt204.2.2.2, true, none)))) = some (r1, r2, r3, r4, r5, r6, r7, r8, r9, r10) := by rw [if_pos rfl] at H; exact H
    clear H
    have H := H1
    clear H1
    replace H := Option.bind_eq_some_iff.mp H
    obtain ⟨⟨t200, t201, t202, t203⟩, A1620, H⟩ := H
    replace H : ((interval_clip.f kj4 x145000_4 x145001_4 x145002_4 x145003_4).bind fun bt204 => (some (t200, t201, t202, t203, bt204.1, bt204.2.1, bt204.2.2.1, bt204.2.2.2, true, none))) = some (r1, r2, r3, r4, r5, r6, r7, r8, r9, r10) := H
    have A162 := am A1620
    clear A1620
    replace H := Option.bind_eq_some_iff.mp H
    obtain ⟨⟨t204, t205, t206, t207⟩, A1630, H⟩ := H
    replace H : (some (t200, t201, t202, t203, t204, t205, t206, t207, true, none)) = some (r1, r2, r3, r4, r5, r6, r7, r8, r9, r10) := H
    have A163 := am A1630
    clear A1630
    simp only [Option.some.injEq, Prod.mk.injEq] at H
    obtain ⟨rfl, rfl, rfl, rfl, rfl, rfl, rfl, rfl, rfl, rfl⟩ := H
    try go_wp2
    have n0_ := am (blk_drew BK141.out)
    have n1_ := am (blk_drew BK142.out)
    have n2_ := am (blk_drew BK143.out)
    have n3_ := am (blk_drew BK144.out)
    have n4_ := am (below_drew1 HB.out)
    clear BK141 BK142 BK143 BK144 HB
    revert n0_ n1_ n2_ n3_ n4_
    intro BK141 BK142 BK143 BK144 HB
    refine start_ (n := 8) (S := fun w' => w'.cell? ⟨gb143, 0, none⟩ = some (.bool x144000_4) ∧ w'.cell? ⟨gb143, 1, none⟩ = some (.bool x144001_4) ∧ w'.cell? ⟨gb143, 2, none⟩ = some (.int .i64 x144002_4) ∧ w'.cell? ⟨gb143, 3, none⟩ = some (.int .i64 x144003_4) ∧ w'.cell? ⟨gb144, 0, none⟩ = some (.bool x145000_4) ∧ w'.cell? ⟨gb144, 1, none⟩ = some (.bool x145001_4) ∧ w'.cell? ⟨gb144, 2, none⟩ = some (.int .i64 x145002_4) ∧ w'.cell? ⟨gb144, 3, none⟩ = some (.int .i64 x145003_4)) (ds := [4, 5]) #[false, false, false, false, false, false, false, false] kk rfl rfl ⟨bc BK143 0, bc BK143 1, bc BK143 2, bc BK143 3, bc BK144 0, bc BK144 1, bc BK144 2, bc BK144 3⟩ (fun hHeld => ?_); refine with_tabW interval_Refine.tab26 interval_Refine.bits26 (fun HT_ HW_ => ?_)
    generalize wc.drew = w164 at BK141 BK142 BK143 BK144 HB hHeld ⊢
    refine take_ (i := 0) (N := some 97) (v := ?_) (a' := ?_) #[true, false, false, false, false, false, false, false] rfl rfl (take_ofW HT_.out HW_.out kk) (fun _ _ _ h => h) (Or.inl ⟨by rfl, ?_⟩) hHeld ?_ ?_
    rotate_left
    ·rintro w' ⟨s0, s1, s2, s3, s4, s5, s6, s7⟩
     go_simp
     with_reducible rfl
    rotate_left
    ·simp only [Act.put, List.setIfInBounds_toArray, List.set_cons_zero, List.set_cons_succ, i64_w, i32_w]
     rfl
    refine take_ (i := 2) (N := some 99) (v := ?_) (a' := ?_) #[true, false, true, false, false, false, false, false] rfl rfl (take_ofW HT_.out HW_.out kk) (fun _ _ _ h => h) (Or.inl ⟨by rfl, ?_⟩) hHeld ?_ ?_
    rotate_left
    ·rintro w' ⟨s0, s1, s2, s3, s4, s5, s6, s7⟩
     go_simp
     with_reducible rfl
    rotate_left
    ·simp only [Act.put, List.setIfInBounds_toArray, List.set_cons_zero, List.set_cons_succ, i64_w, i32_w]
     rfl
    refine one_ (i := 1) (N := some 98) #[true, true, true, false, false, false, false, false] rfl rfl (one_of HT_.out kk) (by decide) (fun K hK => ?_)
    refine goes_ Tryd.func100 kk rfl #[.agg #[.bool x144000_4, .bool x144001_4, .int .i64 x144002_4, .int .i64 x144003_4]] (by rfl) rfl rfl (by (try simp only [List.map_toArray, List.map_cons, List.map_nil]); first | done | rfl | (simp only [List.length_drop, List.length_take]; rfl)) ?_
    with_reducible refine (interval_clip.calls kj4 x144000_4 x144001_4 x144002_4 x144003_4 t200 t201 t202 t203 _ A162.out).mono ?_
    rintro e w165 ⟨rfl, hb⟩
    refine ⟨_, rfl, ?_⟩
    have n0_ := bb BK141 hb
    have n1_ := bb BK142 hb
    have n2_ := bb BK143 hb
    have n3_ := bb BK144 hb
    have n4_ := am (below_step pw hb)
    clear BK141 BK142 BK143 BK144 HB
    revert n0_ n1_ n2_ n3_ n4_
    intro BK141 BK142 BK143 BK144 HB
    (try clear hb)
    (try clear hb2)
    (try clear hk)
    (try clear hi)
    refine hK.out _ _ ⟨bc BK143 0, bc BK143 1, bc BK143 2, bc BK143 3, bc BK144 0, bc BK144 1, bc BK144 2, bc BK144 3⟩ (fun hHeld => ?_)
    clear hK K
    refine norm_ (a' := ?_) ?_ ?_
    rotate_left
    ·show Act.put _ (some 98) _ = _
     simp only [Act.put, List.setIfInBounds_toArray, List.set_cons_zero, List.set_cons_succ, i64_w, i32_w]
     rfl
    refine one_ (i := 3) (N := some 100) #[true, true, true, true, false, false, false, false] rfl rfl (one_of HT_.out kk) (by decide) (fun K hK => ?_)
    refine goes_ Tryd.func100 kk rfl #[.agg #[.bool x145000_4, .bool x145001_4, .int .i64 x145002_4, .int .i64 x145003_4]] (by rfl) rfl rfl (by (try simp only [List.map_toArray, List.map_cons, List.map_nil]); first | done | rfl | (simp only [List.length_drop, List.length_take]; rfl)) ?_
    with_reducible refine (interval_clip.calls kj4 x145000_4 x145001_4 x145002_4 x145003_4 t204 t205 t206 t207 _ A163.out).mono ?_
    rintro e w166 ⟨rfl, hb⟩
    refine ⟨_, rfl, ?_⟩
    have n0_ := bb BK141 hb
    have n1_ := bb BK142 hb
    have n2_ := bb BK143 hb
    have n3_ := bb BK144 hb
    have n4_ := am (below_step pw hb)
    clear BK141 BK142 BK143 BK144 HB
    revert n0_ n1_ n2_ n3_ n4_
    intro BK141 BK142 BK143 BK144 HB
    (try clear hb)
    (try clear hb2)
    (try clear hk)
    (try clear hi)
    refine hK.out _ _ ⟨bc BK143 0, bc BK143 1, bc BK143 2, bc BK143 3, bc BK144 0, bc BK144 1, bc BK144 2, bc BK144 3⟩ (fun hHeld => ?_)
    clear hK K
    refine norm_ (a' := ?_) ?_ ?_
    rotate_left
    ·show Act.put _ (some 100) _ = _
     simp only [Act.put, List.setIfInBounds_toArray, List.set_cons_zero, List.set_cons_succ, i64_w, i32_w]
     rfl
    refine last_ (i := 4) (N := none) #[true, true, true, true, true, false, false, false] rfl rfl (one_of HT_.out kk) (by decide) (fun K hK => ?_)
    have hs167 : w166.cell? ⟨gb143, 0, none⟩ = some (.bool x144000_4) := bc BK143 0
    have hfs167 := blk_frozen BK143.out 0
    have hns167_0 := NB141_143.out
    have hns167_1 := NB142_143.out
    have hns167_3 := NB144_143.out
    have hms167_0 := NB143_141.out
    have hms167_1 := NB143_142.out
    have hms167_3 := NB143_144.out
    have hs168 : w166.cell? ⟨gb143, 1, none⟩ = some (.bool x144001_4) := bc BK143 1
    have hfs168 := blk_frozen BK143.out 1
    have hns168_0 := NB141_143.out
    have hns168_1 := NB142_143.out
    have hns168_3 := NB144_143.out
    have hms168_0 := NB143_141.out
    have hms168_1 := NB143_142.out
    have hms168_3 := NB143_144.out
    have hs169 : w166.cell? ⟨gb143, 2, none⟩ = some (.int .i64 x144002_4) := bc BK143 2
    have hfs169 := blk_frozen BK143.out 2
    have hns169_0 := NB141_143.out
    have hns169_1 := NB142_143.out
    have hns169_3 := NB144_143.out
    have hms169_0 := NB143_141.out
    have hms169_1 := NB143_142.out
    have hms169_3 := NB143_144.out
    have hs170 : w166.cell? ⟨gb143, 3, none⟩ = some (.int .i64 x144003_4) := bc BK143 3
    have hfs170 := blk_frozen BK143.out 3
    have hns170_0 := NB141_143.out
    have hns170_1 := NB142_143.out
    have hns170_3 := NB144_143.out
    have hms170_0 := NB143_141.out
    have hms170_1 := NB143_142.out
    have hms170_3 := NB143_144.out
    refine skip_ (w1 := ?_) (by rfl) rfl ?_ ?_
    rotate_left
    ·go_simp
     rfl
    refine hK.out _ _ ?_
    clear hK K
    refine last_ (i := 5) (N := none) #[true, true, true, true, true, true, false, false] rfl rfl (one_of HT_.out kk) (by decide) (fun K hK => ?_)
    have hs171 : w166.cell? ⟨gb144, 0, none⟩ = some (.bool x145000_4) := bc BK144 0
    have hfs171 := blk_frozen BK144.out 0
    have hns171_0 := NB141_144.out
    have hns171_1 := NB142_144.out
    have hns171_2 := NB143_144.out
    have hms171_0 := NB144_141.out
    have hms171_1 := NB144_142.out
    have hms171_2 := NB144_143.out
    have hs172 : w166.cell? ⟨gb144, 1, none⟩ = some (.bool x145001_4) := bc BK144 1
    have hfs172 := blk_frozen BK144.out 1
    have hns172_0 := NB141_144.out
    have hns172_1 := NB142_144.out
    have hns172_2 := NB143_144.out
    have hms172_0 := NB144_141.out
    have hms172_1 := NB144_142.out
    have hms172_2 := NB144_143.out
    have hs173 : w166.cell? ⟨gb144, 2, none⟩ = some (.int .i64 x145002_4) := bc BK144 2
    have hfs173 := blk_frozen BK144.out 2
    have hns173_0 := NB141_144.out
    have hns173_1 := NB142_144.out
    have hns173_2 := NB143_144.out
    have hms173_0 := NB144_141.out
    have hms173_1 := NB144_142.out
    have hms173_2 := NB144_143.out
    have hs174 : w166.cell? ⟨gb144, 3, none⟩ = some (.int .i64 x145003_4) := bc BK144 3
    have hfs174 := blk_frozen BK144.out 3
    have hns174_0 := NB141_144.out
    have hns174_1 := NB142_144.out
    have hns174_2 := NB143_144.out
    have hms174_0 := NB144_141.out
    have hms174_1 := NB144_142.out
    have hms174_2 := NB144_143.out
    refine skip_ (w1 := ?_) (by rfl) rfl ?_ ?_
    rotate_left
    ·go_simp
     rfl
    refine hK.out _ _ ?_
    clear hK K
    refine pure_ (i := 6) (N := some 8) (v := ?_) (a' := ?_) #[true, true, true, true, true, true, true, false] rfl rfl (any_of HT_.out kk) (fun _ _ _ h => h) (Or.inl ⟨by rfl, ?_⟩) ?_ ?_
    rotate_left
    ·intro w'
     go_simp
     with_reducible rfl
    rotate_left
    ·simp only [Act.put, List.setIfInBounds_toArray, List.set_cons_zero, List.set_cons_succ, i64_w, i32_w]
     rfl
    refine pure_ (i := 7) (N := some 9) (v := ?_) (a' := ?_) #[true, true, true, true, true, true, true, true] rfl rfl (any_of HT_.out kk) (fun _ _ _ h => h) (Or.inl ⟨by rfl, ?_⟩) ?_ ?_
    rotate_left
    ·intro w'
     go_simp
     with_reducible rfl
    rotate_left
    ·simp only [Act.put, List.setIfInBounds_toArray, List.set_cons_zero, List.set_cons_succ, i64_w, i32_w]
     rfl
    refine done_ (done_of HT_.out kk) ?_
    (try simp only [errW_none, errW_some])
    try go_wp2
    refine bodyPost_ret (results_list (rs := [.cell 6 49, .cell 7 49, .tmp 8, .tmp 9]) rfl (by simp) (.cell gb143 49 #[.bool t200, .bool t201, .int .i64 t202, .int .i64 t203] (0, 0) _ rfl (by (with_reducible repeat (first | refine blk_drewN ?_ _ | refine blk_drew ?_ | refine blk_alloc ?_ _)); refine blk_far ?_ NB143_144.out _; (with_reducible repeat (first | refine blk_drewN ?_ _ | refine blk_drew ?_ | refine blk_alloc ?_ _)); refine blk_far ?_ NB143_144.out _; (with_reducible repeat (first | refine blk_drewN ?_ _ | refine blk_drew ?_ | refine blk_alloc ?_ _)); refine blk_far ?_ NB143_144.out _; (with_reducible repeat (first | refine blk_drewN ?_ _ | refine blk_drew ?_ | refine blk_alloc ?_ _)); refine blk_far ?_ NB143_144.out _; (with_reducible repeat (first | refine blk_drewN ?_ _ | refine blk_drew ?_ | refine blk_alloc ?_ _)); refine blk_put (cs := #[.bool t200, .bool t201, .int .i64 t202, .int .i64 x144003_4]) ?_ 3 _ rfl; (with_reducible repeat (first | refine blk_drewN ?_ _ | refine blk_drew ?_ | refine blk_alloc ?_ _)); refine blk_put (cs := #[.bool t200, .bool t201, .int .i64 x144002_4, .int .i64 x144003_4]) ?_ 2 _ rfl; (with_reducible repeat (first | refine blk_drewN ?_ _ | refine blk_drew ?_ | refine blk_alloc ?_ _)); refine blk_put (cs := #[.bool t200, .bool x144001_4, .int .i64 x144002_4, .int .i64 x144003_4]) ?_ 1 _ rfl; (with_reducible repeat (first | refine blk_drewN ?_ _ | refine blk_drew ?_ | refine blk_alloc ?_ _)); refine blk_put (cs := #[.bool x144000_4, .bool x144001_4, .int .i64 x144002_4, .int .i64 x144003_4]) ?_ 0 _ rfl; (with_reducible repeat (first | refine blk_drewN ?_ _ | refine blk_drew ?_ | refine blk_alloc ?_ _)); exact BK143.out) Tryd.underlying49 rfl kk (.cell gb144 49 #[.bool t204, .bool t205, .int .i64 t206, .int .i64 t207] (0, 0) _ rfl (by (with_reducible repeat (first | refine blk_drewN ?_ _ | refine blk_drew ?_ | refine blk_alloc ?_ _)); refine blk_put (cs := #[.bool t204, .bool t205, .int .i64 t206, .int .i64 x145003_4]) ?_ 3 _ rfl; (with_reducible repeat (first | refine blk_drewN ?_ _ | refine blk_drew ?_ | refine blk_alloc ?_ _)); refine blk_put (cs := #[.bool t204, .bool t205, .int .i64 x145002_4, .int .i64 x145003_4]) ?_ 2 _ rfl; (with_reducible repeat (first | refine blk_drewN ?_ _ | refine blk_drew ?_ | refine blk_alloc ?_ _)); refine blk_put (cs := #[.bool t204, .bool x145001_4, .int .i64 x145002_4, .int .i64 x145003_4]) ?_ 1 _ rfl; (with_reducible repeat (first | refine blk_drewN ?_ _ | refine blk_drew ?_ | refine blk_alloc ?_ _)); refine blk_put (cs := #[.bool x145000_4, .bool x145001_4, .int .i64 x145002_4, .int .i64 x145003_4]) ?_ 0 _ rfl; (with_reducible repeat (first | refine blk_drewN ?_ _ | refine blk_drew ?_ | refine blk_alloc ?_ _)); refine blk_far ?_ NB144_143.out _; (with_reducible repeat (first | refine blk_drewN ?_ _ | refine blk_drew ?_ | refine blk_alloc ?_ _)); refine blk_far ?_ NB144_143.out _; (with_reducible repeat (first | refine blk_drewN ?_ _ | refine blk_drew ?_ | refine blk_alloc ?_ _)); refine blk_far ?_ NB144_143.out _; (with_reducible repeat (first | refine blk_drewN ?_ _ | refine blk_drew ?_ | refine blk_alloc ?_ _)); refine blk_far ?_ NB144_143.out _; (with_reducible repeat (first | refine blk_drewN ?_ _ | refine blk_drew ?_ | refine blk_alloc ?_ _)); exact BK144.out) Tryd.underlying49 rfl kk (.tmp (.tmp .nil))))) rfl ?_
    exact ⟨pe, pw⟩
   replace c161 := Bool.eq_false_iff.mpr c161
   subst c161
   have H1 : (some (false, false, 0, 0, false, false, 0, 0, false, none)) = some (r1, r2, r3, r4, r5, r6, r7, r8, r9, r10) := by rw [if_neg (show ¬ (false = true) by decide)] at H; exact H
   clear H
   have H := H1
   clear H1
   simp only [Option.some.injEq, Prod.mk.injEq] at H
   obtain ⟨rfl, rfl, rfl, rfl, rfl, rfl, rfl, rfl, rfl, rfl⟩ := H
   have hnb175 := NB143_141.out
   have hnc175 := NB141_143.out
   have hnb176 := NB143_142.out
   have hnc176 := NB142_143.out
   have hnb177 := NB143_144.out
   have hnc177 := NB144_143.out
   have hcz178_0 : wc.cell? ⟨gb143, 0, none⟩ = some (.bool x144000_4) := bc BK143 0
   have hcz178_1 : wc.cell? ⟨gb143, 1, none⟩ = some (.bool x144001_4) := bc BK143 1
   have hcz178_2 : wc.cell? ⟨gb143, 2, none⟩ = some (.int .i64 x144002_4) := bc BK143 2
   have hcz178_3 : wc.cell? ⟨gb143, 3, none⟩ = some (.int .i64 x144003_4) := bc BK143 3
   have hfz178_0 := blk_frozen BK143.out 0
   have hfz178_1 := blk_frozen BK143.out 1
   have hfz178_2 := blk_frozen BK143.out 2
   have hfz178_3 := blk_frozen BK143.out 3
   have hnb179 := NB144_141.out
   have hnc179 := NB141_144.out
   have hnb180 := NB144_142.out
   have hnc180 := NB142_144.out
   have hcz181_0 : wc.cell? ⟨gb144, 0, none⟩ = some (.bool x145000_4) := bc BK144 0
   have hcz181_1 : wc.cell? ⟨gb144, 1, none⟩ = some (.bool x145001_4) := bc BK144 1
   have hcz181_2 : wc.cell? ⟨gb144, 2, none⟩ = some (.int .i64 x145002_4) := bc BK144 2
   have hcz181_3 : wc.cell? ⟨gb144, 3, none⟩ = some (.int .i64 x145003_4) := bc BK144 3
   have hfz181_0 := blk_frozen BK144.out 0
   have hfz181_1 := blk_frozen BK144.out 1
   have hfz181_2 := blk_frozen BK144.out 2
   have hfz181_3 := blk_frozen BK144.out 3
   go_wp2
   refine bodyPost_ret (results_list (rs := [.cell 6 49, .cell 7 49, .tmp 8, .tmp 9]) rfl (by simp) (.cell gb143 49 #[.bool false, .bool false, .int .i64 0, .int .i64 0] (0, 0) _ rfl (by (with_reducible repeat (first | refine blk_drewN ?_ _ | refine blk_drew ?_ | refine blk_alloc ?_ _)); refine blk_far ?_ NB143_144.out _; (with_reducible repeat (first | refine blk_drewN ?_ _ | refine blk_drew ?_ | refine blk_alloc ?_ _)); refine blk_far ?_ NB143_144.out _; (with_reducible repeat (first | refine blk_drewN ?_ _ | refine blk_drew ?_ | refine blk_alloc ?_ _)); refine blk_far ?_ NB143_144.out _; (with_reducible repeat (first | refine blk_drewN ?_ _ | refine blk_drew ?_ | refine blk_alloc ?_ _)); refine blk_far ?_ NB143_144.out _; (with_reducible repeat (first | refine blk_drewN ?_ _ | refine blk_drew ?_ | refine blk_alloc ?_ _)); refine blk_put (cs := #[.bool false, .bool false, .int .i64 0, .int .i64 x144003_4]) ?_ 3 _ rfl; (with_reducible repeat (first | refine blk_drewN ?_ _ | refine blk_drew ?_ | refine blk_alloc ?_ _)); refine blk_put (cs := #[.bool false, .bool false, .int .i64 x144002_4, .int .i64 x144003_4]) ?_ 2 _ rfl; (with_reducible repeat (first | refine blk_drewN ?_ _ | refine blk_drew ?_ | refine blk_alloc ?_ _)); refine blk_put (cs := #[.bool false, .bool x144001_4, .int .i64 x144002_4, .int .i64 x144003_4]) ?_ 1 _ rfl; (with_reducible repeat (first | refine blk_drewN ?_ _ | refine blk_drew ?_ | refine blk_alloc ?_ _)); refine blk_put (cs := #[.bool x144000_4, .bool x144001_4, .int .i64 x144002_4, .int .i64 x144003_4]) ?_ 0 _ rfl; (with_reducible repeat (first | refine blk_drewN ?_ _ | refine blk_drew ?_ | refine blk_alloc ?_ _)); exact BK143.out) Tryd.underlying49 rfl kk (.cell gb144 49 #[.bool false, .bool false, .int .i64 0, .int .i64 0] (0, 0) _ rfl (by (with_reducible repeat (first | refine blk_drewN ?_ _ | refine blk_drew ?_ | refine blk_alloc ?_ _)); refine blk_put (cs := #[.bool false, .bool false, .int .i64 0, .int .i64 x145003_4]) ?_ 3 _ rfl; (with_reducible repeat (first | refine blk_drewN ?_ _ | refine blk_drew ?_ | refine blk_alloc ?_ _)); refine blk_put (cs := #[.bool false, .bool false, .int .i64 x145002_4, .int .i64 x145003_4]) ?_ 2 _ rfl; (with_reducible repeat (first | refine blk_drewN ?_ _ | refine blk_drew ?_ | refine blk_alloc ?_ _)); refine blk_put (cs := #[.bool false, .bool x145001_4, .int .i64 x145002_4, .int .i64 x145003_4]) ?_ 1 _ rfl; (with_reducible repeat (first | refine blk_drewN ?_ _ | refine blk_drew ?_ | refine blk_alloc ?_ _)); refine blk_put (cs := #[.bool x145000_4, .bool x145001_4, .int .i64 x145002_4, .int .i64 x145003_4]) ?_ 0 _ rfl; (with_reducible repeat (first | refine blk_drewN ?_ _ | refine blk_drew ?_ | refine blk_alloc ?_ _)); refine blk_far ?_ NB144_143.out _; (with_reducible repeat (first | refine blk_drewN ?_ _ | refine blk_drew ?_ | refine blk_alloc ?_ _)); refine blk_far ?_ NB144_143.out _; (with_reducible repeat (first | refine blk_drewN ?_ _ | refine blk_drew ?_ | refine blk_alloc ?_ _)); refine blk_far ?_ NB144_143.out _; (with_reducible repeat (first | refine blk_drewN ?_ _ | refine blk_drew ?_ | refine blk_alloc ?_ _)); refine blk_far ?_ NB144_143.out _; (with_reducible repeat (first | refine blk_drewN ?_ _ | refine blk_drew ?_ | refine blk_alloc ?_ _)); exact BK144.out) Tryd.underlying49 rfl kk (.tmp (.tmp .nil))))) rfl ?_
   exact ⟨pe, pw⟩
 have H1 : (some (false, false, 0, 0, false, false, 0, 0, false, some q146)) = some (r1, r2, r3, r4, r5, r6, r7, r8, r9, r10) := by rw [if_neg (show ¬ (some q146).isNone = true by simp)] at H; exact H
 clear H
 have H := H1
 clear H1
 try simp only [errW_none, errW_some]
 simp only [Option.some.injEq, Prod.mk.injEq] at H
 obtain ⟨rfl, rfl, rfl, rfl, rfl, rfl, rfl, rfl, rfl, rfl⟩ := H
 go_enter Tryd.func30, Tryd.ntmps30
 go_wp2_with (first | ((with_reducible refine gate_dst (N := 3) rfl ?_); refine box_event ?hg (N := 3) ?hd (cs := #[.bool a0_0, .bool a0_1, .int .i64 a0_2, .int .i64 a0_3]) (t := 49) ?hr ?_; (case hd => rfl); (case hg => rfl); (case hr => first | (go_simp; done) | (go_simp; rfl)); intro gb141 hg w182 hbox hb; have n0_ := am (below_step pw hb); have n1_ := am (hbox); have n2_ := am ((by rw [hg]; exact (below_size pw) : w.heap.size ≤ gb141)); have n3_ := am ((by rw [hg]; exact (below_size pw) : w.heap.size ≤ gb141)); clear HB; have HB := n0_; have BK141 := n1_; have GW141 := n2_; have GE141 := n3_; clear n0_ n1_ n2_ n3_; clear hb hbox hg) | ((with_reducible refine gate_dst (N := 4) rfl ?_); refine box_event ?hg (N := 4) ?hd (cs := #[.bool a1_0, .bool a1_1, .int .i64 a1_2, .int .i64 a1_3]) (t := 49) ?hr ?_; (case hd => rfl); (case hg => rfl); (case hr => first | (go_simp; done) | (go_simp; rfl)); intro gb142 hg w183 hbox hb; have n0_ := bb BK141 hb; have n1_ := am (below_step pw hb); have n2_ := am (hbox); have n3_ := am ((by rw [hg]; exact (below_size pw) : w.heap.size ≤ gb142)); have n4_ := am ((by rw [hg]; exact (below_size pw) : w.heap.size ≤ gb142)); have n5_ := am ((by rw [hg]; exact Nat.ne_of_lt (blk_lt pk) : gb141 ≠ gb142)); have n6_ := am ((by rw [hg]; exact Nat.ne_of_gt (blk_lt pk) : gb142 ≠ gb141)); clear BK141; clear HB; have BK141 := n0_; have HB := n1_; have BK142 := n2_; have GW142 := n3_; have GE142 := n4_; have NB141_142 := n5_; have NB142_141 := n6_; clear n0_ n1_ n2_ n3_ n4_ n5_ n6_; clear hb hbox hg) | ((with_reducible refine gate_dst (N := 6) rfl ?_); refine box_event ?hg (N := 6) ?hd (cs := #[.bool false, .bool false, .int .i64 0, .int .i64 0]) (t := 49) ?hr ?_; (case hd => rfl); (case hg => rfl); (case hr => first | (go_simp; done) | (go_simp; rfl)); intro gb143 hg w184 hbox hb; have n0_ := bb BK141 hb; have n1_ := bb BK142 hb; have n2_ := am (below_step pw hb); have n3_ := am (hbox); have n4_ := am ((by rw [hg]; exact (below_size pw) : w.heap.size ≤ gb143)); have n5_ := am ((by rw [hg]; exact (below_size pw) : w.heap.size ≤ gb143)); have n6_ := am ((by rw [hg]; exact Nat.ne_of_lt (blk_lt pk) : gb141 ≠ gb143)); have n7_ := am ((by rw [hg]; exact Nat.ne_of_gt (blk_lt pk) : gb143 ≠ gb141)); have n8_ := am ((by rw [hg]; exact Nat.ne_of_lt (blk_lt pk) : gb142 ≠ gb143)); have n9_ := am ((by rw [hg]; exact Nat.ne_of_gt (blk_lt pk) : gb143 ≠ gb142)); clear BK141; clear BK142; clear HB; have BK141 := n0_; have BK142 := n1_; have HB := n2_; have BK143 := n3_; have GW143 := n4_; have GE143 := n5_; have NB141_143 := n6_; have NB143_141 := n7_; have NB142_143 := n8_; have NB143_142 := n9_; clear n0_ n1_ n2_ n3_ n4_ n5_ n6_ n7_ n8_ n9_; clear hb hbox hg) | ((with_reducible refine gate_dst (N := 7) rfl ?_); refine box_event ?hg (N := 7) ?hd (cs := #[.bool false, .bool false, .int .i64 0, .int .i64 0]) (t := 49) ?hr ?_; (case hd => rfl); (case hg => rfl); (case hr => first | (go_simp; done) | (go_simp; rfl)); intro gb144 hg w185 hbox hb; have n0_ := bb BK141 hb; have n1_ := bb BK142 hb; have n2_ := bb BK143 hb; have n3_ := am (below_step pw hb); have n4_ := am (hbox); have n5_ := am ((by rw [hg]; exact (below_size pw) : w.heap.size ≤ gb144)); have n6_ := am ((by rw [hg]; exact (below_size pw) : w.heap.size ≤ gb144)); have n7_ := am ((by rw [hg]; exact Nat.ne_of_lt (blk_lt pk) : gb141 ≠ gb144)); have n8_ := am ((by rw [hg]; exact Nat.ne_of_gt (blk_lt pk) : gb144 ≠ gb141)); have n9_ := am ((by rw [hg]; exact Nat.ne_of_lt (blk_lt pk) : gb142 ≠ gb144)); have n10_ := am ((by rw [hg]; exact Nat.ne_of_gt (blk_lt pk) : gb144 ≠ gb142)); have n11_ := am ((by rw [hg]; exact Nat.ne_of_lt (blk_lt pk) : gb143 ≠ gb144)); have n12_ := am ((by rw [hg]; exact Nat.ne_of_gt (blk_lt pk) : gb144 ≠ gb143)); clear BK141; clear BK142; clear BK143; clear HB; have BK141 := n0_; have BK142 := n1_; have BK143 := n2_; have HB := n3_; have BK144 := n4_; have GW144 := n5_; have GE144 := n6_; have NB141_144 := n7_; have NB144_141 := n8_; have NB142_144 := n9_; have NB144_142 := n10_; have NB143_144 := n11_; have NB144_143 := n12_; clear n0_ n1_ n2_ n3_ n4_ n5_ n6_ n7_ n8_ n9_ n10_ n11_ n12_; clear hb hbox hg; have hnb186 := NB141_142.out; have hnc186 := NB142_141.out; have hnb187 := NB141_143.out; have hnc187 := NB143_141.out; have hnb188 := NB141_144.out; have hnc188 := NB144_141.out; have hcz189_0 : w185.cell? ⟨gb141, 0, none⟩ = some (.bool a0_0) := bc BK141 0; have hcz189_1 : w185.cell? ⟨gb141, 1, none⟩ = some (.bool a0_1) := bc BK141 1; have hcz189_2 : w185.cell? ⟨gb141, 2, none⟩ = some (.int .i64 a0_2) := bc BK141 2; have hcz189_3 : w185.cell? ⟨gb141, 3, none⟩ = some (.int .i64 a0_3) := bc BK141 3; have hfz189_0 := blk_frozen BK141.out 0; have hfz189_1 := blk_frozen BK141.out 1; have hfz189_2 := blk_frozen BK141.out 2; have hfz189_3 := blk_frozen BK141.out 3; have hnb190 := NB142_143.out; have hnc190 := NB143_142.out; have hnb191 := NB142_144.out; have hnc191 := NB144_142.out; have hcz192_0 : w185.cell? ⟨gb142, 0, none⟩ = some (.bool a1_0) := bc BK142 0; have hcz192_1 : w185.cell? ⟨gb142, 1, none⟩ = some (.bool a1_1) := bc BK142 1; have hcz192_2 : w185.cell? ⟨gb142, 2, none⟩ = some (.int .i64 a1_2) := bc BK142 2; have hcz192_3 : w185.cell? ⟨gb142, 3, none⟩ = some (.int .i64 a1_3) := bc BK142 3; have hfz192_0 := blk_frozen BK142.out 0; have hfz192_1 := blk_frozen BK142.out 1; have hfz192_2 := blk_frozen BK142.out 2; have hfz192_3 := blk_frozen BK142.out 3) | ((with_reducible refine gate_callee (f := 95) rfl ?_); refine goesL_ (some 14) rfl rfl Tryd.func95 kk rfl #[.agg #[.bool a0_0, .bool a0_1, .int .i64 a0_2, .int .i64 a0_3], .agg #[.bool a1_0, .bool a1_1, .int .i64 a1_2, .int .i64 a1_3]] rfl (by (try simp only [List.map_toArray, List.map_cons, List.map_nil]); first | done | rfl | (simp only [List.length_drop, List.length_take]; rfl)) ?_; (with_reducible refine (interval_two.calls k a0_0 a0_1 a0_2 a0_3 a1_0 a1_1 a1_2 a1_3 (some q146) _ A4.out (am (ErrAt.below hE2.out pw)).out (am (ErrAt.below hE3.out pw)).out).mono ?_); rintro e w193 ⟨rfl, hb⟩; refine ⟨_, rfl, ?_⟩; have n0_ := bb BK141 hb; have n1_ := bb BK142 hb; have n2_ := bb BK143 hb; have n3_ := bb BK144 hb; have n4_ := am (below_step pw hb); clear BK141; clear BK142; clear BK143; clear BK144; clear HB; have BK141 := n0_; have BK142 := n1_; have BK143 := n2_; have BK144 := n3_; have HB := n4_; clear n0_ n1_ n2_ n3_ n4_; (try clear hb); (try clear hb2); (try clear hk); (try clear hi); (try simp only [errW_none, errW_some]); have hnb194 := NB143_144.out; have hnc194 := NB144_143.out; have hcz195_0 : w193.cell? ⟨gb143, 0, none⟩ = some (.bool false) := bc BK143 0; have hcz195_1 : w193.cell? ⟨gb143, 1, none⟩ = some (.bool false) := bc BK143 1; have hcz195_2 : w193.cell? ⟨gb143, 2, none⟩ = some (.int .i64 0) := bc BK143 2; have hcz195_3 : w193.cell? ⟨gb143, 3, none⟩ = some (.int .i64 0) := bc BK143 3; have hfz195_0 := blk_frozen BK143.out 0; have hfz195_1 := blk_frozen BK143.out 1; have hfz195_2 := blk_frozen BK143.out 2; have hfz195_3 := blk_frozen BK143.out 3; have hcz196_0 : w193.cell? ⟨gb144, 0, none⟩ = some (.bool false) := bc BK144 0; have hcz196_1 : w193.cell? ⟨gb144, 1, none⟩ = some (.bool false) := bc BK144 1; have hcz196_2 : w193.cell? ⟨gb144, 2, none⟩ = some (.int .i64 0) := bc BK144 2; have hcz196_3 : w193.cell? ⟨gb144, 3, none⟩ = some (.int .i64 0) := bc BK144 3; have hfz196_0 := blk_frozen BK144.out 0; have hfz196_1 := blk_frozen BK144.out 1; have hfz196_2 := blk_frozen BK144.out 2; have hfz196_3 := blk_frozen BK144.out 3))
 refine bodyPost_ret (results_list (rs := [.cell 6 49, .cell 7 49, .tmp 8, .tmp 9]) rfl (by simp) (.cell gb143 49 #[.bool false, .bool false, .int .i64 0, .int .i64 0] (0, 0) _ rfl (by (with_reducible repeat (first | refine blk_drewN ?_ _ | refine blk_drew ?_ | refine blk_alloc ?_ _)); refine blk_far ?_ NB143_144.out _; (with_reducible repeat (first | refine blk_drewN ?_ _ | refine blk_drew ?_ | refine blk_alloc ?_ _)); refine blk_far ?_ NB143_144.out _; (with_reducible repeat (first | refine blk_drewN ?_ _ | refine blk_drew ?_ | refine blk_alloc ?_ _)); refine blk_far ?_ NB143_144.out _; (with_reducible repeat (first | refine blk_drewN ?_ _ | refine blk_drew ?_ | refine blk_alloc ?_ _)); refine blk_far ?_ NB143_144.out _; (with_reducible repeat (first | refine blk_drewN ?_ _ | refine blk_drew ?_ | refine blk_alloc ?_ _)); refine blk_put (cs := #[.bool false, .bool false, .int .i64 0, .int .i64 0]) ?_ 3 _ rfl; (with_reducible repeat (first | refine blk_drewN ?_ _ | refine blk_drew ?_ | refine blk_alloc ?_ _)); refine blk_put (cs := #[.bool false, .bool false, .int .i64 0, .int .i64 0]) ?_ 2 _ rfl; (with_reducible repeat (first | refine blk_drewN ?_ _ | refine blk_drew ?_ | refine blk_alloc ?_ _)); refine blk_put (cs := #[.bool false, .bool false, .int .i64 0, .int .i64 0]) ?_ 1 _ rfl; (with_reducible repeat (first | refine blk_drewN ?_ _ | refine blk_drew ?_ | refine blk_alloc ?_ _)); refine blk_put (cs := #[.bool false, .bool false, .int .i64 0, .int .i64 0]) ?_ 0 _ rfl; (with_reducible repeat (first | refine blk_drewN ?_ _ | refine blk_drew ?_ | refine blk_alloc ?_ _)); exact BK143.out) Tryd.underlying49 rfl kk (.cell gb144 49 #[.bool false, .bool false, .int .i64 0, .int .i64 0] (0, 0) _ rfl (by (with_reducible repeat (first | refine blk_drewN ?_ _ | refine blk_drew ?_ | refine blk_alloc ?_ _)); refine blk_put (cs := #[.bool false, .bool false, .int .i64 0, .int .i64 0]) ?_ 3 _ rfl; (with_reducible repeat (first | refine blk_drewN ?_ _ | refine blk_drew ?_ | refine blk_alloc ?_ _)); refine blk_put (cs := #[.bool false, .bool false, .int .i64 0, .int .i64 0]) ?_ 2 _ rfl; (with_reducible repeat (first | refine blk_drewN ?_ _ | refine blk_drew ?_ | refine blk_alloc ?_ _)); refine blk_put (cs := #[.bool false, .bool false, .int .i64 0, .int .i64 0]) ?_ 1 _ rfl; (with_reducible repeat (first | refine blk_drewN ?_ _ | refine blk_drew ?_ | refine blk_alloc ?_ _)); refine blk_put (cs := #[.bool false, .bool false, .int .i64 0, .int .i64 0]) ?_ 0 _ rfl; (with_reducible repeat (first | refine blk_drewN ?_ _ | refine blk_drew ?_ | refine blk_alloc ?_ _)); refine blk_far ?_ NB144_143.out _; (with_reducible repeat (first | refine blk_drewN ?_ _ | refine blk_drew ?_ | refine blk_alloc ?_ _)); refine blk_far ?_ NB144_143.out _; (with_reducible repeat (first | refine blk_drewN ?_ _ | refine blk_drew ?_ | refine blk_alloc ?_ _)); refine blk_far ?_ NB144_143.out _; (with_reducible repeat (first | refine blk_drewN ?_ _ | refine blk_drew ?_ | refine blk_alloc ?_ _)); refine blk_far ?_ NB144_143.out _; (with_reducible repeat (first | refine blk_drewN ?_ _ | refine blk_drew ?_ | refine blk_alloc ?_ _)); exact BK144.out) Tryd.underlying49 rfl kk (.tmp (.tmp .nil))))) rfl ?_
 exact ⟨pe, pw⟩

end Go.Proofs.YtcalcnfppnbooaaDoor.R
