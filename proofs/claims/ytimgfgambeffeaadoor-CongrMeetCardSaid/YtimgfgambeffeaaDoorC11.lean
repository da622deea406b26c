-- Written by wip/xprint.py (the session's program over the kit's print).
import Derived.Test.YtimgfgambeffeaaDoorEb
import Derived.Test.YtimgfgambeffeaaDoorSetOver
import Derived.Test.YtimgfgambeffeaaDoorC0
import Derived.Test.YtimgfgambeffeaaDoorC2
import Derived.Test.YtimgfgambeffeaaDoorC3
import Derived.Test.YtimgfgambeffeaaDoorC5
import Derived.Test.YtimgfgambeffeaaDoorC6
import Derived.Test.YtimgfgambeffeaaDoorC7
import Derived.Test.YtimgfgambeffeaaDoorC9
namespace Go.Proofs.YtimgfgambeffeaaDoor.C
open Go.RowKit Go.Proofs.YtimgfgambeffeaaDoorW.PrintWords Go.Proofs.YtimgfgambeffeaaDoorW.PrintLast Go.Proofs.YtimgfgambeffeaaDoorW.PrintMore Go.Proofs.Rcg
attribute [local go_sem] Go.Proofs.Rcg.cell_ne01 Go.Proofs.Rcg.cell_ne10 max2_int min2_int max_two min_two max_three min_three max_four min_four   -- for this text's walks alone
set_option linter.unusedVariables false
set_option linter.unusedSimpArgs false

attribute [local go_sem high] eqA32 eqA34
/-! ### L2_CongrMeet: function 4 -/
mutual
def L2_CongrMeet.j0 : Nat → Bool → Option Int → Bool → Int → Int → Int → Int → Int → Int → Option (Bool)
 | 0, _, _, _, _, _, _, _, _, _ => none
 | k + 1, x8, x9, x50, x241000, x241001, x242000, x242001, x253000, x253001 => if x50 = true then (if x241001 = 0 then (L2_CongrMeet.j1 k x8 x9 x253000 x253001 x241000 x241001 x242000 x242001) else (L2_CongrMeet.j1 k x8 x9 x253000 x253001 x242000 x242001 x241000 x241001)) else (if x241001 > 2000 then (L2_CongrMeet.j2 k x8 x9 true x241000 x241001 x242000 x242001 x253000 x253001) else (L2_CongrMeet.j2 k x8 x9 (decide (x242001 > 2000)) x241000 x241001 x242000 x242001 x253000 x253001))
def L2_CongrMeet.j1 : Nat → Bool → Option Int → Int → Int → Int → Int → Int → Int → Option (Bool)
 | 0, _, _, _, _, _, _, _, _ => none
 | k + 1, x8, x9, x253000, x253001, x255000, x255001, x256000, x256001 => (R2_LeavesOf.f x256000 x256001 x255000).bind fun t256 => (if t256 = true then (if x8 = true then ((L2_isCongr.f x253000 x253001 x9 x255000 x255001 0).bind fun t257 => (some t257)) else (none)) else (if x9.isNone = true then (if x8 = true then (none) else (some (x253000 == 0 && (x253001 == 0)))) else (none)))
def L2_CongrMeet.j2 : Nat → Bool → Option Int → Bool → Int → Int → Int → Int → Int → Int → Option (Bool)
 | 0, _, _, _, _, _, _, _, _, _ => none
 | k + 1, x8, x9, x89, x241000, x241001, x242000, x242001, x253000, x253001 => if x89 = true then (if x9.isNone = true then (some true) else (none)) else (L2_CongrMeet.l0 k x8 x9 ([] : List Int) 0 x241000 x241001 x242000 x242001 x253000 x253001)
def L2_CongrMeet.l0 : Nat → Bool → Option Int → List Int → Int → Int → Int → Int → Int → Int → Int → Option (Bool)
 | 0, _, _, _, _, _, _, _, _, _, _ => none
 | k + 1, x8, x9, x13, x14, x241000, x241001, x242000, x242001, x253000, x253001 => if x14 ≤ (wrap64 (2 * x242001)) then ((R2_LeavesOf.f x242000 x242001 (wrap64 (x241000 + (wrap64 (x14 * x241001))))).bind fun t260 => (if t260 = true then (if x13.length < 17592186044416 then (L2_CongrMeet.l0 k x8 x9 (x13 ++ [wrap64 (x241000 + (wrap64 (x14 * x241001)))]) (wrap64 (x14 + 1)) x241000 x241001 x242000 x242001 x253000 x253001) else (none)) else (L2_CongrMeet.l0 k x8 x9 x13 (wrap64 (x14 + 1)) x241000 x241001 x242000 x242001 x253000 x253001))) else (if (x13.length : Int) = 0 then (if x9.isNone = true then (if x8 = true then (none) else (some (x253000 == 0 && (x253001 == 0)))) else (none)) else ((R2_LeastOf.f k x13).bind fun bt265 => (if (bt265.1 == 0 && (bt265.2 == 1)) = true then (if x241001 = 1 then (if x242001 = 1 then (if x8 = true then ((L2_isCongr.f x253000 x253001 x9 bt265.1 bt265.2 0).bind fun t268 => (some t268)) else (none)) else (if x8 = true then ((L2_isCongr.f x253000 x253001 x9 x241000 x241001 0).bind fun t269 => (some t269)) else (none))) else (if x8 = true then ((L2_isCongr.f x253000 x253001 x9 x241000 x241001 0).bind fun t270 => (some t270)) else (none))) else (if x8 = true then ((L2_isCongr.f x253000 x253001 x9 bt265.1 bt265.2 0).bind fun t271 => (some t271)) else (none)))))
end
def L2_CongrMeet.f (k : Nat) (a0_0 : Int) (a0_1 : Int) (a1_0 : Int) (a1_1 : Int) : Option (Bool) := (L2_sixth.f k).bind fun t242 => (if t242 = true then ((R2_TwoCongrs.f k a0_0 a0_1 a1_0 a1_1).bind fun t243 => ((L2_own.f a0_0 a0_1).bind fun bt244 => ((L2_own.f a1_0 a1_1).bind fun bt246 => ((congr_Meet.f k bt244.1 bt244.2 bt246.1 bt246.2).bind fun bt248 => (if t243 > 0 then ((L2_isCongr.f bt248.1 bt248.2.1 bt248.2.2.2 0 0 t243).bind fun t253 => (if t253 = true then (some (!bt248.2.2.1)) else (none))) else (if a0_1 = 0 then (L2_CongrMeet.j0 k bt248.2.2.1 bt248.2.2.2 true a0_0 a0_1 a1_0 a1_1 bt248.1 bt248.2.1) else (L2_CongrMeet.j0 k bt248.2.2.1 bt248.2.2.2 (a1_1 == 0) a0_0 a0_1 a1_0 a1_1 bt248.1 bt248.2.1))))))) else (none))
theorem L2_CongrMeet.mono_l : ∀ k, (∀ y0 y1 y2 y3 y4 y5 y6 y7 y8, LeO (L2_CongrMeet.j0 k y0 y1 y2 y3 y4 y5 y6 y7 y8) (L2_CongrMeet.j0 (k + 1) y0 y1 y2 y3 y4 y5 y6 y7 y8)) ∧ (∀ y0 y1 y2 y3 y4 y5 y6 y7, LeO (L2_CongrMeet.j1 k y0 y1 y2 y3 y4 y5 y6 y7) (L2_CongrMeet.j1 (k + 1) y0 y1 y2 y3 y4 y5 y6 y7)) ∧ (∀ y0 y1 y2 y3 y4 y5 y6 y7 y8, LeO (L2_CongrMeet.j2 k y0 y1 y2 y3 y4 y5 y6 y7 y8) (L2_CongrMeet.j2 (k + 1) y0 y1 y2 y3 y4 y5 y6 y7 y8)) ∧ (∀ y0 y1 y2 y3 y4 y5 y6 y7 y8 y9, LeO (L2_CongrMeet.l0 k y0 y1 y2 y3 y4 y5 y6 y7 y8 y9) (L2_CongrMeet.l0 (k + 1) y0 y1 y2 y3 y4 y5 y6 y7 y8 y9))
 | 0 => ⟨fun _ _ _ _ _ _ _ _ _ r h => by simp [L2_CongrMeet.j0] at h, fun _ _ _ _ _ _ _ _ r h => by simp [L2_CongrMeet.j1] at h, fun _ _ _ _ _ _ _ _ _ r h => by simp [L2_CongrMeet.j2] at h, fun _ _ _ _ _ _ _ _ _ _ r h => by simp [L2_CongrMeet.l0] at h⟩
 | k + 1 => by
  obtain ⟨ih0, ih1, ih2, ih3⟩ := L2_CongrMeet.mono_l k
  refine ⟨?_, ?_, ?_, ?_⟩
  ·intro y0 y1 y2 y3 y4 y5 y6 y7 y8
   unfold L2_CongrMeet.j0
   repeat' first
   | (with_reducible exact ih0 _ _ _ _ _ _ _ _ _)
   | (with_reducible exact ih1 _ _ _ _ _ _ _ _)
   | (with_reducible exact ih2 _ _ _ _ _ _ _ _ _)
   | (with_reducible exact ih3 _ _ _ _ _ _ _ _ _ _)
   | (with_reducible exact L2_sixth.mono _)
   | (with_reducible exact R2_LeastOf.mono _ _)
   | (with_reducible exact R2_TwoCongrs.mono _ _ _ _ _)
   | (with_reducible exact congr_Meet.mono _ _ _ _ _)
   | (with_reducible exact LeO.refl _)
   | (with_reducible exact LeO.none _)
   | (with_reducible refine LeO.ite ?_ ?_)
   | (with_reducible refine LeO.bind ?_ (fun _ => ?_))
   | exact ih0 _ _ _ _ _ _ _ _ _
   | exact ih1 _ _ _ _ _ _ _ _
   | exact ih2 _ _ _ _ _ _ _ _ _
   | exact ih3 _ _ _ _ _ _ _ _ _ _
   | exact L2_sixth.mono _
   | exact R2_LeastOf.mono _ _
   | exact R2_TwoCongrs.mono _ _ _ _ _
   | exact congr_Meet.mono _ _ _ _ _
   | exact LeO.none _
   | refine LeO.ite ?_ ?_
   | refine LeO.bind ?_ (fun _ => ?_)
  ·intro y0 y1 y2 y3 y4 y5 y6 y7
   unfold L2_CongrMeet.j1
   repeat' first
   | (with_reducible exact ih0 _ _ _ _ _ _ _ _ _)
   | (with_reducible exact ih1 _ _ _ _ _ _ _ _)
   | (with_reducible exact ih2 _ _ _ _ _ _ _ _ _)
   | (with_reducible exact ih3 _ _ _ _ _ _ _ _ _ _)
   | (with_reducible exact L2_sixth.mono _)
   | (with_reducible exact R2_LeastOf.mono _ _)
   | (with_reducible exact R2_TwoCongrs.mono _ _ _ _ _)
   | (with_reducible exact congr_Meet.mono _ _ _ _ _)
   | (with_reducible exact LeO.refl _)
   | (with_reducible exact LeO.none _)
   | (with_reducible refine LeO.ite ?_ ?_)
   | (with_reducible refine LeO.bind ?_ (fun _ => ?_))
   | exact ih0 _ _ _ _ _ _ _ _ _
   | exact ih1 _ _ _ _ _ _ _ _
   | exact ih2 _ _ _ _ _ _ _ _ _
   | exact ih3 _ _ _ _ _ _ _ _ _ _
   | exact L2_sixth.mono _
   | exact R2_LeastOf.mono _ _
   | exact R2_TwoCongrs.mono _ _ _ _ _
   | exact congr_Meet.mono _ _ _ _ _
   | exact LeO.none _
   | refine LeO.ite ?_ ?_
   | refine LeO.bind ?_ (fun _ => ?_)
  ·intro y0 y1 y2 y3 y4 y5 y6 y7 y8
   unfold L2_CongrMeet.j2
   repeat' first
   | (with_reducible exact ih0 _ _ _ _ _ _ _ _ _)
   | (with_reducible exact ih1 _ _ _ _ _ _ _ _)
   | (with_reducible exact ih2 _ _ _ _ _ _ _ _ _)
   | (with_reducible exact ih3 _ _ _ _ _ _ _ _ _ _)
   | (with_reducible exact L2_sixth.mono _)
   | (with_reducible exact R2_LeastOf.mono _ _)
   | (with_reducible exact R2_TwoCongrs.mono _ _ _ _ _)
   | (with_reducible exact congr_Meet.mono _ _ _ _ _)
   | (with_reducible exact LeO.refl _)
   | (with_reducible exact LeO.none _)
   | (with_reducible refine LeO.ite ?_ ?_)
   | (with_reducible refine LeO.bind ?_ (fun _ => ?_))
   | exact ih0 _ _ _ _ _ _ _ _ _
   | exact ih1 _ _ _ _ _ _ _ _
   | exact ih2 _ _ _ _ _ _ _ _ _
   | exact ih3 _ _ _ _ _ _ _ _ _ _
   | exact L2_sixth.mono _
   | exact R2_LeastOf.mono _ _
   | exact R2_TwoCongrs.mono _ _ _ _ _
   | exact congr_Meet.mono _ _ _ _ _
   | exact LeO.none _
   | refine LeO.ite ?_ ?_
   | refine LeO.bind ?_ (fun _ => ?_)
  intro y0 y1 y2 y3 y4 y5 y6 y7 y8 y9
  unfold L2_CongrMeet.l0
  repeat' first
  | (with_reducible exact ih0 _ _ _ _ _ _ _ _ _)
  | (with_reducible exact ih1 _ _ _ _ _ _ _ _)
  | (with_reducible exact ih2 _ _ _ _ _ _ _ _ _)
  | (with_reducible exact ih3 _ _ _ _ _ _ _ _ _ _)
  | (with_reducible exact L2_sixth.mono _)
  | (with_reducible exact R2_LeastOf.mono _ _)
  | (with_reducible exact R2_TwoCongrs.mono _ _ _ _ _)
  | (with_reducible exact congr_Meet.mono _ _ _ _ _)
  | (with_reducible exact LeO.refl _)
  | (with_reducible exact LeO.none _)
  | (with_reducible refine LeO.ite ?_ ?_)
  | (with_reducible refine LeO.bind ?_ (fun _ => ?_))
  | exact ih0 _ _ _ _ _ _ _ _ _
  | exact ih1 _ _ _ _ _ _ _ _
  | exact ih2 _ _ _ _ _ _ _ _ _
  | exact ih3 _ _ _ _ _ _ _ _ _ _
  | exact L2_sixth.mono _
  | exact R2_LeastOf.mono _ _
  | exact R2_TwoCongrs.mono _ _ _ _ _
  | exact congr_Meet.mono _ _ _ _ _
  | exact LeO.none _
  | refine LeO.ite ?_ ?_
  | refine LeO.bind ?_ (fun _ => ?_)
theorem L2_CongrMeet.mono : ∀ a0 a1 a2 a3 k, LeO (L2_CongrMeet.f k a0 a1 a2 a3) (L2_CongrMeet.f (k + 1) a0 a1 a2 a3) := by
 intro a0 a1 a2 a3 k
 obtain ⟨ih0, ih1, ih2, ih3⟩ := L2_CongrMeet.mono_l k
 unfold L2_CongrMeet.f
 repeat' first
   | (with_reducible exact ih0 _ _ _ _ _ _ _ _ _)
   | (with_reducible exact ih1 _ _ _ _ _ _ _ _)
   | (with_reducible exact ih2 _ _ _ _ _ _ _ _ _)
   | (with_reducible exact ih3 _ _ _ _ _ _ _ _ _ _)
   | (with_reducible exact L2_sixth.mono _)
   | (with_reducible exact R2_LeastOf.mono _ _)
   | (with_reducible exact R2_TwoCongrs.mono _ _ _ _ _)
   | (with_reducible exact congr_Meet.mono _ _ _ _ _)
   | (with_reducible exact LeO.refl _)
   | (with_reducible exact LeO.none _)
   | (with_reducible refine LeO.ite ?_ ?_)
   | (with_reducible refine LeO.bind ?_ (fun _ => ?_))
   | exact ih0 _ _ _ _ _ _ _ _ _
   | exact ih1 _ _ _ _ _ _ _ _
   | exact ih2 _ _ _ _ _ _ _ _ _
   | exact ih3 _ _ _ _ _ _ _ _ _ _
   | exact L2_sixth.mono _
   | exact R2_LeastOf.mono _ _
   | exact R2_TwoCongrs.mono _ _ _ _ _
   | exact congr_Meet.mono _ _ _ _ _
   | exact LeO.none _
   | refine LeO.ite ?_ ?_
   | refine LeO.bind ?_ (fun _ => ?_)
def L2_CongrMeet.T5 : Bool × List (List Nat × List Nat) := (true, [([], []), ([0], [0]), ([], []), ([2, 1], [2]), ([1, 3, 3], [1, 3]), ([4], [4]), ([5], [5]), ([5], [5]), ([5], [5]), ([], []), ([9, 6, 4, 0, 1, 2, 3, 4, 5, 6, 9], [6, 9]), ([7, 10, 0, 1, 2, 3, 4, 5, 6, 7, 9, 10], [7]), ([8, 11, 0, 1, 2, 3, 4, 5, 6, 7, 8, 9, 10, 11], [8])])
def L2_CongrMeet.B5 : List Nat := [0, 1, 0, 7, 15, 31, 63, 63, 63, 0, 639, 1791, 4095]
theorem L2_CongrMeet.tab5 : rtab .any (opsOf Tryd.f4 5) = L2_CongrMeet.T5 := by kernel_rfl
theorem L2_CongrMeet.bits5 : waitsOk L2_CongrMeet.T5.2 L2_CongrMeet.B5 = true := by kernel_rfl
set_option maxHeartbeats 8000000 in
set_option maxRecDepth 100000 in
theorem L2_CongrMeet.calls [EA] (k : Nat) (a0_0 : Int) (a0_1 : Int) (a1_0 : Int) (a1_1 : Int) (r : Bool) (w : World) (h : L2_CongrMeet.f k a0_0 a0_1 a1_0 a1_1 = some r) (h2_ : ErrAt 2 1 w) (h3_ : ErrAt 3 0 w) (h9_ : ErrAll w) :
  Calls Tryd.prog 4 #[.agg #[.int .i64 a0_0, .int .i64 a0_1], .agg #[.int .i64 a1_0, .int .i64 a1_1]] w fun e w' => e = .returned (.bool r) ∧ Below w.heap.size w w' := by
 have hE2 := am h2_
 clear h2_
 have hE3 := am h3_
 clear h3_
 have hE9 := am h9_
 clear h9_
 have hu32 := Tryd.underlying32
 have hu34 := Tryd.underlying34
 have hu28 := Tryd.underlying28
 have HB := am (Below.refl w.heap.size w)
 have H : ((L2_sixth.f k).bind fun t242 => (if t242 = true then ((R2_TwoCongrs.f k a0_0 a0_1 a1_0 a1_1).bind fun t243 => ((L2_own.f a0_0 a0_1).bind fun bt244 => ((L2_own.f a1_0 a1_1).bind fun bt246 => ((congr_Meet.f k bt244.1 bt244.2 bt246.1 bt246.2).bind fun bt248 => (if t243 > 0 then ((L2_isCongr.f bt248.1 bt248.2.1 bt248.2.2.2 0 0 t243).bind fun t253 => (if t253 = true then (some (!bt248.2.2.1)) else (none))) else (if a0_1 = 0 then (L2_CongrMeet.j0 k bt248.2.2.1 bt248.2.2.2 true a0_0 a0_1 a1_0 a1_1 bt248.1 bt248.2.1) else (L2_CongrMeet.j0 k bt248.2.2.1 bt248.2.2.2 (a1_1 == 0) a0_0 a0_1 a1_0 a1_1 bt248.1 bt248.2.1))))))) else (none))) = some r := h
 clear h
 replace H := Option.bind_eq_some_iff.mp H
 obtain ⟨t242, A30, H⟩ := H
 replace H : (if t242 = true then ((R2_TwoCongrs.f k a0_0 a0_1 a1_0 a1_1).bind fun t243 => ((L2_own.f a0_0 a0_1).bind fun bt244 => ((L2_own.f a1_0 a1_1).bind fun bt246 => ((congr_Meet.f k bt244.1 bt244.2 bt246.1 bt246.2).bind fun bt248 => (if t243 > 0 then ((L2_isCongr.f bt248.1 bt248.2.1 bt248.2.2.2 0 0 t243).bind fun t253 => (if t253 = true then (some (!bt248.2.2.1)) else (none))) else (if a0_1 = 0 then (L2_CongrMeet.j0 k bt248.2.2.1 bt248.2.2.2 true a0_0 a0_1 a1_0 a1_1 bt248.1 bt248.2.1) else (L2_CongrMeet.j0 k bt248.2.2.1 bt248.2.2.2 (a1_1 == 0) a0_0 a0_1 a1_0 a1_1 bt248.1 bt248.2.1))))))) else (none)) = some r := H
 have A3 := am A30
 clear A30
 by_cases c4 : t242 = true
 ·subst c4
  have H1 : ((R2_TwoCongrs.f k a0_0 a0_1 a1_0 a1_1).bind fun t243 => ((L2_own.f a0_0 a0_1).bind fun bt244 => ((L2_own.f a1_0 a1_1).bind fun bt246 => ((congr_Meet.f k bt244.1 bt244.2 bt246.1 bt246.2).bind fun bt248 => (if t243 > 0 then ((L2_isCongr.f bt248.1 bt248.2.1 bt248.2.2.2 0 0 t243).bind fun t253 => (if t253 = true then (some (!bt248.2.2.1)) else (none))) else (if a0_1 = 0 then (L2_CongrMeet.j0 k bt248.2.2.1 bt248.2.2.2 true a0_0 a0_1 a1_0 a1_1 bt248.1 bt248.2.1) else (L2_CongrMeet.j0 k bt248.2.2.1 bt248.2.2.2 (a1_1 == 0) a0_0 a0_1 a1_0 a1_1 bt248.1 bt248.2.1))))))) = some r := by rw [if_pos rfl] at H; exact H
  clear H
  have H := H1
  clear H1
  replace H := Option.bind_eq_some_iff.mp H
  obtain ⟨t243, A50, H⟩ := H
  replace H : ((L2_own.f a0_0 a0_1).bind fun bt244 => ((L2_own.f a1_0 a1_1).bind fun bt246 => ((congr_Meet.f k bt244.1 bt244.2 bt246.1 bt246.2).bind fun bt248 => (if t243 > 0 then ((L2_isCongr.f bt248.1 bt248.2.1 bt248.2.2.2 0 0 t243).bind fun t253 => (if t253 = true then (some (!bt248.2.2.1)) else (none))) else (if a0_1 = 0 then (L2_CongrMeet.j0 k bt248.2.2.1 bt248.2.2.2 true a0_0 a0_1 a1_0 a1_1 bt248.1 bt248.2.1) else (L2_CongrMeet.j0 k bt248.2.2.1 bt248.2.2.2 (a1_1 == 0) a0_0 a0_1 a1_0 a1_1 bt248.1 bt248.2.1)))))) = some r := H
  have A5 := am A50
  clear A50
  replace H := Option.bind_eq_some_iff.mp H
  obtain ⟨⟨t244, t245⟩, A60, H⟩ := H
  replace H : ((L2_own.f a1_0 a1_1).bind fun bt246 => ((congr_Meet.f k t244 t245 bt246.1 bt246.2).bind fun bt248 => (if t243 > 0 then ((L2_isCongr.f bt248.1 bt248.2.1 bt248.2.2.2 0 0 t243).bind fun t253 => (if t253 = true then (some (!bt248.2.2.1)) else (none))) else (if a0_1 = 0 then (L2_CongrMeet.j0 k bt248.2.2.1 bt248.2.2.2 true a0_0 a0_1 a1_0 a1_1 bt248.1 bt248.2.1) else (L2_CongrMeet.j0 k bt248.2.2.1 bt248.2.2.2 (a1_1 == 0) a0_0 a0_1 a1_0 a1_1 bt248.1 bt248.2.1))))) = some r := H
  have A6 := am A60
  clear A60
  replace H := Option.bind_eq_some_iff.mp H
  obtain ⟨⟨t246, t247⟩, A70, H⟩ := H
  replace H : ((congr_Meet.f k t244 t245 t246 t247).bind fun bt248 => (if t243 > 0 then ((L2_isCongr.f bt248.1 bt248.2.1 bt248.2.2.2 0 0 t243).bind fun t253 => (if t253 = true then (some (!bt248.2.2.1)) else (none))) else (if a0_1 = 0 then (L2_CongrMeet.j0 k bt248.2.2.1 bt248.2.2.2 true a0_0 a0_1 a1_0 a1_1 bt248.1 bt248.2.1) else (L2_CongrMeet.j0 k bt248.2.2.1 bt248.2.2.2 (a1_1 == 0) a0_0 a0_1 a1_0 a1_1 bt248.1 bt248.2.1)))) = some r := H
  have A7 := am A70
  clear A70
  replace H := Option.bind_eq_some_iff.mp H
  obtain ⟨⟨t248, t249, t250, t251⟩, A80, H⟩ := H
  replace H : (if t243 > 0 then ((L2_isCongr.f t248 t249 t251 0 0 t243).bind fun t253 => (if t253 = true then (some (!t250)) else (none))) else (if a0_1 = 0 then (L2_CongrMeet.j0 k t250 t251 true a0_0 a0_1 a1_0 a1_1 t248 t249) else (L2_CongrMeet.j0 k t250 t251 (a1_1 == 0) a0_0 a0_1 a1_0 a1_1 t248 t249))) = some r := H
  have A8 := am A80
  clear A80
  by_cases c9 : t243 > 0
  ·rw [if_pos c9] at H
   have c9b0 : decide (0 < t243) = true := decide_eq_true c9
   clear c9
   replace H := Option.bind_eq_some_iff.mp H
   obtain ⟨t253, A100, H⟩ := H
   replace H : (if t253 = true then (some (!t250)) else (none)) = some r := H
   have A10 := am A100
   clear A100
   by_cases c11 : t253 = true
   ·subst c11
    have H1 : (some (!t250)) = some r := by rw [if_pos rfl] at H; exact H
    clear H
    have H := H1
    clear H1
    as_aux_lemma =>
     obtain rfl := Option.some.inj H
     go_enter Tryd.func4, Tryd.ntmps4
     try go_wp2_with (first | ((with_reducible refine gate_dst (N := 2) rfl ?_); refine box_event ?hg (N := 2) ?hd (cs := #[.int .i64 a0_0, .int .i64 a0_1]) (t := 32) ?hr ?_; (case hd => rfl); (case hg => rfl); (case hr => first | (go_simp; done) | (go_simp; rfl)); intro gb240 hg w12 hbox hb; have n0_ := am (below_step pw hb); have n1_ := am (hbox); have n2_ := am ((by rw [hg]; exact (below_size pw) : w.heap.size ≤ gb240)); have n3_ := am ((by rw [hg]; exact (below_size pw) : w.heap.size ≤ gb240)); clear HB; have HB := n0_; have BK240 := n1_; have GW240 := n2_; have GE240 := n3_; clear n0_ n1_ n2_ n3_; clear hb hbox hg) | ((with_reducible refine gate_dst (N := 3) rfl ?_); refine box_event ?hg (N := 3) ?hd (cs := #[.int .i64 a1_0, .int .i64 a1_1]) (t := 32) ?hr ?_; (case hd => rfl); (case hg => rfl); (case hr => first | (go_simp; done) | (go_simp; rfl)); intro gb241 hg w13 hbox hb; have n0_ := bb BK240 hb; have n1_ := am (below_step pw hb); have n2_ := am (hbox); have n3_ := am ((by rw [hg]; exact (below_size pw) : w.heap.size ≤ gb241)); have n4_ := am ((by rw [hg]; exact (below_size pw) : w.heap.size ≤ gb241)); have n5_ := am ((by rw [hg]; exact Nat.ne_of_lt (blk_lt pk) : gb240 ≠ gb241)); have n6_ := am ((by rw [hg]; exact Nat.ne_of_gt (blk_lt pk) : gb241 ≠ gb240)); clear BK240; clear HB; have BK240 := n0_; have HB := n1_; have BK241 := n2_; have GW241 := n3_; have GE241 := n4_; have NB240_241 := n5_; have NB241_240 := n6_; clear n0_ n1_ n2_ n3_ n4_ n5_ n6_; clear hb hbox hg) | ((with_reducible refine gate_callee (f := 18) rfl ?_); refine goesL_ (some 17) rfl rfl Tryd.func18 kk rfl #[] rfl (by (try simp only [List.map_toArray, List.map_cons, List.map_nil]); first | done | rfl | (simp only [List.length_drop, List.length_take]; rfl)) ?_; (with_reducible refine (L2_sixth.calls k  true _ A3.out (am (ErrAt.below hE2.out pw)).out (am (ErrAt.below hE3.out pw)).out).mono ?_); rintro e w14 ⟨rfl, hb⟩; refine ⟨_, rfl, ?_⟩; have n0_ := bb BK240 hb; have n1_ := bb BK241 hb; have n2_ := am (below_step pw hb); clear BK240; clear BK241; clear HB; have BK240 := n0_; have BK241 := n1_; have HB := n2_; clear n0_ n1_ n2_; (try clear hb); (try clear hb2); (try clear hk); (try clear hi); have hnb15 := NB240_241.out; have hnc15 := NB241_240.out; have hcz16_0 : w14.cell? ⟨gb240, 0, none⟩ = some (.int .i64 a0_0) := bc BK240 0; have hcz16_1 : w14.cell? ⟨gb240, 1, none⟩ = some (.int .i64 a0_1) := bc BK240 1; have hfz16_0 := blk_frozen BK240.out 0; have hfz16_1 := blk_frozen BK240.out 1; have hcz17_0 : w14.cell? ⟨gb241, 0, none⟩ = some (.int .i64 a1_0) := bc BK241 0; have hcz17_1 : w14.cell? ⟨gb241, 1, none⟩ = some (.int .i64 a1_1) := bc BK241 1; have hfz17_0 := blk_frozen BK241.out 0; have hfz17_1 := blk_frozen BK241.out 1) | ((with_reducible refine gate_callee (f := 19) rfl ?_); refine goesL_ (some 22) rfl rfl Tryd.func19 kk rfl #[.agg #[.int .i64 a0_0, .int .i64 a0_1], .agg #[.int .i64 a1_0, .int .i64 a1_1]] rfl (by (try simp only [List.map_toArray, List.map_cons, List.map_nil]); first | done | rfl | (simp only [List.length_drop, List.length_take]; rfl)) ?_; (with_reducible refine (R2_TwoCongrs.calls k a0_0 a0_1 a1_0 a1_1 t243 _ A5.out).mono ?_); rintro e w18 ⟨rfl, hb⟩; refine ⟨_, rfl, ?_⟩; have n0_ := bb BK240 hb; have n1_ := bb BK241 hb; have n2_ := am (below_step pw hb); clear BK240; clear BK241; clear HB; have BK240 := n0_; have BK241 := n1_; have HB := n2_; clear n0_ n1_ n2_; (try clear hb); (try clear hb2); (try clear hk); (try clear hi)))
     have n0_ := am (blk_drew BK240.out)
     have n1_ := am (blk_drew BK241.out)
     have n2_ := am (below_drew1 HB.out)
     clear BK240 BK241 HB
     revert n0_ n1_ n2_
     intro BK240 BK241 HB
     refine start_ (n := 13) (S := fun w' => True) (ds := []) #[false, false, false, false, false, false, false, false, false, false, false, false, false] kk rfl rfl trivial (fun hHeld => ?_); refine with_tabW L2_CongrMeet.tab5 L2_CongrMeet.bits5 (fun HT_ HW_ => ?_)
     generalize w18.drew = w19 at BK240 BK241 HB hHeld ⊢
     refine inv_at [0, 1, 2, 3, 4, 5, 6, 7, 8, 9, 10, 11, 12] (fun a0_ b a w' => ∃ (gb252 : Nat) (m9_ : Value), a = putSel a0_ b [(0, 24, .agg #[.int .i64 a0_0, .int .i64 a0_1]), (1, 25, .agg #[.int .i64 t244, .int .i64 t245]), (2, 26, .agg #[.int .i64 a1_0, .int .i64 a1_1]), (3, 27, .agg #[.int .i64 t246, .int .i64 t247]), (4, 28, .tuple #[.agg #[.int .i64 t248, .int .i64 t249], .bool t250, errW t251]), (5, 23, .tuple #[.agg #[.int .i64 t248, .int .i64 t249], .bool t250, errW t251]), (6, 29, .agg #[.int .i64 t248, .int .i64 t249]), (7, 30, .bool t250), (8, 31, errW t251), (9, 7, m9_), (11, 8, .bool t250), (12, 9, errW t251)] ∧ (w'.heap[gb240]? = some (.cells #[.int .i64 a0_0, .int .i64 a0_1] 32 (0, 0))) ∧ (w'.heap[gb241]? = some (.cells #[.int .i64 a1_0, .int .i64 a1_1] 32 (0, 0))) ∧ (Below w.heap.size w w') ∧ (b 9 = true → b 10 = false → w'.heap[gb252]? = some (.cells #[.int .i64 0, .int .i64 0] 34 (0, 0))) ∧ (b 9 = true → w.heap.size ≤ gb252) ∧ (b 9 = true → w.heap.size ≤ gb252) ∧ (b 9 = true → gb240 ≠ gb252) ∧ (b 9 = true → gb252 ≠ gb240) ∧ (b 9 = true → gb241 ≠ gb252) ∧ (b 9 = true → gb252 ≠ gb241) ∧ (b 10 = true → w'.heap[gb252]? = some (.cells #[.int .i64 t248, .int .i64 t249] 34 (0, 0))) ∧ (b 9 = true → (m9_ : Value) = .pointer (some ⟨gb252, 0, none⟩))) HT_.out HW_.out kk kk ?_ ?_ ?_
     ·exact ⟨0, .bool false, by simp only [putSel, Bool.false_eq_true, if_false], BK240.out, BK241.out, HB.out, fun h_ => absurd h_ (by decide), fun h_ => absurd h_ (by decide), fun h_ => absurd h_ (by decide), fun h_ => absurd h_ (by decide), fun h_ => absurd h_ (by decide), fun h_ => absurd h_ (by decide), fun h_ => absurd h_ (by decide), fun h_ => absurd h_ (by decide), fun h_ => absurd h_ (by decide)⟩
     ·skip
      clear BK240 BK241 HB
      refine steps_cons ?_ ?_
      ·rintro b a w' ⟨gb252, m9_, ha, qB240, qB241, qHB, qB252, qW252, qE252, q240_252, q252_240, q241_252, q252_241, qB252_e10, Q_X9_⟩ hb_ hon hoff
       refine ⟨_, rfl, fun K hK => ?_⟩
       have e2 : a.tmps[2]? = some (.pointer (some ⟨gb240, 0, none⟩)) := by rw [ha]; exact (putSel_off rfl).trans rfl
       replace ha := am ha
       have BK240 := am qB240
       have BK241 := am qB241
       have HB := am qHB
       have hc0_ : w'.cell? ⟨gb240, 0, none⟩ = some (.int .i64 a0_0) := bc BK240 0
       have hc1_ : w'.cell? ⟨gb240, 1, none⟩ = some (.int .i64 a0_1) := bc BK240 1
       refine value_ (w1 := w') (v := .agg #[.int .i64 a0_0, .int .i64 a0_1]) (by rfl) rfl ?_ ?_
       ·go_simp
        (try simp only [i64_w])
        try rfl
       refine hK.out _ _ ⟨gb252, m9_, (by rw [ha.out]; exact putSel_upk 0 hb_ rfl rfl rfl), qB240, qB241, qHB, qB252, qW252, qE252, q240_252, q252_240, q241_252, q252_241, fun h0_ => absurd ((hoff 10 kk).symm.trans h0_) (by decide), Q_X9_⟩
      refine steps_cons ?_ ?_
      ·rintro b a w' ⟨gb252, m9_, ha, qB240, qB241, qHB, qB252, qW252, qE252, q240_252, q252_240, q241_252, q252_241, qB252_e10, Q_X9_⟩ hb_ hon hoff
       refine ⟨_, rfl, fun K hK => ?_⟩
       have e24 : a.tmps[24]? = some (.agg #[.int .i64 a0_0, .int .i64 a0_1]) := by rw [ha]; exact putSel_on (e := (0, 24, .agg #[.int .i64 a0_0, .int .i64 a0_1])) 0 rfl rfl (hon 0 kk) rfl
       replace ha := am ha
       have BK240 := am qB240
       have BK241 := am qB241
       have HB := am qHB
       refine goes_ Tryd.func21 kk rfl #[.agg #[.int .i64 a0_0, .int .i64 a0_1]] (by rfl) rfl rfl (by first | (simp only [List.map_toArray, List.map_cons, List.map_nil, Act.eval, Array.getD_eq_getD_getElem?, Option.getD_some, e24]; done) | (simp only [List.map_toArray, List.map_cons, List.map_nil, Act.eval, Array.getD_eq_getD_getElem?, Option.getD_some, e24]; rfl)) ?_
       with_reducible refine (L2_own.calls a0_0 a0_1 t244 t245 _ A6.out).mono ?_
       rintro e w20 ⟨rfl, hb⟩
       refine ⟨_, rfl, ?_⟩
       have n0_ := bb BK240 hb
       have n1_ := bb BK241 hb
       have n2_ := am (below_step pw hb)
       have z_BK252 := fun (h0_ : b 9 = true) (h1_ : b 10 = false) => (show w20.heap[gb252]? = some (.cells #[.int .i64 0, .int .i64 0] 34 (0, 0)) from by first | exact (blk_below (g := gb252) (o := .cells #[.int .i64 0, .int .i64 0] 34 (0, 0)) (by (with_reducible repeat (first | refine blk_drewN ?_ _ | refine blk_drew ?_ | refine blk_alloc ?_ _)); exact (qB252 h0_ h1_)) hb))
       clear BK240 BK241 HB
       revert n0_ n1_ n2_
       intro BK240 BK241 HB
       (try clear hb)
       (try clear hb2)
       (try clear hk)
       (try clear hi)
       refine hK.out _ _ ⟨gb252, m9_, (by rw [ha.out]; exact putSel_upk 1 hb_ rfl rfl rfl), pk, pk, pw, z_BK252, qW252, qE252, q240_252, q252_240, q241_252, q252_241, fun h0_ => absurd ((hoff 10 kk).symm.trans h0_) (by decide), Q_X9_⟩
      refine steps_cons ?_ ?_
      ·rintro b a w' ⟨gb252, m9_, ha, qB240, qB241, qHB, qB252, qW252, qE252, q240_252, q252_240, q241_252, q252_241, qB252_e10, Q_X9_⟩ hb_ hon hoff
       refine ⟨_, rfl, fun K hK => ?_⟩
       have e3 : a.tmps[3]? = some (.pointer (some ⟨gb241, 0, none⟩)) := by rw [ha]; exact (putSel_off rfl).trans rfl
       replace ha := am ha
       have BK240 := am qB240
       have BK241 := am qB241
       have HB := am qHB
       have hc0_ : w'.cell? ⟨gb241, 0, none⟩ = some (.int .i64 a1_0) := bc BK241 0
       have hc1_ : w'.cell? ⟨gb241, 1, none⟩ = some (.int .i64 a1_1) := bc BK241 1
       refine value_ (w1 := w') (v := .agg #[.int .i64 a1_0, .int .i64 a1_1]) (by rfl) rfl ?_ ?_
       ·go_simp
        (try simp only [i64_w])
        try rfl
       refine hK.out _ _ ⟨gb252, m9_, (by rw [ha.out]; exact putSel_upk 2 hb_ rfl rfl rfl), qB240, qB241, qHB, qB252, qW252, qE252, q240_252, q252_240, q241_252, q252_241, fun h0_ => absurd ((hoff 10 kk).symm.trans h0_) (by decide), Q_X9_⟩
      refine steps_cons ?_ ?_
      ·rintro b a w' ⟨gb252, m9_, ha, qB240, qB241, qHB, qB252, qW252, qE252, q240_252, q252_240, q241_252, q252_241, qB252_e10, Q_X9_⟩ hb_ hon hoff
       refine ⟨_, rfl, fun K hK => ?_⟩
       have e26 : a.tmps[26]? = some (.agg #[.int .i64 a1_0, .int .i64 a1_1]) := by rw [ha]; exact putSel_on (e := (2, 26, .agg #[.int .i64 a1_0, .int .i64 a1_1])) 2 rfl rfl (hon 2 kk) rfl
       replace ha := am ha
       have BK240 := am qB240
       have BK241 := am qB241
       have HB := am qHB
       refine goes_ Tryd.func21 kk rfl #[.agg #[.int .i64 a1_0, .int .i64 a1_1]] (by rfl) rfl rfl (by first | (simp only [List.map_toArray, List.map_cons, List.map_nil, Act.eval, Array.getD_eq_getD_getElem?, Option.getD_some, e26]; done) | (simp only [List.map_toArray, List.map_cons, List.map_nil, Act.eval, Array.getD_eq_getD_getElem?, Option.getD_some, e26]; rfl)) ?_
       with_reducible refine (L2_own.calls a1_0 a1_1 t246 t247 _ A7.out).mono ?_
       rintro e w22 ⟨rfl, hb⟩
       refine ⟨_, rfl, ?_⟩
       have n0_ := bb BK240 hb
       have n1_ := bb BK241 hb
       have n2_ := am (below_step pw hb)
       have z_BK252 := fun (h0_ : b 9 = true) (h1_ : b 10 = false) => (show w22.heap[gb252]? = some (.cells #[.int .i64 0, .int .i64 0] 34 (0, 0)) from by first | exact (blk_below (g := gb252) (o := .cells #[.int .i64 0, .int .i64 0] 34 (0, 0)) (by (with_reducible repeat (first | refine blk_drewN ?_ _ | refine blk_drew ?_ | refine blk_alloc ?_ _)); exact (qB252 h0_ h1_)) hb))
       clear BK240 BK241 HB
       revert n0_ n1_ n2_
       intro BK240 BK241 HB
       (try clear hb)
       (try clear hb2)
       (try clear hk)
       (try clear hi)
       refine hK.out _ _ ⟨gb252, m9_, (by rw [ha.out]; exact putSel_upk 3 hb_ rfl rfl rfl), pk, pk, pw, z_BK252, qW252, qE252, q240_252, q252_240, q241_252, q252_241, fun h0_ => absurd ((hoff 10 kk).symm.trans h0_) (by decide), Q_X9_⟩
      refine steps_cons ?_ ?_
      ·rintro b a w' ⟨gb252, m9_, ha, qB240, qB241, qHB, qB252, qW252, qE252, q240_252, q252_240, q241_252, q252_241, qB252_e10, Q_X9_⟩ hb_ hon hoff
       refine ⟨_, rfl, fun K hK => ?_⟩
       have e25 : a.tmps[25]? = some (.agg #[.int .i64 t244, .int .i64 t245]) := by rw [ha]; exact putSel_on (e := (1, 25, .agg #[.int .i64 t244, .int .i64 t245])) 1 rfl rfl (hon 1 kk) rfl
       have e27 : a.tmps[27]? = some (.agg #[.int .i64 t246, .int .i64 t247]) := by rw [ha]; exact putSel_on (e := (3, 27, .agg #[.int .i64 t246, .int .i64 t247])) 3 rfl rfl (hon 3 kk) rfl
       replace ha := am ha
       have BK240 := am qB240
       have BK241 := am qB241
       have HB := am qHB
       refine goes_ Tryd.func20 kk rfl #[.agg #[.int .i64 t244, .int .i64 t245], .agg #[.int .i64 t246, .int .i64 t247]] (by rfl) rfl rfl (by first | (simp only [List.map_toArray, List.map_cons, List.map_nil, Act.eval, Array.getD_eq_getD_getElem?, Option.getD_some, e25, e27]; done) | (simp only [List.map_toArray, List.map_cons, List.map_nil, Act.eval, Array.getD_eq_getD_getElem?, Option.getD_some, e25, e27]; rfl)) ?_
       with_reducible refine (congr_Meet.calls k t244 t245 t246 t247 t248 t249 t250 t251 _ A8.out (am (ErrAt.below hE2.out pw)).out (am (ErrAt.below hE3.out pw)).out).mono ?_
       rintro e w23 ⟨rfl, hb⟩
       refine ⟨_, rfl, ?_⟩
       have n0_ := bb BK240 hb
       have n1_ := bb BK241 hb
       have n2_ := am (below_step pw hb)
       have z_BK252 := fun (h0_ : b 9 = true) (h1_ : b 10 = false) => (show w23.heap[gb252]? = some (.cells #[.int .i64 0, .int .i64 0] 34 (0, 0)) from by first | exact (blk_below (g := gb252) (o := .cells #[.int .i64 0, .int .i64 0] 34 (0, 0)) (by (with_reducible repeat (first | refine blk_drewN ?_ _ | refine blk_drew ?_ | refine blk_alloc ?_ _)); exact (qB252 h0_ h1_)) hb))
       clear BK240 BK241 HB
       revert n0_ n1_ n2_
       intro BK240 BK241 HB
       (try clear hb)
       (try clear hb2)
       (try clear hk)
       (try clear hi)
       (try simp only [errW_none, errW_some])
       refine hK.out _ _ ⟨gb252, m9_, (by rw [ha.out]; exact putSel_upk 4 hb_ rfl rfl rfl), pk, pk, pw, z_BK252, qW252, qE252, q240_252, q252_240, q241_252, q252_241, fun h0_ => absurd ((hoff 10 kk).symm.trans h0_) (by decide), Q_X9_⟩
      refine steps_cons ?_ ?_
      ·rintro b a w' ⟨gb252, m9_, ha, qB240, qB241, qHB, qB252, qW252, qE252, q240_252, q252_240, q241_252, q252_241, qB252_e10, Q_X9_⟩ hb_ hon hoff
       refine ⟨_, rfl, fun K hK => ?_⟩
       have e28 : a.tmps[28]? = some (.tuple #[.agg #[.int .i64 t248, .int .i64 t249], .bool t250, errW t251]) := by rw [ha]; exact putSel_on (e := (4, 28, .tuple #[.agg #[.int .i64 t248, .int .i64 t249], .bool t250, errW t251])) 4 rfl rfl (hon 4 kk) rfl
       replace ha := am ha
       have BK240 := am qB240
       have BK241 := am qB241
       have HB := am qHB
       refine value_ (w1 := w') (v := .tuple #[.agg #[.int .i64 t248, .int .i64 t249], .bool t250, errW t251]) (by rfl) rfl ?_ ?_
       ·go_simp
        (try simp only [i64_w])
        try rfl
       refine hK.out _ _ ⟨gb252, m9_, (by rw [ha.out]; exact putSel_upk 5 hb_ rfl rfl rfl), qB240, qB241, qHB, qB252, qW252, qE252, q240_252, q252_240, q241_252, q252_241, fun h0_ => absurd ((hoff 10 kk).symm.trans h0_) (by decide), Q_X9_⟩
      refine steps_cons ?_ ?_
      ·rintro b a w' ⟨gb252, m9_, ha, qB240, qB241, qHB, qB252, qW252, qE252, q240_252, q252_240, q241_252, q252_241, qB252_e10, Q_X9_⟩ hb_ hon hoff
       refine ⟨_, rfl, fun K hK => ?_⟩
       have e23 : a.tmps[23]? = some (.tuple #[.agg #[.int .i64 t248, .int .i64 t249], .bool t250, errW t251]) := by rw [ha]; exact putSel_on (e := (5, 23, .tuple #[.agg #[.int .i64 t248, .int .i64 t249], .bool t250, errW t251])) 5 rfl rfl (hon 5 kk) rfl
       replace ha := am ha
       have BK240 := am qB240
       have BK241 := am qB241
       have HB := am qHB
       refine value_ (w1 := w') (v := .agg #[.int .i64 t248, .int .i64 t249]) (by rfl) rfl ?_ ?_
       ·go_simp
        (try simp only [i64_w])
        try rfl
       refine hK.out _ _ ⟨gb252, m9_, (by rw [ha.out]; exact putSel_upk 6 hb_ rfl rfl rfl), qB240, qB241, qHB, qB252, qW252, qE252, q240_252, q252_240, q241_252, q252_241, fun h0_ => absurd ((hoff 10 kk).symm.trans h0_) (by decide), Q_X9_⟩
      refine steps_cons ?_ ?_
      ·rintro b a w' ⟨gb252, m9_, ha, qB240, qB241, qHB, qB252, qW252, qE252, q240_252, q252_240, q241_252, q252_241, qB252_e10, Q_X9_⟩ hb_ hon hoff
       refine ⟨_, rfl, fun K hK => ?_⟩
       have e23 : a.tmps[23]? = some (.tuple #[.agg #[.int .i64 t248, .int .i64 t249], .bool t250, errW t251]) := by rw [ha]; exact putSel_on (e := (5, 23, .tuple #[.agg #[.int .i64 t248, .int .i64 t249], .bool t250, errW t251])) 5 rfl rfl (hon 5 kk) rfl
       replace ha := am ha
       have BK240 := am qB240
       have BK241 := am qB241
       have HB := am qHB
       refine value_ (w1 := w') (v := .bool t250) (by rfl) rfl ?_ ?_
       ·go_simp
        (try simp only [i64_w])
        try rfl
       refine hK.out _ _ ⟨gb252, m9_, (by rw [ha.out]; exact putSel_upk 7 hb_ rfl rfl rfl), qB240, qB241, qHB, qB252, qW252, qE252, q240_252, q252_240, q241_252, q252_241, qB252_e10, Q_X9_⟩
      refine steps_cons ?_ ?_
      ·rintro b a w' ⟨gb252, m9_, ha, qB240, qB241, qHB, qB252, qW252, qE252, q240_252, q252_240, q241_252, q252_241, qB252_e10, Q_X9_⟩ hb_ hon hoff
       refine ⟨_, rfl, fun K hK => ?_⟩
       have e23 : a.tmps[23]? = some (.tuple #[.agg #[.int .i64 t248, .int .i64 t249], .bool t250, errW t251]) := by rw [ha]; exact putSel_on (e := (5, 23, .tuple #[.agg #[.int .i64 t248, .int .i64 t249], .bool t250, errW t251])) 5 rfl rfl (hon 5 kk) rfl
       replace ha := am ha
       have BK240 := am qB240
       have BK241 := am qB241
       have HB := am qHB
       refine value_ (w1 := w') (v := errW t251) (by rfl) rfl ?_ ?_
       ·go_simp
        (try simp only [i64_w])
        try rfl
       refine hK.out _ _ ⟨gb252, m9_, (by rw [ha.out]; exact putSel_upk 8 hb_ rfl rfl rfl), qB240, qB241, qHB, qB252, qW252, qE252, q240_252, q252_240, q241_252, q252_241, qB252_e10, Q_X9_⟩
      refine steps_cons ?_ ?_
      ·rintro b a w' ⟨gb252, m9_, ha, qB240, qB241, qHB, qB252, qW252, qE252, q240_252, q252_240, q241_252, q252_241, qB252_e10, Q_X9_⟩ hb_ hon hoff
       refine ⟨_, rfl, fun K hK => ?_⟩
       replace ha := am ha
       have BK240 := am qB240
       have BK241 := am qB241
       have HB := am qHB
       refine box_step ?hg (N := 7) ?hd (cs := #[.int .i64 0, .int .i64 0]) (t := 34) ?hr ?_; (case hd => rfl); (case hg => rfl); (case hr => first | (go_simp; done) | (go_simp; rfl))
       intro gb252 hg w20 hbox hb
       have n0_ := bb BK240 hb
       have n1_ := bb BK241 hb
       have n2_ := am (below_step pw hb)
       have n3_ := am (hbox)
       have n4_ := am ((by rw [hg]; exact (below_size pw) : w.heap.size ≤ gb252))
       have n5_ := am ((by rw [hg]; exact (below_size pw) : w.heap.size ≤ gb252))
       have n6_ := am ((by rw [hg]; exact Nat.ne_of_lt (blk_lt pk) : gb240 ≠ gb252))
       have n7_ := am ((by rw [hg]; exact Nat.ne_of_gt (blk_lt pk) : gb252 ≠ gb240))
       have n8_ := am ((by rw [hg]; exact Nat.ne_of_lt (blk_lt pk) : gb241 ≠ gb252))
       have n9_ := am ((by rw [hg]; exact Nat.ne_of_gt (blk_lt pk) : gb252 ≠ gb241))
       clear BK240 BK241 HB
       revert n0_ n1_ n2_ n3_ n4_ n5_ n6_ n7_ n8_ n9_
       intro BK240 BK241 HB BK252 GW252 GE252 NB240_252 NB252_240 NB241_252 NB252_241
       clear hb hbox hg
       refine hK.out _ _ ⟨gb252, (.pointer (some ⟨gb252, 0, none⟩)), (by rw [ha.out]; exact putSel_upk 9 hb_ rfl rfl rfl), pk, pk, pw, fun _ _ => pk, fun _ => GW252.out, fun _ => GE252.out, fun _ => NB240_252.out, fun _ => NB252_240.out, fun _ => NB241_252.out, fun _ => NB252_241.out, fun h0_ => absurd ((hoff 10 kk).symm.trans h0_) (by decide), fun _ => rfl⟩
      refine steps_cons ?_ ?_
      ·rintro b a w' ⟨gb252, m9_, ha, qB240, qB241, qHB, qB252, qW252, qE252, q240_252, q252_240, q241_252, q252_241, qB252_e10, Q_X9_⟩ hb_ hon hoff
       refine ⟨_, rfl, fun K hK => ?_⟩
       have e7 : a.tmps[7]? = some (m9_) := by rw [ha]; exact putSel_on (e := (9, 7, m9_)) 9 rfl rfl (hon 9 kk) rfl
       rw [Q_X9_ (hon 9 kk)] at e7
       have e29 : a.tmps[29]? = some (.agg #[.int .i64 t248, .int .i64 t249]) := by rw [ha]; exact putSel_on (e := (6, 29, .agg #[.int .i64 t248, .int .i64 t249])) 6 rfl rfl (hon 6 kk) rfl
       replace ha := am ha
       have BK240 := am qB240
       have BK241 := am qB241
       have HB := am qHB
       have BK252 := am (qB252 (hon 9 kk) hb_)
       have GW252 := am (qW252 (hon 9 kk))
       have GE252 := am (qE252 (hon 9 kk))
       have NB240_252 := am (q240_252 (hon 9 kk))
       have NB252_240 := am (q252_240 (hon 9 kk))
       have NB241_252 := am (q241_252 (hon 9 kk))
       have NB252_241 := am (q252_241 (hon 9 kk))
       have hs25 : w'.cell? ⟨gb252, 0, none⟩ = some (.int .i64 0) := bc BK252 0
       have hfs25 := blk_frozen BK252.out 0
       have hns25_0 := NB240_252.out
       have hns25_1 := NB241_252.out
       have hms25_0 := NB252_240.out
       have hms25_1 := NB252_241.out
       have hs26 : w'.cell? ⟨gb252, 1, none⟩ = some (.int .i64 0) := bc BK252 1
       have hfs26 := blk_frozen BK252.out 1
       have hns26_0 := NB240_252.out
       have hns26_1 := NB241_252.out
       have hms26_0 := NB252_240.out
       have hms26_1 := NB252_241.out
       refine skip_ (w1 := ?_) (by rfl) rfl ?_ ?_
       rotate_left
       ·go_simp
        rfl
       refine hK.out _ _ ⟨gb252, m9_, (by rw [ha.out]; exact putSel_none (v := undef) rfl), (by (with_reducible repeat (first | refine blk_drewN ?_ _ | refine blk_drew ?_ | refine blk_alloc ?_ _)); refine blk_far ?_ NB240_252.out _; (with_reducible repeat (first | refine blk_drewN ?_ _ | refine blk_drew ?_ | refine blk_alloc ?_ _)); refine blk_far ?_ NB240_252.out _; (with_reducible repeat (first | refine blk_drewN ?_ _ | refine blk_drew ?_ | refine blk_alloc ?_ _)); exact BK240.out), (by (with_reducible repeat (first | refine blk_drewN ?_ _ | refine blk_drew ?_ | refine blk_alloc ?_ _)); refine blk_far ?_ NB241_252.out _; (with_reducible repeat (first | refine blk_drewN ?_ _ | refine blk_drew ?_ | refine blk_alloc ?_ _)); refine blk_far ?_ NB241_252.out _; (with_reducible repeat (first | refine blk_drewN ?_ _ | refine blk_drew ?_ | refine blk_alloc ?_ _)); exact BK241.out), pw, fun _ h1_ => absurd ((up_self b 10).symm.trans h1_) (by decide), fun _ => GW252.out, fun _ => GE252.out, fun _ => NB240_252.out, fun _ => NB252_240.out, fun _ => NB241_252.out, fun _ => NB252_241.out, fun _ => (by (with_reducible repeat (first | refine blk_drewN ?_ _ | refine blk_drew ?_ | refine blk_alloc ?_ _)); refine blk_put (cs := #[.int .i64 t248, .int .i64 0]) ?_ 1 _ rfl; (with_reducible repeat (first | refine blk_drewN ?_ _ | refine blk_drew ?_ | refine blk_alloc ?_ _)); refine blk_put (cs := #[.int .i64 0, .int .i64 0]) ?_ 0 _ rfl; (with_reducible repeat (first | refine blk_drewN ?_ _ | refine blk_drew ?_ | refine blk_alloc ?_ _)); exact BK252.out), Q_X9_⟩
      refine steps_cons ?_ ?_
      ·rintro b a w' ⟨gb252, m9_, ha, qB240, qB241, qHB, qB252, qW252, qE252, q240_252, q252_240, q241_252, q252_241, qB252_e10, Q_X9_⟩ hb_ hon hoff
       refine ⟨_, rfl, fun K hK => ?_⟩
       have e30 : a.tmps[30]? = some (.bool t250) := by rw [ha]; exact putSel_on (e := (7, 30, .bool t250)) 7 rfl rfl (hon 7 kk) rfl
       replace ha := am ha
       have BK240 := am qB240
       have BK241 := am qB241
       have HB := am qHB
       have GW252 := am (qW252 (hon 9 kk))
       have GE252 := am (qE252 (hon 9 kk))
       have NB240_252 := am (q240_252 (hon 9 kk))
       have NB252_240 := am (q252_240 (hon 9 kk))
       have NB241_252 := am (q241_252 (hon 9 kk))
       have NB252_241 := am (q252_241 (hon 9 kk))
       have BK252 := am (qB252_e10 (hon 10 kk))
       refine value_ (w1 := w') (v := .bool t250) (by rfl) rfl ?_ ?_
       ·go_simp
        (try simp only [i64_w])
        try rfl
       refine hK.out _ _ ⟨gb252, m9_, (by rw [ha.out]; exact putSel_upk 10 hb_ rfl rfl rfl), qB240, qB241, qHB, fun _ h1_ => absurd ((hon 10 kk).symm.trans h1_) (by decide), qW252, qE252, q240_252, q252_240, q241_252, q252_241, qB252_e10, Q_X9_⟩
      refine steps_cons ?_ ?_
      ·rintro b a w' ⟨gb252, m9_, ha, qB240, qB241, qHB, qB252, qW252, qE252, q240_252, q252_240, q241_252, q252_241, qB252_e10, Q_X9_⟩ hb_ hon hoff
       refine ⟨_, rfl, fun K hK => ?_⟩
       have e31 : a.tmps[31]? = some (errW t251) := by rw [ha]; exact putSel_on (e := (8, 31, errW t251)) 8 rfl rfl (hon 8 kk) rfl
       replace ha := am ha
       have BK240 := am qB240
       have BK241 := am qB241
       have HB := am qHB
       have GW252 := am (qW252 (hon 9 kk))
       have GE252 := am (qE252 (hon 9 kk))
       have NB240_252 := am (q240_252 (hon 9 kk))
       have NB252_240 := am (q252_240 (hon 9 kk))
       have NB241_252 := am (q241_252 (hon 9 kk))
       have NB252_241 := am (q252_241 (hon 9 kk))
       have BK252 := am (qB252_e10 (hon 10 kk))
       refine value_ (w1 := w') (v := errW t251) (by rfl) rfl ?_ ?_
       ·go_simp
        (try simp only [i64_w])
        try rfl
       refine hK.out _ _ ⟨gb252, m9_, (by rw [ha.out]; exact putSel_upk 11 hb_ rfl rfl rfl), qB240, qB241, qHB, fun _ h1_ => absurd ((hon 10 kk).symm.trans h1_) (by decide), qW252, qE252, q240_252, q252_240, q241_252, q252_241, qB252_e10, Q_X9_⟩
      exact steps_nil
     rintro b a w26 hall ⟨gb252, m9_, ha, qB240, qB241, qHB, qB252, qW252, qE252, q240_252, q252_240, q241_252, q252_241, qB252_e10, Q_X9_⟩
     clear BK240 BK241 HB
     have hb0_ := hall 0 kk
     have hb1_ := hall 1 kk
     have hb2_ := hall 2 kk
     have hb3_ := hall 3 kk
     have hb4_ := hall 4 kk
     have hb5_ := hall 5 kk
     have hb6_ := hall 6 kk
     have hb7_ := hall 7 kk
     have hb8_ := hall 8 kk
     have hb9_ := hall 9 kk
     have hb10_ := hall 10 kk
     have hb11_ := hall 11 kk
     have hb12_ := hall 12 kk
     subst ha
     obtain rfl := Q_X9_ hb9_
     simp only [putSel, hb0_, hb1_, hb2_, hb3_, hb4_, hb5_, hb6_, hb7_, hb8_, hb9_, hb10_, hb11_, hb12_, if_true, Act.put, List.setIfInBounds_toArray, List.set_cons_zero, List.set_cons_succ]
     have BK240 := am qB240
     clear qB240
     have BK241 := am qB241
     clear qB241
     have HB := am qHB
     clear qHB
     clear qB252
     have GW252 := am (qW252 hb9_)
     clear qW252
     have GE252 := am (qE252 hb9_)
     clear qE252
     have NB240_252 := am (q240_252 hb9_)
     clear q240_252
     have NB252_240 := am (q252_240 hb9_)
     clear q252_240
     have NB241_252 := am (q241_252 hb9_)
     clear q241_252
     have NB252_241 := am (q252_241 hb9_)
     clear q252_241
     have BK252 := am (qB252_e10 hb10_)
     clear qB252_e10
     clear hall hb0_ hb1_ hb2_ hb3_ hb4_ hb5_ hb6_ hb7_ hb8_ hb9_ hb10_ hb11_ hb12_
     have hnb27 := NB252_240.out
     have hnc27 := NB240_252.out
     have hnb28 := NB252_241.out
     have hnc28 := NB241_252.out
     have hcz29_0 : w26.cell? ⟨gb252, 0, none⟩ = some (.int .i64 t248) := bc BK252 0
     have hcz29_1 : w26.cell? ⟨gb252, 1, none⟩ = some (.int .i64 t249) := bc BK252 1
     have hfz29_0 := blk_frozen BK252.out 0
     have hfz29_1 := blk_frozen BK252.out 1
     have CA10 := fun (W : World) (hE9_ : ErrAll W) => L2_isCongr.calls t248 t249 t251 0 0 t243 true W A10.out hE9_
     try simp only [errW_none, errW_some] at CA10
     try go_wp2_with (first | (go_at_call 22; (with_reducible refine (CA10 _ (ErrAll.below hE9.out pw)).mono ?_); rintro e w30 ⟨rfl, hb⟩; have n0_ := bb BK240 hb; have n1_ := bb BK241 hb; have n2_ := bb BK252 hb; have n3_ := am (below_step pw hb); clear BK240; clear BK241; clear BK252; clear HB; have BK240 := n0_; have BK241 := n1_; have BK252 := n2_; have HB := n3_; clear n0_ n1_ n2_ n3_; (try clear hb); (try clear hb2); (try clear hk); (try clear hi)))
     go_ret
     exact ⟨pe, pw⟩
   replace c11 := Bool.eq_false_iff.mpr c11
   subst c11
   have H1 : (none) = some r := by rw [if_neg (show ¬ (false = true) by decide)] at H; exact H
   clear H
   have H := H1
   clear H1
   exact absurd H (by simp)
  rw [if_neg c9] at H
  have c9b0 : decide (0 < t243) = false := decide_eq_false c9
  clear c9
  have HC31 := am H
  clear H
  go_enter Tryd.func4, Tryd.ntmps4
  try go_wp2_with (first | ((with_reducible refine gate_dst (N := 2) rfl ?_); refine box_event ?hg (N := 2) ?hd (cs := #[.int .i64 a0_0, .int .i64 a0_1]) (t := 32) ?hr ?_; (case hd => rfl); (case hg => rfl); (case hr => first | (go_simp; done) | (go_simp; rfl)); intro gb240 hg w32 hbox hb; have n0_ := am (below_step pw hb); have n1_ := am (hbox); have n2_ := am ((by rw [hg]; exact (below_size pw) : w.heap.size ≤ gb240)); have n3_ := am ((by rw [hg]; exact (below_size pw) : w.heap.size ≤ gb240)); clear HB; have HB := n0_; have BK240 := n1_; have GW240 := n2_; have GE240 := n3_; clear n0_ n1_ n2_ n3_; clear hb hbox hg) | ((with_reducible refine gate_dst (N := 3) rfl ?_); refine box_event ?hg (N := 3) ?hd (cs := #[.int .i64 a1_0, .int .i64 a1_1]) (t := 32) ?hr ?_; (case hd => rfl); (case hg => rfl); (case hr => first | (go_simp; done) | (go_simp; rfl)); intro gb241 hg w33 hbox hb; have n0_ := bb BK240 hb; have n1_ := am (below_step pw hb); have n2_ := am (hbox); have n3_ := am ((by rw [hg]; exact (below_size pw) : w.heap.size ≤ gb241)); have n4_ := am ((by rw [hg]; exact (below_size pw) : w.heap.size ≤ gb241)); have n5_ := am ((by rw [hg]; exact Nat.ne_of_lt (blk_lt pk) : gb240 ≠ gb241)); have n6_ := am ((by rw [hg]; exact Nat.ne_of_gt (blk_lt pk) : gb241 ≠ gb240)); clear BK240; clear HB; have BK240 := n0_; have HB := n1_; have BK241 := n2_; have GW241 := n3_; have GE241 := n4_; have NB240_241 := n5_; have NB241_240 := n6_; clear n0_ n1_ n2_ n3_ n4_ n5_ n6_; clear hb hbox hg) | ((with_reducible refine gate_callee (f := 18) rfl ?_); refine goesL_ (some 17) rfl rfl Tryd.func18 kk rfl #[] rfl (by (try simp only [List.map_toArray, List.map_cons, List.map_nil]); first | done | rfl | (simp only [List.length_drop, List.length_take]; rfl)) ?_; (with_reducible refine (L2_sixth.calls k  true _ A3.out (am (ErrAt.below hE2.out pw)).out (am (ErrAt.below hE3.out pw)).out).mono ?_); rintro e w34 ⟨rfl, hb⟩; refine ⟨_, rfl, ?_⟩; have n0_ := bb BK240 hb; have n1_ := bb BK241 hb; have n2_ := am (below_step pw hb); clear BK240; clear BK241; clear HB; have BK240 := n0_; have BK241 := n1_; have HB := n2_; clear n0_ n1_ n2_; (try clear hb); (try clear hb2); (try clear hk); (try clear hi); have hnb35 := NB240_241.out; have hnc35 := NB241_240.out; have hcz36_0 : w34.cell? ⟨gb240, 0, none⟩ = some (.int .i64 a0_0) := bc BK240 0; have hcz36_1 : w34.cell? ⟨gb240, 1, none⟩ = some (.int .i64 a0_1) := bc BK240 1; have hfz36_0 := blk_frozen BK240.out 0; have hfz36_1 := blk_frozen BK240.out 1; have hcz37_0 : w34.cell? ⟨gb241, 0, none⟩ = some (.int .i64 a1_0) := bc BK241 0; have hcz37_1 : w34.cell? ⟨gb241, 1, none⟩ = some (.int .i64 a1_1) := bc BK241 1; have hfz37_0 := blk_frozen BK241.out 0; have hfz37_1 := blk_frozen BK241.out 1) | ((with_reducible refine gate_callee (f := 19) rfl ?_); refine goesL_ (some 22) rfl rfl Tryd.func19 kk rfl #[.agg #[.int .i64 a0_0, .int .i64 a0_1], .agg #[.int .i64 a1_0, .int .i64 a1_1]] rfl (by (try simp only [List.map_toArray, List.map_cons, List.map_nil]); first | done | rfl | (simp only [List.length_drop, List.length_take]; rfl)) ?_; (with_reducible refine (R2_TwoCongrs.calls k a0_0 a0_1 a1_0 a1_1 t243 _ A5.out).mono ?_); rintro e w38 ⟨rfl, hb⟩; refine ⟨_, rfl, ?_⟩; have n0_ := bb BK240 hb; have n1_ := bb BK241 hb; have n2_ := am (below_step pw hb); clear BK240; clear BK241; clear HB; have BK240 := n0_; have BK241 := n1_; have HB := n2_; clear n0_ n1_ n2_; (try clear hb); (try clear hb2); (try clear hk); (try clear hi)))
  have n0_ := am (blk_drew BK240.out)
  have n1_ := am (blk_drew BK241.out)
  have n2_ := am (below_drew1 HB.out)
  clear BK240 BK241 HB
  revert n0_ n1_ n2_
  intro BK240 BK241 HB
  refine start_ (n := 13) (S := fun w' => True) (ds := []) #[false, false, false, false, false, false, false, false, false, false, false, false, false] kk rfl rfl trivial (fun hHeld => ?_); refine with_tabW L2_CongrMeet.tab5 L2_CongrMeet.bits5 (fun HT_ HW_ => ?_)
  generalize w38.drew = w39 at BK240 BK241 HB hHeld ⊢
  refine inv_at [0, 1, 2, 3, 4, 5, 6, 7, 8, 9, 10, 11, 12] (fun a0_ b a w' => ∃ (gb252 : Nat) (m9_ : Value), a = putSel a0_ b [(0, 24, .agg #[.int .i64 a0_0, .int .i64 a0_1]), (1, 25, .agg #[.int .i64 t244, .int .i64 t245]), (2, 26, .agg #[.int .i64 a1_0, .int .i64 a1_1]), (3, 27, .agg #[.int .i64 t246, .int .i64 t247]), (4, 28, .tuple #[.agg #[.int .i64 t248, .int .i64 t249], .bool t250, errW t251]), (5, 23, .tuple #[.agg #[.int .i64 t248, .int .i64 t249], .bool t250, errW t251]), (6, 29, .agg #[.int .i64 t248, .int .i64 t249]), (7, 30, .bool t250), (8, 31, errW t251), (9, 7, m9_), (11, 8, .bool t250), (12, 9, errW t251)] ∧ (w'.heap[gb240]? = some (.cells #[.int .i64 a0_0, .int .i64 a0_1] 32 (0, 0))) ∧ (w'.heap[gb241]? = some (.cells #[.int .i64 a1_0, .int .i64 a1_1] 32 (0, 0))) ∧ (Below w.heap.size w w') ∧ (b 9 = true → b 10 = false → w'.heap[gb252]? = some (.cells #[.int .i64 0, .int .i64 0] 34 (0, 0))) ∧ (b 9 = true → w.heap.size ≤ gb252) ∧ (b 9 = true → w.heap.size ≤ gb252) ∧ (b 9 = true → gb240 ≠ gb252) ∧ (b 9 = true → gb252 ≠ gb240) ∧ (b 9 = true → gb241 ≠ gb252) ∧ (b 9 = true → gb252 ≠ gb241) ∧ (b 10 = true → w'.heap[gb252]? = some (.cells #[.int .i64 t248, .int .i64 t249] 34 (0, 0))) ∧ (b 9 = true → (m9_ : Value) = .pointer (some ⟨gb252, 0, none⟩))) HT_.out HW_.out kk kk ?_ ?_ ?_
  ·exact ⟨0, .bool false, by simp only [putSel, Bool.false_eq_true, if_false], BK240.out, BK241.out, HB.out, fun h_ => absurd h_ (by decide), fun h_ => absurd h_ (by decide), fun h_ => absurd h_ (by decide), fun h_ => absurd h_ (by decide), fun h_ => absurd h_ (by decide), fun h_ => absurd h_ (by decide), fun h_ => absurd h_ (by decide), fun h_ => absurd h_ (by decide), fun h_ => absurd h_ (by decide)⟩
  ·skip
   clear BK240 BK241 HB
   refine steps_cons ?_ ?_
   ·rintro b a w' ⟨gb252, m9_, ha, qB240, qB241, qHB, qB252, qW252, qE252, q240_252, q252_240, q241_252, q252_241, qB252_e10, Q_X9_⟩ hb_ hon hoff
    refine ⟨_, rfl, fun K hK => ?_⟩
    have e2 : a.tmps[2]? = some (.pointer (some ⟨gb240, 0, none⟩)) := by rw [ha]; exact (putSel_off rfl).trans rfl
    replace ha := am ha
    have BK240 := am qB240
    have BK241 := am qB241
    have HB := am qHB
    have hc0_ : w'.cell? ⟨gb240, 0, none⟩ = some (.int .i64 a0_0) := bc BK240 0
    have hc1_ : w'.cell? ⟨gb240, 1, none⟩ = some (.int .i64 a0_1) := bc BK240 1
    refine value_ (w1 := w') (v := .agg #[.int .i64 a0_0, .int .i64 a0_1]) (by rfl) rfl ?_ ?_
    ·go_simp
     (try simp only [i64_w])
     try rfl
    refine hK.out _ _ ⟨gb252, m9_, (by rw [ha.out]; exact putSel_upk 0 hb_ rfl rfl rfl), qB240, qB241, qHB, qB252, qW252, qE252, q240_252, q252_240, q241_252, q252_241, fun h0_ => absurd ((hoff 10 kk).symm.trans h0_) (by decide), Q_X9_⟩
   refine steps_cons ?_ ?_
   ·rintro b a w' ⟨gb252, m9_, ha, qB240, qB241, qHB, qB252, qW252, qE252, q240_252, q252_240, q241_252, q252_241, qB252_e10, Q_X9_⟩ hb_ hon hoff
    refine ⟨_, rfl, fun K hK => ?_⟩
    have e24 : a.tmps[24]? = some (.agg #[.int .i64 a0_0, .int .i64 a0_1]) := by rw [ha]; exact putSel_on (e := (0, 24, .agg #[.int .i64 a0_0, .int .i64 a0_1])) 0 rfl rfl (hon 0 kk) rfl
    replace ha := am ha
    have BK240 := am qB240
    have BK241 := am qB241
    have HB := am qHB
    refine goes_ Tryd.func21 kk rfl #[.agg #[.int .i64 a0_0, .int .i64 a0_1]] (by rfl) rfl rfl (by first | (simp only [List.map_toArray, List.map_cons, List.map_nil, Act.eval, Array.getD_eq_getD_getElem?, Option.getD_some, e24]; done) | (simp only [List.map_toArray, List.map_cons, List.map_nil, Act.eval, Array.getD_eq_getD_getElem?, Option.getD_some, e24]; rfl)) ?_
    with_reducible refine (L2_own.calls a0_0 a0_1 t244 t245 _ A6.out).mono ?_
    rintro e w40 ⟨rfl, hb⟩
    refine ⟨_, rfl, ?_⟩
    have n0_ := bb BK240 hb
    have n1_ := bb BK241 hb
    have n2_ := am (below_step pw hb)
    have z_BK252 := fun (h0_ : b 9 = true) (h1_ : b 10 = false) => (show w40.heap[gb252]? = some (.cells #[.int .i64 0, .int .i64 0] 34 (0, 0)) from by first | exact (blk_below (g := gb252) (o := .cells #[.int .i64 0, .int .i64 0] 34 (0, 0)) (by (with_reducible repeat (first | refine blk_drewN ?_ _ | refine blk_drew ?_ | refine blk_alloc ?_ _)); exact (qB252 h0_ h1_)) hb))
    clear BK240 BK241 HB
    revert n0_ n1_ n2_
    intro BK240 BK241 HB
    (try clear hb)
    (try clear hb2)
    (try clear hk)
    (try clear hi)
    refine hK.out _ _ ⟨gb252, m9_, (by rw [ha.out]; exact putSel_upk 1 hb_ rfl rfl rfl), pk, pk, pw, z_BK252, qW252, qE252, q240_252, q252_240, q241_252, q252_241, fun h0_ => absurd ((hoff 10 kk).symm.trans h0_) (by decide), Q_X9_⟩
   refine steps_cons ?_ ?_
   ·rintro b a w' ⟨gb252, m9_, ha, qB240, qB241, qHB, qB252, qW252, qE252, q240_252, q252_240, q241_252, q252_241, qB252_e10, Q_X9_⟩ hb_ hon hoff
    refine ⟨_, rfl, fun K hK => ?_⟩
    have e3 : a.tmps[3]? = some (.pointer (some ⟨gb241, 0, none⟩)) := by rw [ha]; exact (putSel_off rfl).trans rfl
    replace ha := am ha
    have BK240 := am qB240
    have BK241 := am qB241
    have HB := am qHB
    have hc0_ : w'.cell? ⟨gb241, 0, none⟩ = some (.int .i64 a1_0) := bc BK241 0
    have hc1_ : w'.cell? ⟨gb241, 1, none⟩ = some (.int .i64 a1_1) := bc BK241 1
    refine value_ (w1 := w') (v := .agg #[.int .i64 a1_0, .int .i64 a1_1]) (by rfl) rfl ?_ ?_
    ·go_simp
     (try simp only [i64_w])
     try rfl
    refine hK.out _ _ ⟨gb252, m9_, (by rw [ha.out]; exact putSel_upk 2 hb_ rfl rfl rfl), qB240, qB241, qHB, qB252, qW252, qE252, q240_252, q252_240, q241_252, q252_241, fun h0_ => absurd ((hoff 10 kk).symm.trans h0_) (by decide), Q_X9_⟩
   refine steps_cons ?_ ?_
   ·rintro b a w' ⟨gb252, m9_, ha, qB240, qB241, qHB, qB252, qW252, qE252, q240_252, q252_240, q241_252, q252_241, qB252_e10, Q_X9_⟩ hb_ hon hoff
    refine ⟨_, rfl, fun K hK => ?_⟩
    have e26 : a.tmps[26]? = some (.agg #[.int .i64 a1_0, .int .i64 a1_1]) := by rw [ha]; exact putSel_on (e := (2, 26, .agg #[.int .i64 a1_0, .int .i64 a1_1])) 2 rfl rfl (hon 2 kk) rfl
    replace ha := am ha
    have BK240 := am qB240
    have BK241 := am qB241
    have HB := am qHB
    refine goes_ Tryd.func21 kk rfl #[.agg #[.int .i64 a1_0, .int .i64 a1_1]] (by rfl) rfl rfl (by first | (simp only [List.map_toArray, List.map_cons, List.map_nil, Act.eval, Array.getD_eq_getD_getElem?, Option.getD_some, e26]; done) | (simp only [List.map_toArray, List.map_cons, List.map_nil, Act.eval, Array.getD_eq_getD_getElem?, Option.getD_some, e26]; rfl)) ?_
    with_reducible refine (L2_own.calls a1_0 a1_1 t246 t247 _ A7.out).mono ?_
    rintro e w42 ⟨rfl, hb⟩
    refine ⟨_, rfl, ?_⟩
    have n0_ := bb BK240 hb
    have n1_ := bb BK241 hb
    have n2_ := am (below_step pw hb)
    have z_BK252 := fun (h0_ : b 9 = true) (h1_ : b 10 = false) => (show w42.heap[gb252]? = some (.cells #[.int .i64 0, .int .i64 0] 34 (0, 0)) from by first | exact (blk_below (g := gb252) (o := .cells #[.int .i64 0, .int .i64 0] 34 (0, 0)) (by (with_reducible repeat (first | refine blk_drewN ?_ _ | refine blk_drew ?_ | refine blk_alloc ?_ _)); exact (qB252 h0_ h1_)) hb))
    clear BK240 BK241 HB
    revert n0_ n1_ n2_
    intro BK240 BK241 HB
    (try clear hb)
    (try clear hb2)
    (try clear hk)
    (try clear hi)
    refine hK.out _ _ ⟨gb252, m9_, (by rw [ha.out]; exact putSel_upk 3 hb_ rfl rfl rfl), pk, pk, pw, z_BK252, qW252, qE252, q240_252, q252_240, q241_252, q252_241, fun h0_ => absurd ((hoff 10 kk).symm.trans h0_) (by decide), Q_X9_⟩
   refine steps_cons ?_ ?_
   ·rintro b a w' ⟨gb252, m9_, ha, qB240, qB241, qHB, qB252, qW252, qE252, q240_252, q252_240, q241_252, q252_241, qB252_e10, Q_X9_⟩ hb_ hon hoff
    refine ⟨_, rfl, fun K hK => ?_⟩
    have e25 : a.tmps[25]? = some (.agg #[.int .i64 t244, .int .i64 t245]) := by rw [ha]; exact putSel_on (e := (1, 25, .agg #[.int .i64 t244, .int .i64 t245])) 1 rfl rfl (hon 1 kk) rfl
    have e27 : a.tmps[27]? = some (.agg #[.int .i64 t246, .int .i64 t247]) := by rw [ha]; exact putSel_on (e := (3, 27, .agg #[.int .i64 t246, .int .i64 t247])) 3 rfl rfl (hon 3 kk) rfl
    replace ha := am ha
    have BK240 := am qB240
    have BK241 := am qB241
    have HB := am qHB
    refine goes_ Tryd.func20 kk rfl #[.agg #[.int .i64 t244, .int .i64 t245], .agg #[.int .i64 t246, .int .i64 t247]] (by rfl) rfl rfl (by first | (simp only [List.map_toArray, List.map_cons, List.map_nil, Act.eval, Array.getD_eq_getD_getElem?, Option.getD_some, e25, e27]; done) | (simp only [List.map_toArray, List.map_cons, List.map_nil, Act.eval, Array.getD_eq_getD_getElem?, Option.getD_some, e25, e27]; rfl)) ?_
    with_reducible refine (congr_Meet.calls k t244 t245 t246 t247 t248 t249 t250 t251 _ A8.out (am (ErrAt.below hE2.out pw)).out (am (ErrAt.below hE3.out pw)).out).mono ?_
    rintro e w43 ⟨rfl, hb⟩
    refine ⟨_, rfl, ?_⟩
    have n0_ := bb BK240 hb
    have n1_ := bb BK241 hb
    have n2_ := am (below_step pw hb)
    have z_BK252 := fun (h0_ : b 9 = true) (h1_ : b 10 = false) => (show w43.heap[gb252]? = some (.cells #[.int .i64 0, .int .i64 0] 34 (0, 0)) from by first | exact (blk_below (g := gb252) (o := .cells #[.int .i64 0, .int .i64 0] 34 (0, 0)) (by (with_reducible repeat (first | refine blk_drewN ?_ _ | refine blk_drew ?_ | refine blk_alloc ?_ _)); exact (qB252 h0_ h1_)) hb))
    clear BK240 BK241 HB
    revert n0_ n1_ n2_
    intro BK240 BK241 HB
    (try clear hb)
    (try clear hb2)
    (try clear hk)
    (try clear hi)
    (try simp only [errW_none, errW_some])
    refine hK.out _ _ ⟨gb252, m9_, (by rw [ha.out]; exact putSel_upk 4 hb_ rfl rfl rfl), pk, pk, pw, z_BK252, qW252, qE252, q240_252, q252_240, q241_252, q252_241, fun h0_ => absurd ((hoff 10 kk).symm.trans h0_) (by decide), Q_X9_⟩
   refine steps_cons ?_ ?_
   ·rintro b a w' ⟨gb252, m9_, ha, qB240, qB241, qHB, qB252, qW252, qE252, q240_252, q252_240, q241_252, q252_241, qB252_e10, Q_X9_⟩ hb_ hon hoff
    refine ⟨_, rfl, fun K hK => ?_⟩
    have e28 : a.tmps[28]? = some (.tuple #[.agg #[.int .i64 t248, .int .i64 t249], .bool t250, errW t251]) := by rw [ha]; exact putSel_on (e := (4, 28, .tuple #[.agg #[.int .i64 t248, .int .i64 t249], .bool t250, errW t251])) 4 rfl rfl (hon 4 kk) rfl
    replace ha := am ha
    have BK240 := am qB240
    have BK241 := am qB241
    have HB := am qHB
    refine value_ (w1 := w') (v := .tuple #[.agg #[.int .i64 t248, .int .i64 t249], .bool t250, errW t251]) (by rfl) rfl ?_ ?_
    ·go_simp
     (try simp only [i64_w])
     try rfl
    refine hK.out _ _ ⟨gb252, m9_, (by rw [ha.out]; exact putSel_upk 5 hb_ rfl rfl rfl), qB240, qB241, qHB, qB252, qW252, qE252, q240_252, q252_240, q241_252, q252_241, fun h0_ => absurd ((hoff 10 kk).symm.trans h0_) (by decide), Q_X9_⟩
   refine steps_cons ?_ ?_
   ·rintro b a w' ⟨gb252, m9_, ha, qB240, qB241, qHB, qB252, qW252, qE252, q240_252, q252_240, q241_252, q252_241, qB252_e10, Q_X9_⟩ hb_ hon hoff
    refine ⟨_, rfl, fun K hK => ?_⟩
    have e23 : a.tmps[23]? = some (.tuple #[.agg #[.int .i64 t248, .int .i64 t249], .bool t250, errW t251]) := by rw [ha]; exact putSel_on (e := (5, 23, .tuple #[.agg #[.int .i64 t248, .int .i64 t249], .bool t250, errW t251])) 5 rfl rfl (hon 5 kk) rfl
    replace ha := am ha
    have BK240 := am qB240
    have BK241 := am qB241
    have HB := am qHB
    refine value_ (w1 := w') (v := .agg #[.int .i64 t248, .int .i64 t249]) (by rfl) rfl ?_ ?_
    ·go_simp
     (try simp only [i64_w])
     try rfl
    refine hK.out _ _ ⟨gb252, m9_, (by rw [ha.out]; exact putSel_upk 6 hb_ rfl rfl rfl), qB240, qB241, qHB, qB252, qW252, qE252, q240_252, q252_240, q241_252, q252_241, fun h0_ => absurd ((hoff 10 kk).symm.trans h0_) (by decide), Q_X9_⟩
   refine steps_cons ?_ ?_
   ·rintro b a w' ⟨gb252, m9_, ha, qB240, qB241, qHB, qB252, qW252, qE252, q240_252, q252_240, q241_252, q252_241, qB252_e10, Q_X9_⟩ hb_ hon hoff
    refine ⟨_, rfl, fun K hK => ?_⟩
    have e23 : a.tmps[23]? = some (.tuple #[.agg #[.int .i64 t248, .int .i64 t249], .bool t250, errW t251]) := by rw [ha]; exact putSel_on (e := (5, 23, .tuple #[.agg #[.int .i64 t248, .int .i64 t249], .bool t250, errW t251])) 5 rfl rfl (hon 5 kk) rfl
    replace ha := am ha
    have BK240 := am qB240
    have BK241 := am qB241
    have HB := am qHB
    refine value_ (w1 := w') (v := .bool t250) (by rfl) rfl ?_ ?_
    ·go_simp
     (try simp only [i64_w])
     try rfl
    refine hK.out _ _ ⟨gb252, m9_, (by rw [ha.out]; exact putSel_upk 7 hb_ rfl rfl rfl), qB240, qB241, qHB, qB252, qW252, qE252, q240_252, q252_240, q241_252, q252_241, qB252_e10, Q_X9_⟩
   refine steps_cons ?_ ?_
   ·rintro b a w' ⟨gb252, m9_, ha, qB240, qB241, qHB, qB252, qW252, qE252, q240_252, q252_240, q241_252, q252_241, qB252_e10, Q_X9_⟩ hb_ hon hoff
    refine ⟨_, rfl, fun K hK => ?_⟩
    have e23 : a.tmps[23]? = some (.tuple #[.agg #[.int .i64 t248, .int .i64 t249], .bool t250, errW t251]) := by rw [ha]; exact putSel_on (e := (5, 23, .tuple #[.agg #[.int .i64 t248, .int .i64 t249], .bool t250, errW t251])) 5 rfl rfl (hon 5 kk) rfl
    replace ha := am ha
    have BK240 := am qB240
    have BK241 := am qB241
    have HB := am qHB
    refine value_ (w1 := w') (v := errW t251) (by rfl) rfl ?_ ?_
    ·go_simp
     (try simp only [i64_w])
     try rfl
    refine hK.out _ _ ⟨gb252, m9_, (by rw [ha.out]; exact putSel_upk 8 hb_ rfl rfl rfl), qB240, qB241, qHB, qB252, qW252, qE252, q240_252, q252_240, q241_252, q252_241, qB252_e10, Q_X9_⟩
   refine steps_cons ?_ ?_
   ·rintro b a w' ⟨gb252, m9_, ha, qB240, qB241, qHB, qB252, qW252, qE252, q240_252, q252_240, q241_252, q252_241, qB252_e10, Q_X9_⟩ hb_ hon hoff
    refine ⟨_, rfl, fun K hK => ?_⟩
    replace ha := am ha
    have BK240 := am qB240
    have BK241 := am qB241
    have HB := am qHB
    refine box_step ?hg (N := 7) ?hd (cs := #[.int .i64 0, .int .i64 0]) (t := 34) ?hr ?_; (case hd => rfl); (case hg => rfl); (case hr => first | (go_simp; done) | (go_simp; rfl))
    intro gb252 hg w40 hbox hb
    have n0_ := bb BK240 hb
    have n1_ := bb BK241 hb
    have n2_ := am (below_step pw hb)
    have n3_ := am (hbox)
    have n4_ := am ((by rw [hg]; exact (below_size pw) : w.heap.size ≤ gb252))
    have n5_ := am ((by rw [hg]; exact (below_size pw) : w.heap.size ≤ gb252))
    have n6_ := am ((by rw [hg]; exact Nat.ne_of_lt (blk_lt pk) : gb240 ≠ gb252))
    have n7_ := am ((by rw [hg]; exact Nat.ne_of_gt (blk_lt pk) : gb252 ≠ gb240))
    have n8_ := am ((by rw [hg]; exact Nat.ne_of_lt (blk_lt pk) : gb241 ≠ gb252))
    have n9_ := am ((by rw [hg]; exact Nat.ne_of_gt (blk_lt pk) : gb252 ≠ gb241))
    clear BK240 BK241 HB
    revert n0_ n1_ n2_ n3_ n4_ n5_ n6_ n7_ n8_ n9_
    intro BK240 BK241 HB BK252 GW252 GE252 NB240_252 NB252_240 NB241_252 NB252_241
    clear hb hbox hg
    refine hK.out _ _ ⟨gb252, (.pointer (some ⟨gb252, 0, none⟩)), (by rw [ha.out]; exact putSel_upk 9 hb_ rfl rfl rfl), pk, pk, pw, fun _ _ => pk, fun _ => GW252.out, fun _ => GE252.out, fun _ => NB240_252.out, fun _ => NB252_240.out, fun _ => NB241_252.out, fun _ => NB252_241.out, fun h0_ => absurd ((hoff 10 kk).symm.trans h0_) (by decide), fun _ => rfl⟩
   refine steps_cons ?_ ?_
   ·rintro b a w' ⟨gb252, m9_, ha, qB240, qB241, qHB, qB252, qW252, qE252, q240_252, q252_240, q241_252, q252_241, qB252_e10, Q_X9_⟩ hb_ hon hoff
    refine ⟨_, rfl, fun K hK => ?_⟩
    have e7 : a.tmps[7]? = some (m9_) := by rw [ha]; exact putSel_on (e := (9, 7, m9_)) 9 rfl rfl (hon 9 kk) rfl
    rw [Q_X9_ (hon 9 kk)] at e7
    have e29 : a.tmps[29]? = some (.agg #[.int .i64 t248, .int .i64 t249]) := by rw [ha]; exact putSel_on (e := (6, 29, .agg #[.int .i64 t248, .int .i64 t249])) 6 rfl rfl (hon 6 kk) rfl
    replace ha := am ha
    have BK240 := am qB240
    have BK241 := am qB241
    have HB := am qHB
    have BK252 := am (qB252 (hon 9 kk) hb_)
    have GW252 := am (qW252 (hon 9 kk))
    have GE252 := am (qE252 (hon 9 kk))
    have NB240_252 := am (q240_252 (hon 9 kk))
    have NB252_240 := am (q252_240 (hon 9 kk))
    have NB241_252 := am (q241_252 (hon 9 kk))
    have NB252_241 := am (q252_241 (hon 9 kk))
    have hs45 : w'.cell? ⟨gb252, 0, none⟩ = some (.int .i64 0) := bc BK252 0
    have hfs45 := blk_frozen BK252.out 0
    have hns45_0 := NB240_252.out
    have hns45_1 := NB241_252.out
    have hms45_0 := NB252_240.out
    have hms45_1 := NB252_241.out
    have hs46 : w'.cell? ⟨gb252, 1, none⟩ = some (.int .i64 0) := bc BK252 1
    have hfs46 := blk_frozen BK252.out 1
    have hns46_0 := NB240_252.out
    have hns46_1 := NB241_252.out
    have hms46_0 := NB252_240.out
    have hms46_1 := NB252_241.out
    refine skip_ (w1 := ?_) (by rfl) rfl ?_ ?_
    rotate_left
    ·go_simp
     rfl
    refine hK.out _ _ ⟨gb252, m9_, (by rw [ha.out]; exact putSel_none (v := undef) rfl), (by (with_reducible repeat (first | refine blk_drewN ?_ _ | refine blk_drew ?_ | refine blk_alloc ?_ _)); refine blk_far ?_ NB240_252.out _; (with_reducible repeat (first | refine blk_drewN ?_ _ | refine blk_drew ?_ | refine blk_alloc ?_ _)); refine blk_far ?_ NB240_252.out _; (with_reducible repeat (first | refine blk_drewN ?_ _ | refine blk_drew ?_ | refine blk_alloc ?_ _)); exact BK240.out), (by (with_reducible repeat (first | refine blk_drewN ?_ _ | refine blk_drew ?_ | refine blk_alloc ?_ _)); refine blk_far ?_ NB241_252.out _; (with_reducible repeat (first | refine blk_drewN ?_ _ | refine blk_drew ?_ | refine blk_alloc ?_ _)); refine blk_far ?_ NB241_252.out _; (with_reducible repeat (first | refine blk_drewN ?_ _ | refine blk_drew ?_ | refine blk_alloc ?_ _)); exact BK241.out), pw, fun _ h1_ => absurd ((up_self b 10).symm.trans h1_) (by decide), fun _ => GW252.out, fun _ => GE252.out, fun _ => NB240_252.out, fun _ => NB252_240.out, fun _ => NB241_252.out, fun _ => NB252_241.out, fun _ => (by (with_reducible repeat (first | refine blk_drewN ?_ _ | refine blk_drew ?_ | refine blk_alloc ?_ _)); refine blk_put (cs := #[.int .i64 t248, .int .i64 0]) ?_ 1 _ rfl; (with_reducible repeat (first | refine blk_drewN ?_ _ | refine blk_drew ?_ | refine blk_alloc ?_ _)); refine blk_put (cs := #[.int .i64 0, .int .i64 0]) ?_ 0 _ rfl; (with_reducible repeat (first | refine blk_drewN ?_ _ | refine blk_drew ?_ | refine blk_alloc ?_ _)); exact BK252.out), Q_X9_⟩
   refine steps_cons ?_ ?_
   ·rintro b a w' ⟨gb252, m9_, ha, qB240, qB241, qHB, qB252, qW252, qE252, q240_252, q252_240, q241_252, q252_241, qB252_e10, Q_X9_⟩ hb_ hon hoff
    refine ⟨_, rfl, fun K hK => ?_⟩
    have e30 : a.tmps[30]? = some (.bool t250) := by rw [ha]; exact putSel_on (e := (7, 30, .bool t250)) 7 rfl rfl (hon 7 kk) rfl
    replace ha := am ha
    have BK240 := am qB240
    have BK241 := am qB241
    have HB := am qHB
    have GW252 := am (qW252 (hon 9 kk))
    have GE252 := am (qE252 (hon 9 kk))
    have NB240_252 := am (q240_252 (hon 9 kk))
    have NB252_240 := am (q252_240 (hon 9 kk))
    have NB241_252 := am (q241_252 (hon 9 kk))
    have NB252_241 := am (q252_241 (hon 9 kk))
    have BK252 := am (qB252_e10 (hon 10 kk))
    refine value_ (w1 := w') (v := .bool t250) (by rfl) rfl ?_ ?_
    ·go_simp
     (try simp only [i64_w])
     try rfl
    refine hK.out _ _ ⟨gb252, m9_, (by rw [ha.out]; exact putSel_upk 10 hb_ rfl rfl rfl), qB240, qB241, qHB, fun _ h1_ => absurd ((hon 10 kk).symm.trans h1_) (by decide), qW252, qE252, q240_252, q252_240, q241_252, q252_241, qB252_e10, Q_X9_⟩
   refine steps_cons ?_ ?_
   ·rintro b a w' ⟨gb252, m9_, ha, qB240, qB241, qHB, qB252, qW252, qE252, q240_252, q252_240, q241_252, q252_241, qB252_e10, Q_X9_⟩ hb_ hon hoff
    refine ⟨_, rfl, fun K hK => ?_⟩
    have e31 : a.tmps[31]? = some (errW t251) := by rw [ha]; exact putSel_on (e := (8, 31, errW t251)) 8 rfl rfl (hon 8 kk) rfl
    replace ha := am ha
    have BK240 := am qB240
    have BK241 := am qB241
    have HB := am qHB
    have GW252 := am (qW252 (hon 9 kk))
    have GE252 := am (qE252 (hon 9 kk))
    have NB240_252 := am (q240_252 (hon 9 kk))
    have NB252_240 := am (q252_240 (hon 9 kk))
    have NB241_252 := am (q241_252 (hon 9 kk))
    have NB252_241 := am (q252_241 (hon 9 kk))
    have BK252 := am (qB252_e10 (hon 10 kk))
    refine value_ (w1 := w') (v := errW t251) (by rfl) rfl ?_ ?_
    ·go_simp
     (try simp only [i64_w])
     try rfl
    refine hK.out _ _ ⟨gb252, m9_, (by rw [ha.out]; exact putSel_upk 11 hb_ rfl rfl rfl), qB240, qB241, qHB, fun _ h1_ => absurd ((hon 10 kk).symm.trans h1_) (by decide), qW252, qE252, q240_252, q252_240, q241_252, q252_241, qB252_e10, Q_X9_⟩
   exact steps_nil
  rintro b a w46 hall ⟨gb252, m9_, ha, qB240, qB241, qHB, qB252, qW252, qE252, q240_252, q252_240, q241_252, q252_241, qB252_e10, Q_X9_⟩
  clear BK240 BK241 HB
  have hb0_ := hall 0 kk
  have hb1_ := hall 1 kk
  have hb2_ := hall 2 kk
  have hb3_ := hall 3 kk
  have hb4_ := hall 4 kk
  have hb5_ := hall 5 kk
  have hb6_ := hall 6 kk
  have hb7_ := hall 7 kk
  have hb8_ := hall 8 kk
  have hb9_ := hall 9 kk
  have hb10_ := hall 10 kk
  have hb11_ := hall 11 kk
  have hb12_ := hall 12 kk
  subst ha
  obtain rfl := Q_X9_ hb9_
  simp only [putSel, hb0_, hb1_, hb2_, hb3_, hb4_, hb5_, hb6_, hb7_, hb8_, hb9_, hb10_, hb11_, hb12_, if_true, Act.put, List.setIfInBounds_toArray, List.set_cons_zero, List.set_cons_succ]
  have BK240 := am qB240
  clear qB240
  have BK241 := am qB241
  clear qB241
  have HB := am qHB
  clear qHB
  clear qB252
  have GW252 := am (qW252 hb9_)
  clear qW252
  have GE252 := am (qE252 hb9_)
  clear qE252
  have NB240_252 := am (q240_252 hb9_)
  clear q240_252
  have NB252_240 := am (q252_240 hb9_)
  clear q252_240
  have NB241_252 := am (q241_252 hb9_)
  clear q241_252
  have NB252_241 := am (q252_241 hb9_)
  clear q252_241
  have BK252 := am (qB252_e10 hb10_)
  clear qB252_e10
  clear hall hb0_ hb1_ hb2_ hb3_ hb4_ hb5_ hb6_ hb7_ hb8_ hb9_ hb10_ hb11_ hb12_
  go_upto_region 8 with (fail)
  go_cut [50] (fun v50 wc => ∃ (kq : Nat) (x50_30 : Bool), v50 = .bool x50_30 ∧ Aside0 (L2_CongrMeet.j0 kq t250 t251 x50_30 a0_0 a0_1 a1_0 a1_1 t248 t249 = some r) ∧ Aside0 (kq ≤ k) ∧ Aside0 (wc.heap[gb240]? = some (.cells #[.int .i64 a0_0, .int .i64 a0_1] 32 (0, 0))) ∧ Aside0 (wc.heap[gb241]? = some (.cells #[.int .i64 a1_0, .int .i64 a1_1] 32 (0, 0))) ∧ Aside0 (wc.heap[gb252]? = some (.cells #[.int .i64 t248, .int .i64 t249] 34 (0, 0))) ∧ Aside0 (Below w.heap.size w wc))
  case first =>
   have H := HC31.out
   clear HC31
   by_cases c47 : a0_1 = 0
   ·rw [if_pos c47] at H
    have c47b0 : (a0_1 == 0) = true := beq_iff_eq.mpr c47
    have c47b1 : (a0_1 != 0) = false := bne_eq_false_iff_eq.mpr c47
    clear c47
    (first | rw [c47b0] | (simp only [i64_w, i32_w]; rw [c47b0]) | skip)
    as_aux_lemma =>
     have H' := am H
     clear H
     have hnb48 := NB240_241.out
     have hnc48 := NB241_240.out
     have hnb49 := NB240_252.out
     have hnc49 := NB252_240.out
     have hcz50_0 : w46.cell? ⟨gb240, 0, none⟩ = some (.int .i64 a0_0) := bc BK240 0
     have hcz50_1 : w46.cell? ⟨gb240, 1, none⟩ = some (.int .i64 a0_1) := bc BK240 1
     have hfz50_0 := blk_frozen BK240.out 0
     have hfz50_1 := blk_frozen BK240.out 1
     go_wp2
     go_meet
     case rel => exact ⟨_, (true), pr, H', ⟨by first | omega | exact Nat.le_refl _⟩, ⟨by (with_reducible repeat (first | refine blk_drewN ?_ _ | refine blk_drew ?_ | refine blk_alloc ?_ _)); exact BK240.out⟩, ⟨by (with_reducible repeat (first | refine blk_drewN ?_ _ | refine blk_drew ?_ | refine blk_alloc ?_ _)); exact BK241.out⟩, ⟨by (with_reducible repeat (first | refine blk_drewN ?_ _ | refine blk_drew ?_ | refine blk_alloc ?_ _)); exact BK252.out⟩, ⟨pw⟩⟩
   rw [if_neg c47] at H
   have c47b0 : (a0_1 == 0) = false := beq_eq_false_iff_ne.mpr c47
   have c47b1 : (a0_1 != 0) = true := bne_iff_ne.mpr c47
   (first | rw [c47b0] | (simp only [i64_w, i32_w]; rw [c47b0]) | skip)
   as_aux_lemma =>
    have H' := am H
    clear H
    have hnb51 := NB240_241.out
    have hnc51 := NB241_240.out
    have hnb52 := NB240_252.out
    have hnc52 := NB252_240.out
    have hcz53_0 : w46.cell? ⟨gb240, 0, none⟩ = some (.int .i64 a0_0) := bc BK240 0
    have hcz53_1 : w46.cell? ⟨gb240, 1, none⟩ = some (.int .i64 a0_1) := bc BK240 1
    have hfz53_0 := blk_frozen BK240.out 0
    have hfz53_1 := blk_frozen BK240.out 1
    have hnb54 := NB241_252.out
    have hnc54 := NB252_241.out
    have hcz55_0 : w46.cell? ⟨gb241, 0, none⟩ = some (.int .i64 a1_0) := bc BK241 0
    have hcz55_1 : w46.cell? ⟨gb241, 1, none⟩ = some (.int .i64 a1_1) := bc BK241 1
    have hfz55_0 := blk_frozen BK241.out 0
    have hfz55_1 := blk_frozen BK241.out 1
    go_wp2
    go_meet
    case rel => exact ⟨_, ((a1_1 == 0)), pr, H', ⟨by first | omega | exact Nat.le_refl _⟩, ⟨by (with_reducible repeat (first | refine blk_drewN ?_ _ | refine blk_drew ?_ | refine blk_alloc ?_ _)); exact BK240.out⟩, ⟨by (with_reducible repeat (first | refine blk_drewN ?_ _ | refine blk_drew ?_ | refine blk_alloc ?_ _)); exact BK241.out⟩, ⟨by (with_reducible repeat (first | refine blk_drewN ?_ _ | refine blk_drew ?_ | refine blk_alloc ?_ _)); exact BK252.out⟩, ⟨pw⟩⟩
  clear HC31
  try clear c1
  try clear c2
  try clear p2
  try clear c3
  try clear c4
  try clear c5
  try clear c9
  try clear c9b0
  try clear c11
  try clear c18
  try clear c19
  try clear c20
  try clear c21
  try clear c27
  try clear c28
  try clear c35
  try clear c47
  try clear c47b0
  try clear c47b1
  try clear c48
  try clear c49
  try clear c51
  try clear c52
  try clear c54
  try clear hcz29_0
  try clear hcz29_1
  try clear hcz36_0
  try clear hcz36_1
  try clear hcz37_0
  try clear hcz37_1
  try clear hcz50_0
  try clear hcz50_1
  try clear hcz53_0
  try clear hcz53_1
  try clear hcz55_0
  try clear hcz55_1
  try clear hfz29_0
  try clear hfz29_1
  try clear hfz36_0
  try clear hfz36_1
  try clear hfz37_0
  try clear hfz37_1
  try clear hfz50_0
  try clear hfz50_1
  try clear hfz53_0
  try clear hfz53_1
  try clear hfz55_0
  try clear hfz55_1
  obtain ⟨kq, x50_30, rfl, HA, HJ30, BK240, BK241, BK252, HB⟩ := hcut
  cases kq with
  | zero => exact absurd HA.out (by simp [L2_CongrMeet.j0])
  | succ kj30 =>
   have H := HA.out
   clear HA
   simp only [L2_CongrMeet.j0] at H
   by_cases c56 : x50_30 = true
   ·subst c56
    have H1 : (if a0_1 = 0 then (L2_CongrMeet.j1 kj30 t250 t251 t248 t249 a0_0 a0_1 a1_0 a1_1) else (L2_CongrMeet.j1 kj30 t250 t251 t248 t249 a1_0 a1_1 a0_0 a0_1)) = some r := by rw [if_pos rfl] at H; exact H
    clear H
    have H := H1
    clear H1
    have HC57 := am H
    clear H
    have hnb58 := NB240_241.out
    have hnc58 := NB241_240.out
    have hnb59 := NB240_252.out
    have hnc59 := NB252_240.out
    have hcz60_0 : wc.cell? ⟨gb240, 0, none⟩ = some (.int .i64 a0_0) := bc BK240 0
    have hcz60_1 : wc.cell? ⟨gb240, 1, none⟩ = some (.int .i64 a0_1) := bc BK240 1
    have hfz60_0 := blk_frozen BK240.out 0
    have hfz60_1 := blk_frozen BK240.out 1
    go_upto_if 55 with (first | ((with_reducible refine gate_dst (N := 10) rfl ?_); refine box_event ?hg (N := 10) ?hd (cs := #[.int .i64 0, .int .i64 0]) (t := 32) ?hr ?_; (case hd => rfl); (case hg => rfl); (case hr => first | (go_simp; done) | (go_simp; rfl)); intro gb254 hg w61 hbox hb; have n0_ := bb BK240 hb; have n1_ := bb BK241 hb; have n2_ := bb BK252 hb; have n3_ := am (below_step pw hb); have n4_ := am (hbox); have n5_ := am ((by rw [hg]; exact (below_size pw) : w.heap.size ≤ gb254)); have n6_ := am ((by rw [hg]; exact (below_size pw) : w.heap.size ≤ gb254)); have n7_ := am ((by rw [hg]; exact Nat.ne_of_lt (blk_lt pk) : gb240 ≠ gb254)); have n8_ := am ((by rw [hg]; exact Nat.ne_of_gt (blk_lt pk) : gb254 ≠ gb240)); have n9_ := am ((by rw [hg]; exact Nat.ne_of_lt (blk_lt pk) : gb241 ≠ gb254)); have n10_ := am ((by rw [hg]; exact Nat.ne_of_gt (blk_lt pk) : gb254 ≠ gb241)); have n11_ := am ((by rw [hg]; exact Nat.ne_of_lt (blk_lt pk) : gb252 ≠ gb254)); have n12_ := am ((by rw [hg]; exact Nat.ne_of_gt (blk_lt pk) : gb254 ≠ gb252)); clear BK240; clear BK241; clear BK252; clear HB; have BK240 := n0_; have BK241 := n1_; have BK252 := n2_; have HB := n3_; have BK254 := n4_; have GW254 := n5_; have GE254 := n6_; have NB240_254 := n7_; have NB254_240 := n8_; have NB241_254 := n9_; have NB254_241 := n10_; have NB252_254 := n11_; have NB254_252 := n12_; clear n0_ n1_ n2_ n3_ n4_ n5_ n6_ n7_ n8_ n9_ n10_ n11_ n12_; clear hb hbox hg; have hnb62 := NB254_240.out; have hnc62 := NB240_254.out; have hnb63 := NB254_241.out; have hnc63 := NB241_254.out; have hnb64 := NB254_252.out; have hnc64 := NB252_254.out; have hcz65_0 : w61.cell? ⟨gb254, 0, none⟩ = some (.int .i64 0) := bc BK254 0; have hcz65_1 : w61.cell? ⟨gb254, 1, none⟩ = some (.int .i64 0) := bc BK254 1; have hfz65_0 := blk_frozen BK254.out 0; have hfz65_1 := blk_frozen BK254.out 1; have hnb66 := NB241_252.out; have hnc66 := NB252_241.out; have hcz67_0 : w61.cell? ⟨gb241, 0, none⟩ = some (.int .i64 a1_0) := bc BK241 0; have hcz67_1 : w61.cell? ⟨gb241, 1, none⟩ = some (.int .i64 a1_1) := bc BK241 1; have hfz67_0 := blk_frozen BK241.out 0; have hfz67_1 := blk_frozen BK241.out 1) | ((with_reducible refine gate_dst (N := 11) rfl ?_); refine box_event ?hg (N := 11) ?hd (cs := #[.int .i64 0, .int .i64 0]) (t := 32) ?hr ?_; (case hd => rfl); (case hg => rfl); (case hr => first | (go_simp; done) | (go_simp; rfl)); intro gb255 hg w68 hbox hb; have n0_ := am (blk_below (g := gb240) (o := .cells #[.int .i64 a0_0, .int .i64 a0_1] 32 (0, 0)) (by (with_reducible repeat (first | refine blk_drewN ?_ _ | refine blk_drew ?_ | refine blk_alloc ?_ _)); refine blk_far ?_ NB240_254.out _; (with_reducible repeat (first | refine blk_drewN ?_ _ | refine blk_drew ?_ | refine blk_alloc ?_ _)); refine blk_far ?_ NB240_254.out _; (with_reducible repeat (first | refine blk_drewN ?_ _ | refine blk_drew ?_ | refine blk_alloc ?_ _)); exact BK240.out) hb); have n1_ := am (blk_below (g := gb241) (o := .cells #[.int .i64 a1_0, .int .i64 a1_1] 32 (0, 0)) (by (with_reducible repeat (first | refine blk_drewN ?_ _ | refine blk_drew ?_ | refine blk_alloc ?_ _)); refine blk_far ?_ NB241_254.out _; (with_reducible repeat (first | refine blk_drewN ?_ _ | refine blk_drew ?_ | refine blk_alloc ?_ _)); refine blk_far ?_ NB241_254.out _; (with_reducible repeat (first | refine blk_drewN ?_ _ | refine blk_drew ?_ | refine blk_alloc ?_ _)); exact BK241.out) hb); have n2_ := am (blk_below (g := gb252) (o := .cells #[.int .i64 t248, .int .i64 t249] 34 (0, 0)) (by (with_reducible repeat (first | refine blk_drewN ?_ _ | refine blk_drew ?_ | refine blk_alloc ?_ _)); refine blk_far ?_ NB252_254.out _; (with_reducible repeat (first | refine blk_drewN ?_ _ | refine blk_drew ?_ | refine blk_alloc ?_ _)); refine blk_far ?_ NB252_254.out _; (with_reducible repeat (first | refine blk_drewN ?_ _ | refine blk_drew ?_ | refine blk_alloc ?_ _)); exact BK252.out) hb); have n3_ := am (blk_below (g := gb254) (o := .cells #[.int .i64 a0_0, .int .i64 a0_1] 32 (0, 0)) (by (with_reducible repeat (first | refine blk_drewN ?_ _ | refine blk_drew ?_ | refine blk_alloc ?_ _)); refine blk_put (cs := #[.int .i64 a0_0, .int .i64 0]) ?_ 1 _ rfl; (with_reducible repeat (first | refine blk_drewN ?_ _ | refine blk_drew ?_ | refine blk_alloc ?_ _)); refine blk_put (cs := #[.int .i64 0, .int .i64 0]) ?_ 0 _ rfl; (with_reducible repeat (first | refine blk_drewN ?_ _ | refine blk_drew ?_ | refine blk_alloc ?_ _)); exact BK254.out) hb); have n4_ := am (below_step pw hb); have n5_ := am (hbox); have n6_ := am ((by rw [hg]; exact (below_size pw) : w.heap.size ≤ gb255)); have n7_ := am ((by rw [hg]; exact (below_size pw) : w.heap.size ≤ gb255)); have n8_ := am ((by rw [hg]; exact Nat.ne_of_lt (blk_lt (g := gb240) (o := .cells #[.int .i64 a0_0, .int .i64 a0_1] 32 (0, 0)) (by (with_reducible repeat (first | refine blk_drewN ?_ _ | refine blk_drew ?_ | refine blk_alloc ?_ _)); refine blk_far ?_ NB240_254.out _; (with_reducible repeat (first | refine blk_drewN ?_ _ | refine blk_drew ?_ | refine blk_alloc ?_ _)); refine blk_far ?_ NB240_254.out _; (with_reducible repeat (first | refine blk_drewN ?_ _ | refine blk_drew ?_ | refine blk_alloc ?_ _)); exact BK240.out)) : gb240 ≠ gb255)); have n9_ := am ((by rw [hg]; exact Nat.ne_of_gt (blk_lt (g := gb240) (o := .cells #[.int .i64 a0_0, .int .i64 a0_1] 32 (0, 0)) (by (with_reducible repeat (first | refine blk_drewN ?_ _ | refine blk_drew ?_ | refine blk_alloc ?_ _)); refine blk_far ?_ NB240_254.out _; (with_reducible repeat (first | refine blk_drewN ?_ _ | refine blk_drew ?_ | refine blk_alloc ?_ _)); refine blk_far ?_ NB240_254.out _; (with_reducible repeat (first | refine blk_drewN ?_ _ | refine blk_drew ?_ | refine blk_alloc ?_ _)); exact BK240.out)) : gb255 ≠ gb240)); have n10_ := am ((by rw [hg]; exact Nat.ne_of_lt (blk_lt (g := gb241) (o := .cells #[.int .i64 a1_0, .int .i64 a1_1] 32 (0, 0)) (by (with_reducible repeat (first | refine blk_drewN ?_ _ | refine blk_drew ?_ | refine blk_alloc ?_ _)); refine blk_far ?_ NB241_254.out _; (with_reducible repeat (first | refine blk_drewN ?_ _ | refine blk_drew ?_ | refine blk_alloc ?_ _)); refine blk_far ?_ NB241_254.out _; (with_reducible repeat (first | refine blk_drewN ?_ _ | refine blk_drew ?_ | refine blk_alloc ?_ _)); exact BK241.out)) : gb241 ≠ gb255)); have n11_ := am ((by rw [hg]; exact Nat.ne_of_gt (blk_lt (g := gb241) (o := .cells #[.int .i64 a1_0, .int .i64 a1_1] 32 (0, 0)) (by (with_reducible repeat (first | refine blk_drewN ?_ _ | refine blk_drew ?_ | refine blk_alloc ?_ _)); refine blk_far ?_ NB241_254.out _; (with_reducible repeat (first | refine blk_drewN ?_ _ | refine blk_drew ?_ | refine blk_alloc ?_ _)); refine blk_far ?_ NB241_254.out _; (with_reducible repeat (first | refine blk_drewN ?_ _ | refine blk_drew ?_ | refine blk_alloc ?_ _)); exact BK241.out)) : gb255 ≠ gb241)); have n12_ := am ((by rw [hg]; exact Nat.ne_of_lt (blk_lt (g := gb252) (o := .cells #[.int .i64 t248, .int .i64 t249] 34 (0, 0)) (by (with_reducible repeat (first | refine blk_drewN ?_ _ | refine blk_drew ?_ | refine blk_alloc ?_ _)); refine blk_far ?_ NB252_254.out _; (with_reducible repeat (first | refine blk_drewN ?_ _ | refine blk_drew ?_ | refine blk_alloc ?_ _)); refine blk_far ?_ NB252_254.out _; (with_reducible repeat (first | refine blk_drewN ?_ _ | refine blk_drew ?_ | refine blk_alloc ?_ _)); exact BK252.out)) : gb252 ≠ gb255)); have n13_ := am ((by rw [hg]; exact Nat.ne_of_gt (blk_lt (g := gb252) (o := .cells #[.int .i64 t248, .int .i64 t249] 34 (0, 0)) (by (with_reducible repeat (first | refine blk_drewN ?_ _ | refine blk_drew ?_ | refine blk_alloc ?_ _)); refine blk_far ?_ NB252_254.out _; (with_reducible repeat (first | refine blk_drewN ?_ _ | refine blk_drew ?_ | refine blk_alloc ?_ _)); refine blk_far ?_ NB252_254.out _; (with_reducible repeat (first | refine blk_drewN ?_ _ | refine blk_drew ?_ | refine blk_alloc ?_ _)); exact BK252.out)) : gb255 ≠ gb252)); have n14_ := am ((by rw [hg]; exact Nat.ne_of_lt (blk_lt (g := gb254) (o := .cells #[.int .i64 a0_0, .int .i64 a0_1] 32 (0, 0)) (by (with_reducible repeat (first | refine blk_drewN ?_ _ | refine blk_drew ?_ | refine blk_alloc ?_ _)); refine blk_put (cs := #[.int .i64 a0_0, .int .i64 0]) ?_ 1 _ rfl; (with_reducible repeat (first | refine blk_drewN ?_ _ | refine blk_drew ?_ | refine blk_alloc ?_ _)); refine blk_put (cs := #[.int .i64 0, .int .i64 0]) ?_ 0 _ rfl; (with_reducible repeat (first | refine blk_drewN ?_ _ | refine blk_drew ?_ | refine blk_alloc ?_ _)); exact BK254.out)) : gb254 ≠ gb255)); have n15_ := am ((by rw [hg]; exact Nat.ne_of_gt (blk_lt (g := gb254) (o := .cells #[.int .i64 a0_0, .int .i64 a0_1] 32 (0, 0)) (by (with_reducible repeat (first | refine blk_drewN ?_ _ | refine blk_drew ?_ | refine blk_alloc ?_ _)); refine blk_put (cs := #[.int .i64 a0_0, .int .i64 0]) ?_ 1 _ rfl; (with_reducible repeat (first | refine blk_drewN ?_ _ | refine blk_drew ?_ | refine blk_alloc ?_ _)); refine blk_put (cs := #[.int .i64 0, .int .i64 0]) ?_ 0 _ rfl; (with_reducible repeat (first | refine blk_drewN ?_ _ | refine blk_drew ?_ | refine blk_alloc ?_ _)); exact BK254.out)) : gb255 ≠ gb254)); clear BK240; clear BK241; clear BK252; clear BK254; clear HB; have BK240 := n0_; have BK241 := n1_; have BK252 := n2_; have BK254 := n3_; have HB := n4_; have BK255 := n5_; have GW255 := n6_; have GE255 := n7_; have NB240_255 := n8_; have NB255_240 := n9_; have NB241_255 := n10_; have NB255_241 := n11_; have NB252_255 := n12_; have NB255_252 := n13_; have NB254_255 := n14_; have NB255_254 := n15_; clear n0_ n1_ n2_ n3_ n4_ n5_ n6_ n7_ n8_ n9_ n10_ n11_ n12_ n13_ n14_ n15_; clear hb hbox hg; have hnb69 := NB255_240.out; have hnc69 := NB240_255.out; have hnb70 := NB255_241.out; have hnc70 := NB241_255.out; have hnb71 := NB255_252.out; have hnc71 := NB252_255.out; have hnb72 := NB255_254.out; have hnc72 := NB254_255.out; have hcz73_0 : w68.cell? ⟨gb255, 0, none⟩ = some (.int .i64 0) := bc BK255 0; have hcz73_1 : w68.cell? ⟨gb255, 1, none⟩ = some (.int .i64 0) := bc BK255 1; have hfz73_0 := blk_frozen BK255.out 0; have hfz73_1 := blk_frozen BK255.out 1; have hcz74_0 : w68.cell? ⟨gb240, 0, none⟩ = some (.int .i64 a0_0) := bc BK240 0; have hcz74_1 : w68.cell? ⟨gb240, 1, none⟩ = some (.int .i64 a0_1) := bc BK240 1; have hfz74_0 := blk_frozen BK240.out 0; have hfz74_1 := blk_frozen BK240.out 1))
    (try simp only [Act.put, List.setIfInBounds_toArray, List.set_cons_zero, List.set_cons_succ])
    go_cut [] (fun wc => ∃ (kq : Nat) (x255000_56 : Int) (x255001_56 : Int) (x256000_56 : Int) (x256001_56 : Int), Aside0 (L2_CongrMeet.j1 kq t250 t251 t248 t249 x255000_56 x255001_56 x256000_56 x256001_56 = some r) ∧ Aside0 (kq ≤ kj30) ∧ Aside0 (wc.heap[gb240]? = some (.cells #[.int .i64 a0_0, .int .i64 a0_1] 32 (0, 0))) ∧ Aside0 (wc.heap[gb241]? = some (.cells #[.int .i64 a1_0, .int .i64 a1_1] 32 (0, 0))) ∧ Aside0 (wc.heap[gb252]? = some (.cells #[.int .i64 t248, .int .i64 t249] 34 (0, 0))) ∧ Aside0 (wc.heap[gb254]? = some (.cells #[.int .i64 x255000_56, .int .i64 x255001_56] 32 (0, 0))) ∧ Aside0 (wc.heap[gb255]? = some (.cells #[.int .i64 x256000_56, .int .i64 x256001_56] 32 (0, 0))) ∧ Aside0 (Below w.heap.size w wc))
    case first =>
     have H := HC57.out
     clear HC57
     by_cases c75 : a0_1 = 0
     ·rw [if_pos c75] at H
      have c75b0 : (a0_1 == 0) = true := beq_iff_eq.mpr c75
      have c75b1 : (a0_1 != 0) = false := bne_eq_false_iff_eq.mpr c75
      clear c75
      (first | rw [c75b0] | (simp only [i64_w, i32_w]; rw [c75b0]) | skip)
      as_aux_lemma =>
       have H' := am H
       clear H
       go_wp2
       go_meet
       case rel => exact ⟨_, (a0_0), (a0_1), (a1_0), (a1_1), H', ⟨by have := HJ30.out; first | omega | exact Nat.le_refl _⟩, ⟨by (with_reducible repeat (first | refine blk_drewN ?_ _ | refine blk_drew ?_ | refine blk_alloc ?_ _)); refine blk_far ?_ NB240_255.out _; (with_reducible repeat (first | refine blk_drewN ?_ _ | refine blk_drew ?_ | refine blk_alloc ?_ _)); refine blk_far ?_ NB240_255.out _; (with_reducible repeat (first | refine blk_drewN ?_ _ | refine blk_drew ?_ | refine blk_alloc ?_ _)); exact BK240.out⟩, ⟨by (with_reducible repeat (first | refine blk_drewN ?_ _ | refine blk_drew ?_ | refine blk_alloc ?_ _)); refine blk_far ?_ NB241_255.out _; (with_reducible repeat (first | refine blk_drewN ?_ _ | refine blk_drew ?_ | refine blk_alloc ?_ _)); refine blk_far ?_ NB241_255.out _; (with_reducible repeat (first | refine blk_drewN ?_ _ | refine blk_drew ?_ | refine blk_alloc ?_ _)); exact BK241.out⟩, ⟨by (with_reducible repeat (first | refine blk_drewN ?_ _ | refine blk_drew ?_ | refine blk_alloc ?_ _)); refine blk_far ?_ NB252_255.out _; (with_reducible repeat (first | refine blk_drewN ?_ _ | refine blk_drew ?_ | refine blk_alloc ?_ _)); refine blk_far ?_ NB252_255.out _; (with_reducible repeat (first | refine blk_drewN ?_ _ | refine blk_drew ?_ | refine blk_alloc ?_ _)); exact BK252.out⟩, ⟨by (with_reducible repeat (first | refine blk_drewN ?_ _ | refine blk_drew ?_ | refine blk_alloc ?_ _)); refine blk_far ?_ NB254_255.out _; (with_reducible repeat (first | refine blk_drewN ?_ _ | refine blk_drew ?_ | refine blk_alloc ?_ _)); refine blk_far ?_ NB254_255.out _; (with_reducible repeat (first | refine blk_drewN ?_ _ | refine blk_drew ?_ | refine blk_alloc ?_ _)); exact BK254.out⟩, ⟨by (with_reducible repeat (first | refine blk_drewN ?_ _ | refine blk_drew ?_ | refine blk_alloc ?_ _)); refine blk_put (cs := #[.int .i64 a1_0, .int .i64 0]) ?_ 1 _ rfl; (with_reducible repeat (first | refine blk_drewN ?_ _ | refine blk_drew ?_ | refine blk_alloc ?_ _)); refine blk_put (cs := #[.int .i64 0, .int .i64 0]) ?_ 0 _ rfl; (with_reducible repeat (first | refine blk_drewN ?_ _ | refine blk_drew ?_ | refine blk_alloc ?_ _)); exact BK255.out⟩, ⟨pw⟩⟩
     rw [if_neg c75] at H
     have c75b0 : (a0_1 == 0) = false := beq_eq_false_iff_ne.mpr c75
     have c75b1 : (a0_1 != 0) = true := bne_iff_ne.mpr c75
     (first | rw [c75b0] | (simp only [i64_w, i32_w]; rw [c75b0]) | skip)
     as_aux_lemma =>
      have H' := am H
      clear H
      have hnb76 := NB241_240.out
      have hnc76 := NB240_241.out
      have hnb77 := NB241_252.out
      have hnc77 := NB252_241.out
      have hnb78 := NB241_254.out
      have hnc78 := NB254_241.out
      have hnb79 := NB241_255.out
      have hnc79 := NB255_241.out
      have hcz80_0 : w68.cell? ⟨gb241, 0, none⟩ = some (.int .i64 a1_0) := bc BK241 0
      have hcz80_1 : w68.cell? ⟨gb241, 1, none⟩ = some (.int .i64 a1_1) := bc BK241 1
      have hfz80_0 := blk_frozen BK241.out 0
      have hfz80_1 := blk_frozen BK241.out 1
      have hnb81 := NB254_240.out
      have hnc81 := NB240_254.out
      have hnb82 := NB254_252.out
      have hnc82 := NB252_254.out
      have hnb83 := NB254_255.out
      have hnc83 := NB255_254.out
      have hcz84_0 : w68.cell? ⟨gb254, 0, none⟩ = some (.int .i64 a0_0) := bc BK254 0
      have hcz84_1 : w68.cell? ⟨gb254, 1, none⟩ = some (.int .i64 a0_1) := bc BK254 1
      have hfz84_0 := blk_frozen BK254.out 0
      have hfz84_1 := blk_frozen BK254.out 1
      have hnb85 := NB240_252.out
      have hnc85 := NB252_240.out
      have hnb86 := NB240_255.out
      have hnc86 := NB255_240.out
      have hcz87_0 : w68.cell? ⟨gb240, 0, none⟩ = some (.int .i64 a0_0) := bc BK240 0
      have hcz87_1 : w68.cell? ⟨gb240, 1, none⟩ = some (.int .i64 a0_1) := bc BK240 1
      have hfz87_0 := blk_frozen BK240.out 0
      have hfz87_1 := blk_frozen BK240.out 1
      have hnb88 := NB255_252.out
      have hnc88 := NB252_255.out
      have hcz89_0 : w68.cell? ⟨gb255, 0, none⟩ = some (.int .i64 0) := bc BK255 0
      have hcz89_1 : w68.cell? ⟨gb255, 1, none⟩ = some (.int .i64 0) := bc BK255 1
      have hfz89_0 := blk_frozen BK255.out 0
      have hfz89_1 := blk_frozen BK255.out 1
      go_wp2
      go_meet
      case rel => exact ⟨_, (a1_0), (a1_1), (a0_0), (a0_1), H', ⟨by have := HJ30.out; first | omega | exact Nat.le_refl _⟩, ⟨by (with_reducible repeat (first | refine blk_drewN ?_ _ | refine blk_drew ?_ | refine blk_alloc ?_ _)); refine blk_far ?_ NB240_255.out _; (with_reducible repeat (first | refine blk_drewN ?_ _ | refine blk_drew ?_ | refine blk_alloc ?_ _)); refine blk_far ?_ NB240_255.out _; (with_reducible repeat (first | refine blk_drewN ?_ _ | refine blk_drew ?_ | refine blk_alloc ?_ _)); refine blk_far ?_ NB240_254.out _; (with_reducible repeat (first | refine blk_drewN ?_ _ | refine blk_drew ?_ | refine blk_alloc ?_ _)); refine blk_far ?_ NB240_254.out _; (with_reducible repeat (first | refine blk_drewN ?_ _ | refine blk_drew ?_ | refine blk_alloc ?_ _)); refine blk_far ?_ NB240_255.out _; (with_reducible repeat (first | refine blk_drewN ?_ _ | refine blk_drew ?_ | refine blk_alloc ?_ _)); refine blk_far ?_ NB240_255.out _; (with_reducible repeat (first | refine blk_drewN ?_ _ | refine blk_drew ?_ | refine blk_alloc ?_ _)); exact BK240.out⟩, ⟨by (with_reducible repeat (first | refine blk_drewN ?_ _ | refine blk_drew ?_ | refine blk_alloc ?_ _)); refine blk_far ?_ NB241_255.out _; (with_reducible repeat (first | refine blk_drewN ?_ _ | refine blk_drew ?_ | refine blk_alloc ?_ _)); refine blk_far ?_ NB241_255.out _; (with_reducible repeat (first | refine blk_drewN ?_ _ | refine blk_drew ?_ | refine blk_alloc ?_ _)); refine blk_far ?_ NB241_254.out _; (with_reducible repeat (first | refine blk_drewN ?_ _ | refine blk_drew ?_ | refine blk_alloc ?_ _)); refine blk_far ?_ NB241_254.out _; (with_reducible repeat (first | refine blk_drewN ?_ _ | refine blk_drew ?_ | refine blk_alloc ?_ _)); refine blk_far ?_ NB241_255.out _; (with_reducible repeat (first | refine blk_drewN ?_ _ | refine blk_drew ?_ | refine blk_alloc ?_ _)); refine blk_far ?_ NB241_255.out _; (with_reducible repeat (first | refine blk_drewN ?_ _ | refine blk_drew ?_ | refine blk_alloc ?_ _)); exact BK241.out⟩, ⟨by (with_reducible repeat (first | refine blk_drewN ?_ _ | refine blk_drew ?_ | refine blk_alloc ?_ _)); refine blk_far ?_ NB252_255.out _; (with_reducible repeat (first | refine blk_drewN ?_ _ | refine blk_drew ?_ | refine blk_alloc ?_ _)); refine blk_far ?_ NB252_255.out _; (with_reducible repeat (first | refine blk_drewN ?_ _ | refine blk_drew ?_ | refine blk_alloc ?_ _)); refine blk_far ?_ NB252_254.out _; (with_reducible repeat (first | refine blk_drewN ?_ _ | refine blk_drew ?_ | refine blk_alloc ?_ _)); refine blk_far ?_ NB252_254.out _; (with_reducible repeat (first | refine blk_drewN ?_ _ | refine blk_drew ?_ | refine blk_alloc ?_ _)); refine blk_far ?_ NB252_255.out _; (with_reducible repeat (first | refine blk_drewN ?_ _ | refine blk_drew ?_ | refine blk_alloc ?_ _)); refine blk_far ?_ NB252_255.out _; (with_reducible repeat (first | refine blk_drewN ?_ _ | refine blk_drew ?_ | refine blk_alloc ?_ _)); exact BK252.out⟩, ⟨by (with_reducible repeat (first | refine blk_drewN ?_ _ | refine blk_drew ?_ | refine blk_alloc ?_ _)); refine blk_far ?_ NB254_255.out _; (with_reducible repeat (first | refine blk_drewN ?_ _ | refine blk_drew ?_ | refine blk_alloc ?_ _)); refine blk_far ?_ NB254_255.out _; (with_reducible repeat (first | refine blk_drewN ?_ _ | refine blk_drew ?_ | refine blk_alloc ?_ _)); refine blk_put (cs := #[.int .i64 a1_0, .int .i64 a0_1]) ?_ 1 _ rfl; (with_reducible repeat (first | refine blk_drewN ?_ _ | refine blk_drew ?_ | refine blk_alloc ?_ _)); refine blk_put (cs := #[.int .i64 a0_0, .int .i64 a0_1]) ?_ 0 _ rfl; (with_reducible repeat (first | refine blk_drewN ?_ _ | refine blk_drew ?_ | refine blk_alloc ?_ _)); refine blk_far ?_ NB254_255.out _; (with_reducible repeat (first | refine blk_drewN ?_ _ | refine blk_drew ?_ | refine blk_alloc ?_ _)); refine blk_far ?_ NB254_255.out _; (with_reducible repeat (first | refine blk_drewN ?_ _ | refine blk_drew ?_ | refine blk_alloc ?_ _)); exact BK254.out⟩, ⟨by (with_reducible repeat (first | refine blk_drewN ?_ _ | refine blk_drew ?_ | refine blk_alloc ?_ _)); refine blk_put (cs := #[.int .i64 a0_0, .int .i64 a1_1]) ?_ 1 _ rfl; (with_reducible repeat (first | refine blk_drewN ?_ _ | refine blk_drew ?_ | refine blk_alloc ?_ _)); refine blk_put (cs := #[.int .i64 a1_0, .int .i64 a1_1]) ?_ 0 _ rfl; (with_reducible repeat (first | refine blk_drewN ?_ _ | refine blk_drew ?_ | refine blk_alloc ?_ _)); refine blk_far ?_ NB255_254.out _; (with_reducible repeat (first | refine blk_drewN ?_ _ | refine blk_drew ?_ | refine blk_alloc ?_ _)); refine blk_far ?_ NB255_254.out _; (with_reducible repeat (first | refine blk_drewN ?_ _ | refine blk_drew ?_ | refine blk_alloc ?_ _)); refine blk_put (cs := #[.int .i64 a1_0, .int .i64 0]) ?_ 1 _ rfl; (with_reducible repeat (first | refine blk_drewN ?_ _ | refine blk_drew ?_ | refine blk_alloc ?_ _)); refine blk_put (cs := #[.int .i64 0, .int .i64 0]) ?_ 0 _ rfl; (with_reducible repeat (first | refine blk_drewN ?_ _ | refine blk_drew ?_ | refine blk_alloc ?_ _)); exact BK255.out⟩, ⟨pw⟩⟩
    clear HC57
    try clear c1
    try clear c2
    try clear p2
    try clear c3
    try clear c4
    try clear c5
    try clear c6
    try clear c7
    try clear c8
    try clear c9
    try clear c9b0
    try clear c11
    try clear c18
    try clear c19
    try clear c20
    try clear c21
    try clear c27
    try clear c28
    try clear c35
    try clear c47
    try clear c47b0
    try clear c47b1
    try clear c48
    try clear c49
    try clear c51
    try clear c52
    try clear c54
    try clear c56
    try clear c58
    try clear c59
    try clear c62
    try clear c63
    try clear c64
    try clear c66
    try clear c69
    try clear c70
    try clear c71
    try clear c72
    try clear c75
    try clear c75b0
    try clear c75b1
    try clear c76
    try clear c77
    try clear c78
    try clear c79
    try clear c81
    try clear c82
    try clear c83
    try clear c85
    try clear c86
    try clear c88
    try clear hcz29_0
    try clear hcz29_1
    try clear hcz36_0
    try clear hcz36_1
    try clear hcz37_0
    try clear hcz37_1
    try clear hcz50_0
    try clear hcz50_1
    try clear hcz53_0
    try clear hcz53_1
    try clear hcz55_0
    try clear hcz55_1
    try clear hcz60_0
    try clear hcz60_1
    try clear hcz65_0
    try clear hcz65_1
    try clear hcz67_0
    try clear hcz67_1
    try clear hcz73_0
    try clear hcz73_1
    try clear hcz74_0
    try clear hcz74_1
    try clear hcz80_0
    try clear hcz80_1
    try clear hcz84_0
    try clear hcz84_1
    try clear hcz87_0
    try clear hcz87_1
    try clear hcz89_0
    try clear hcz89_1
    try clear hfz29_0
    try clear hfz29_1
    try clear hfz36_0
    try clear hfz36_1
    try clear hfz37_0
    try clear hfz37_1
    try clear hfz50_0
    try clear hfz50_1
    try clear hfz53_0
    try clear hfz53_1
    try clear hfz55_0
    try clear hfz55_1
    try clear hfz60_0
    try clear hfz60_1
    try clear hfz65_0
    try clear hfz65_1
    try clear hfz67_0
    try clear hfz67_1
    try clear hfz73_0
    try clear hfz73_1
    try clear hfz74_0
    try clear hfz74_1
    try clear hfz80_0
    try clear hfz80_1
    try clear hfz84_0
    try clear hfz84_1
    try clear hfz87_0
    try clear hfz87_1
    try clear hfz89_0
    try clear hfz89_1
    try clear p2
    obtain ⟨kq, x255000_56, x255001_56, x256000_56, x256001_56, HA, HJ56, BK240, BK241, BK252, BK254, BK255, HB⟩ := hcut
    cases kq with
    | zero => exact absurd HA.out (by simp [L2_CongrMeet.j1])
    | succ kj56 =>
     have H := HA.out
     clear HA
     simp only [L2_CongrMeet.j1] at H
     replace H := Option.bind_eq_some_iff.mp H
     obtain ⟨t256, A900, H⟩ := H
     replace H : (if t256 = true then (if t250 = true then ((L2_isCongr.f t248 t249 t251 x255000_56 x255001_56 0).bind fun t257 => (some t257)) else (none)) else (if t251.isNone = true then (if t250 = true then (none) else (some (t248 == 0 && (t249 == 0)))) else (none))) = some r := H
     have A90 := am A900
     clear A900
     by_cases c91 : t256 = true
     ·subst c91
      have H1 : (if t250 = true then ((L2_isCongr.f t248 t249 t251 x255000_56 x255001_56 0).bind fun t257 => (some t257)) else (none)) = some r := by rw [if_pos rfl] at H; exact H
      clear H
      have H := H1
      clear H1
      by_cases c92 : t250 = true
      ·subst c92
       have H1 : ((L2_isCongr.f t248 t249 t251 x255000_56 x255001_56 0).bind fun t257 => (some t257)) = some r := by rw [if_pos rfl] at H; exact H
       clear H
       have H := H1
       clear H1
       replace H := Option.bind_eq_some_iff.mp H
       obtain ⟨t257, A930, H⟩ := H
       replace H : (some t257) = some r := H
       have A93 := am A930
       clear A930
       as_aux_lemma =>
        obtain rfl := Option.some.inj H
        have hnb94 := NB255_240.out
        have hnc94 := NB240_255.out
        have hnb95 := NB255_241.out
        have hnc95 := NB241_255.out
        have hnb96 := NB255_252.out
        have hnc96 := NB252_255.out
        have hnb97 := NB255_254.out
        have hnc97 := NB254_255.out
        have hcz98_0 : wc.cell? ⟨gb255, 0, none⟩ = some (.int .i64 x256000_56) := bc BK255 0
        have hcz98_1 : wc.cell? ⟨gb255, 1, none⟩ = some (.int .i64 x256001_56) := bc BK255 1
        have hfz98_0 := blk_frozen BK255.out 0
        have hfz98_1 := blk_frozen BK255.out 1
        have hnb99 := NB254_240.out
        have hnc99 := NB240_254.out
        have hnb100 := NB254_241.out
        have hnc100 := NB241_254.out
        have hnb101 := NB254_252.out
        have hnc101 := NB252_254.out
        have hcz102_0 : wc.cell? ⟨gb254, 0, none⟩ = some (.int .i64 x255000_56) := bc BK254 0
        have hcz102_1 : wc.cell? ⟨gb254, 1, none⟩ = some (.int .i64 x255001_56) := bc BK254 1
        have hfz102_0 := blk_frozen BK254.out 0
        have hfz102_1 := blk_frozen BK254.out 1
        go_wp2_with (first | ((with_reducible refine gate_callee (f := 23) rfl ?_); refine goesL_ (some 61) rfl rfl Tryd.func23 kk rfl #[.agg #[.int .i64 x256000_56, .int .i64 x256001_56], .int .i64 x255000_56] rfl (by (try simp only [List.map_toArray, List.map_cons, List.map_nil]); first | done | rfl | (simp only [List.length_drop, List.length_take]; rfl)) ?_; (with_reducible refine (R2_LeavesOf.calls x256000_56 x256001_56 x255000_56 true _ A90.out).mono ?_); rintro e w103 ⟨rfl, hb⟩; refine ⟨_, rfl, ?_⟩; have n0_ := bb BK240 hb; have n1_ := bb BK241 hb; have n2_ := bb BK252 hb; have n3_ := bb BK254 hb; have n4_ := bb BK255 hb; have n5_ := am (below_step pw hb); clear BK240; clear BK241; clear BK252; clear BK254; clear BK255; clear HB; have BK240 := n0_; have BK241 := n1_; have BK252 := n2_; have BK254 := n3_; have BK255 := n4_; have HB := n5_; clear n0_ n1_ n2_ n3_ n4_ n5_; (try clear hb); (try clear hb2); (try clear hk); (try clear hi); have hnb104 := NB252_240.out; have hnc104 := NB240_252.out; have hnb105 := NB252_241.out; have hnc105 := NB241_252.out; have hcz106_0 : w103.cell? ⟨gb252, 0, none⟩ = some (.int .i64 t248) := bc BK252 0; have hcz106_1 : w103.cell? ⟨gb252, 1, none⟩ = some (.int .i64 t249) := bc BK252 1; have hfz106_0 := blk_frozen BK252.out 0; have hfz106_1 := blk_frozen BK252.out 1; have hcz107_0 : w103.cell? ⟨gb254, 0, none⟩ = some (.int .i64 x255000_56) := bc BK254 0; have hcz107_1 : w103.cell? ⟨gb254, 1, none⟩ = some (.int .i64 x255001_56) := bc BK254 1; have hfz107_0 := blk_frozen BK254.out 0; have hfz107_1 := blk_frozen BK254.out 1; have CA93 := fun (W : World) (hE9_ : ErrAll W) => L2_isCongr.calls t248 t249 t251 x255000_56 x255001_56 0 t257 W A93.out hE9_; try simp only [errW_none, errW_some] at CA93) | (go_at_call 22; (with_reducible refine (CA93 _ (ErrAll.below hE9.out pw)).mono ?_); rintro e w108 ⟨rfl, hb⟩; have n0_ := bb BK240 hb; have n1_ := bb BK241 hb; have n2_ := bb BK252 hb; have n3_ := bb BK254 hb; have n4_ := bb BK255 hb; have n5_ := am (below_step pw hb); clear BK240; clear BK241; clear BK252; clear BK254; clear BK255; clear HB; have BK240 := n0_; have BK241 := n1_; have BK252 := n2_; have BK254 := n3_; have BK255 := n4_; have HB := n5_; clear n0_ n1_ n2_ n3_ n4_ n5_; (try clear hb); (try clear hb2); (try clear hk); (try clear hi)))
        go_ret
        exact ⟨pe, pw⟩
      replace c92 := Bool.eq_false_iff.mpr c92
      subst c92
      have H1 : (none) = some r := by rw [if_neg (show ¬ (false = true) by decide)] at H; exact H
      clear H
      have H := H1
      clear H1
      exact absurd H (by simp)
     replace c91 := Bool.eq_false_iff.mpr c91
     subst c91
     have H1 : (if t251.isNone = true then (if t250 = true then (none) else (some (t248 == 0 && (t249 == 0)))) else (none)) = some r := by rw [if_neg (show ¬ (false = true) by decide)] at H; exact H
     clear H
     have H := H1
     clear H1
     rcases t251 with _ | q258
     ·have H1 : (if t250 = true then (none) else (some (t248 == 0 && (t249 == 0)))) = some r := by rw [if_pos (show (none : Option Int).isNone = true by rfl)] at H; exact H
      clear H
      have H := H1
      clear H1
      try simp only [errW_none, errW_some]
      by_cases c109 : t250 = true
      ·subst c109
       have H1 : (none) = some r := by rw [if_pos rfl] at H; exact H
       clear H
       have H := H1
       clear H1
       exact absurd H (by simp)
      replace c109 := Bool.eq_false_iff.mpr c109
      subst c109
      have H1 : (some (t248 == 0 && (t249 == 0))) = some r := by rw [if_neg (show ¬ (false = true) by decide)] at H; exact H
      clear H
      have H := H1
      clear H1
      as_aux_lemma =>
       obtain rfl := Option.some.inj H
       have hnb110 := NB255_240.out
       have hnc110 := NB240_255.out
       have hnb111 := NB255_241.out
       have hnc111 := NB241_255.out
       have hnb112 := NB255_252.out
       have hnc112 := NB252_255.out
       have hnb113 := NB255_254.out
       have hnc113 := NB254_255.out
       have hcz114_0 : wc.cell? ⟨gb255, 0, none⟩ = some (.int .i64 x256000_56) := bc BK255 0
       have hcz114_1 : wc.cell? ⟨gb255, 1, none⟩ = some (.int .i64 x256001_56) := bc BK255 1
       have hfz114_0 := blk_frozen BK255.out 0
       have hfz114_1 := blk_frozen BK255.out 1
       have hnb115 := NB254_240.out
       have hnc115 := NB240_254.out
       have hnb116 := NB254_241.out
       have hnc116 := NB241_254.out
       have hnb117 := NB254_252.out
       have hnc117 := NB252_254.out
       have hcz118_0 : wc.cell? ⟨gb254, 0, none⟩ = some (.int .i64 x255000_56) := bc BK254 0
       have hcz118_1 : wc.cell? ⟨gb254, 1, none⟩ = some (.int .i64 x255001_56) := bc BK254 1
       have hfz118_0 := blk_frozen BK254.out 0
       have hfz118_1 := blk_frozen BK254.out 1
       go_wp2_with (first | ((with_reducible refine gate_callee (f := 23) rfl ?_); refine goesL_ (some 61) rfl rfl Tryd.func23 kk rfl #[.agg #[.int .i64 x256000_56, .int .i64 x256001_56], .int .i64 x255000_56] rfl (by (try simp only [List.map_toArray, List.map_cons, List.map_nil]); first | done | rfl | (simp only [List.length_drop, List.length_take]; rfl)) ?_; (with_reducible refine (R2_LeavesOf.calls x256000_56 x256001_56 x255000_56 false _ A90.out).mono ?_); rintro e w119 ⟨rfl, hb⟩; refine ⟨_, rfl, ?_⟩; have n0_ := bb BK240 hb; have n1_ := bb BK241 hb; have n2_ := bb BK252 hb; have n3_ := bb BK254 hb; have n4_ := bb BK255 hb; have n5_ := am (below_step pw hb); clear BK240; clear BK241; clear BK252; clear BK254; clear BK255; clear HB; have BK240 := n0_; have BK241 := n1_; have BK252 := n2_; have BK254 := n3_; have BK255 := n4_; have HB := n5_; clear n0_ n1_ n2_ n3_ n4_ n5_; (try clear hb); (try clear hb2); (try clear hk); (try clear hi); have hnb120 := NB252_240.out; have hnc120 := NB240_252.out; have hnb121 := NB252_241.out; have hnc121 := NB241_252.out; have hcz122_0 : w119.cell? ⟨gb252, 0, none⟩ = some (.int .i64 t248) := bc BK252 0; have hcz122_1 : w119.cell? ⟨gb252, 1, none⟩ = some (.int .i64 t249) := bc BK252 1; have hfz122_0 := blk_frozen BK252.out 0; have hfz122_1 := blk_frozen BK252.out 1))
       go_ret
       exact ⟨pe, pw⟩
     have H1 : (none) = some r := by rw [if_neg (show ¬ (some q258).isNone = true by simp)] at H; exact H
     clear H
     have H := H1
     clear H1
     try simp only [errW_none, errW_some]
     exact absurd H (by simp)
   replace c56 := Bool.eq_false_iff.mpr c56
   subst c56
   have H1 : (if a0_1 > 2000 then (L2_CongrMeet.j2 kj30 t250 t251 true a0_0 a0_1 a1_0 a1_1 t248 t249) else (L2_CongrMeet.j2 kj30 t250 t251 (decide (a1_1 > 2000)) a0_0 a0_1 a1_0 a1_1 t248 t249)) = some r := by rw [if_neg (show ¬ (false = true) by decide)] at H; exact H
   clear H
   have H := H1
   clear H1
   have HC123 := am H
   clear H
   go_upto_region 18 with (fail)
   go_cut [89] (fun v89 wc => ∃ (kq : Nat) (x89_122 : Bool), v89 = .bool x89_122 ∧ Aside0 (L2_CongrMeet.j2 kq t250 t251 x89_122 a0_0 a0_1 a1_0 a1_1 t248 t249 = some r) ∧ Aside0 (kq ≤ kj30) ∧ Aside0 (wc.heap[gb240]? = some (.cells #[.int .i64 a0_0, .int .i64 a0_1] 32 (0, 0))) ∧ Aside0 (wc.heap[gb241]? = some (.cells #[.int .i64 a1_0, .int .i64 a1_1] 32 (0, 0))) ∧ Aside0 (wc.heap[gb252]? = some (.cells #[.int .i64 t248, .int .i64 t249] 34 (0, 0))) ∧ Aside0 (Below w.heap.size w wc))
   case first =>
    have H := HC123.out
    clear HC123
    by_cases c124 : a0_1 > 2000
    ·rw [if_pos c124] at H
     have c124b0 : decide (2000 < a0_1) = true := decide_eq_true c124
     clear c124
     (first | rw [c124b0] | (simp only [i64_w, i32_w]; rw [c124b0]) | skip)
     as_aux_lemma =>
      have H' := am H
      clear H
      have hnb125 := NB240_241.out
      have hnc125 := NB241_240.out
      have hnb126 := NB240_252.out
      have hnc126 := NB252_240.out
      have hcz127_0 : wc.cell? ⟨gb240, 0, none⟩ = some (.int .i64 a0_0) := bc BK240 0
      have hcz127_1 : wc.cell? ⟨gb240, 1, none⟩ = some (.int .i64 a0_1) := bc BK240 1
      have hfz127_0 := blk_frozen BK240.out 0
      have hfz127_1 := blk_frozen BK240.out 1
      go_wp2
      go_meet
      case rel => exact ⟨_, (true), pr, H', ⟨by have := HJ30.out; first | omega | exact Nat.le_refl _⟩, ⟨by (with_reducible repeat (first | refine blk_drewN ?_ _ | refine blk_drew ?_ | refine blk_alloc ?_ _)); exact BK240.out⟩, ⟨by (with_reducible repeat (first | refine blk_drewN ?_ _ | refine blk_drew ?_ | refine blk_alloc ?_ _)); exact BK241.out⟩, ⟨by (with_reducible repeat (first | refine blk_drewN ?_ _ | refine blk_drew ?_ | refine blk_alloc ?_ _)); exact BK252.out⟩, ⟨pw⟩⟩
    rw [if_neg c124] at H
    have c124b0 : decide (2000 < a0_1) = false := decide_eq_false c124
    clear c124
    (first | rw [c124b0] | (simp only [i64_w, i32_w]; rw [c124b0]) | skip)
    as_aux_lemma =>
     have H' := am H
     clear H
     have hnb128 := NB240_241.out
     have hnc128 := NB241_240.out
     have hnb129 := NB240_252.out
     have hnc129 := NB252_240.out
     have hcz130_0 : wc.cell? ⟨gb240, 0, none⟩ = some (.int .i64 a0_0) := bc BK240 0
     have hcz130_1 : wc.cell? ⟨gb240, 1, none⟩ = some (.int .i64 a0_1) := bc BK240 1
     have hfz130_0 := blk_frozen BK240.out 0
     have hfz130_1 := blk_frozen BK240.out 1
     have hnb131 := NB241_252.out
     have hnc131 := NB252_241.out
     have hcz132_0 : wc.cell? ⟨gb241, 0, none⟩ = some (.int .i64 a1_0) := bc BK241 0
     have hcz132_1 : wc.cell? ⟨gb241, 1, none⟩ = some (.int .i64 a1_1) := bc BK241 1
     have hfz132_0 := blk_frozen BK241.out 0
     have hfz132_1 := blk_frozen BK241.out 1
     go_wp2
     go_meet
     case rel => exact ⟨_, (decide (a1_1 > 2000)), pr, H', ⟨by have := HJ30.out; first | omega | exact Nat.le_refl _⟩, ⟨by (with_reducible repeat (first | refine blk_drewN ?_ _ | refine blk_drew ?_ | refine blk_alloc ?_ _)); exact BK240.out⟩, ⟨by (with_reducible repeat (first | refine blk_drewN ?_ _ | refine blk_drew ?_ | refine blk_alloc ?_ _)); exact BK241.out⟩, ⟨by (with_reducible repeat (first | refine blk_drewN ?_ _ | refine blk_drew ?_ | refine blk_alloc ?_ _)); exact BK252.out⟩, ⟨pw⟩⟩
   clear HC123
   try clear c1
   try clear c2
   try clear p2
   try clear q2
   try clear c3
   try clear c4
   try clear c5
   try clear c6
   try clear c7
   try clear c8
   try clear c9
   try clear c9b0
   try clear c10
   try clear c11
   try clear c12
   try clear c13
   try clear c18
   try clear c19
   try clear c20
   try clear c21
   try clear c23
   try clear q25
   try clear c27
   try clear c28
   try clear c35
   try clear c47
   try clear c47b0
   try clear c47b1
   try clear c48
   try clear c49
   try clear c51
   try clear c52
   try clear c54
   try clear c56
   try clear c58
   try clear c59
   try clear c62
   try clear c63
   try clear c64
   try clear c66
   try clear c69
   try clear c70
   try clear c71
   try clear c72
   try clear c75
   try clear c75b0
   try clear c75b1
   try clear c76
   try clear c77
   try clear c78
   try clear c79
   try clear c81
   try clear c82
   try clear c83
   try clear c85
   try clear c86
   try clear c88
   try clear c91
   try clear c92
   try clear c94
   try clear c95
   try clear c96
   try clear c97
   try clear c99
   try clear c100
   try clear c101
   try clear c104
   try clear c105
   try clear c109
   try clear c110
   try clear c111
   try clear c112
   try clear c113
   try clear c115
   try clear c116
   try clear c117
   try clear c120
   try clear c121
   try clear c124
   try clear c124b0
   try clear c125
   try clear c126
   try clear c128
   try clear c129
   try clear c131
   try clear hcz102_0
   try clear hcz102_1
   try clear hcz106_0
   try clear hcz106_1
   try clear hcz107_0
   try clear hcz107_1
   try clear hcz114_0
   try clear hcz114_1
   try clear hcz118_0
   try clear hcz118_1
   try clear hcz122_0
   try clear hcz122_1
   try clear hcz127_0
   try clear hcz127_1
   try clear hcz130_0
   try clear hcz130_1
   try clear hcz132_0
   try clear hcz132_1
   try clear hcz29_0
   try clear hcz29_1
   try clear hcz36_0
   try clear hcz36_1
   try clear hcz37_0
   try clear hcz37_1
   try clear hcz50_0
   try clear hcz50_1
   try clear hcz53_0
   try clear hcz53_1
   try clear hcz55_0
   try clear hcz55_1
   try clear hcz60_0
   try clear hcz60_1
   try clear hcz65_0
   try clear hcz65_1
   try clear hcz67_0
   try clear hcz67_1
   try clear hcz73_0
   try clear hcz73_1
   try clear hcz74_0
   try clear hcz74_1
   try clear hcz80_0
   try clear hcz80_1
   try clear hcz84_0
   try clear hcz84_1
   try clear hcz87_0
   try clear hcz87_1
   try clear hcz89_0
   try clear hcz89_1
   try clear hcz98_0
   try clear hcz98_1
   try clear hfz102_0
   try clear hfz102_1
   try clear hfz106_0
   try clear hfz106_1
   try clear hfz107_0
   try clear hfz107_1
   try clear hfz114_0
   try clear hfz114_1
   try clear hfz118_0
   try clear hfz118_1
   try clear hfz122_0
   try clear hfz122_1
   try clear hfz127_0
   try clear hfz127_1
   try clear hfz130_0
   try clear hfz130_1
   try clear hfz132_0
   try clear hfz132_1
   try clear hfz29_0
   try clear hfz29_1
   try clear hfz36_0
   try clear hfz36_1
   try clear hfz37_0
   try clear hfz37_1
   try clear hfz50_0
   try clear hfz50_1
   try clear hfz53_0
   try clear hfz53_1
   try clear hfz55_0
   try clear hfz55_1
   try clear hfz60_0
   try clear hfz60_1
   try clear hfz65_0
   try clear hfz65_1
   try clear hfz67_0
   try clear hfz67_1
   try clear hfz73_0
   try clear hfz73_1
   try clear hfz74_0
   try clear hfz74_1
   try clear hfz80_0
   try clear hfz80_1
   try clear hfz84_0
   try clear hfz84_1
   try clear hfz87_0
   try clear hfz87_1
   try clear hfz89_0
   try clear hfz89_1
   try clear hfz98_0
   try clear hfz98_1
   try clear p2
   try clear q258
   obtain ⟨kq, x89_122, rfl, HA, HJ122, BK240, BK241, BK252, HB⟩ := hcut
   cases kq with
   | zero => exact absurd HA.out (by simp [L2_CongrMeet.j2])
   | succ kj122 =>
    have H := HA.out
    clear HA
    simp only [L2_CongrMeet.j2] at H
    by_cases c133 : x89_122 = true
    ·subst c133
     have H1 : (if t251.isNone = true then (some true) else (none)) = some r := by rw [if_pos rfl] at H; exact H
     clear H
     have H := H1
     clear H1
     rcases t251 with _ | q259
     ·have H1 : (some true) = some r := by rw [if_pos (show (none : Option Int).isNone = true by rfl)] at H; exact H
      clear H
      have H := H1
      clear H1
      try simp only [errW_none, errW_some]
      as_aux_lemma =>
       obtain rfl := Option.some.inj H
       go_wp2
       go_ret
       exact ⟨pe, pw⟩
     have H1 : (none) = some r := by rw [if_neg (show ¬ (some q259).isNone = true by simp)] at H; exact H
     clear H
     have H := H1
     clear H1
     try simp only [errW_none, errW_some]
     exact absurd H (by simp)
    replace c133 := Bool.eq_false_iff.mpr c133
    subst c133
    have H1 : (L2_CongrMeet.l0 kj122 t250 t251 ([] : List Int) 0 a0_0 a0_1 a1_0 a1_1 t248 t249) = some r := by rw [if_neg (show ¬ (false = true) by decide)] at H; exact H
    clear H
    have H := H1
    clear H1
    have H' := am H
    clear H
    go_wp2
    go_loopg [13, 14] kj122 (fun kq v13 v14 w' => ∃ (x13_3 : List Int) (x14_3 : Int), v14 = .int .i64 x14_3 ∧ Aside0 (L2_CongrMeet.l0 kq t250 t251 x13_3 x14_3 a0_0 a0_1 a1_0 a1_1 t248 t249 = some r) ∧ Aside0 (kq ≤ kj122) ∧ Aside0 (Kd.R (Kd.int .i64) 3 w' w.heap.size (fun _ => True) v13 x13_3) ∧ Aside0 (w'.heap[gb240]? = some (.cells #[.int .i64 a0_0, .int .i64 a0_1] 32 (0, 0))) ∧ Aside0 (w'.heap[gb241]? = some (.cells #[.int .i64 a1_0, .int .i64 a1_1] 32 (0, 0))) ∧ Aside0 (w'.heap[gb252]? = some (.cells #[.int .i64 t248, .int .i64 t249] 34 (0, 0))) ∧ Aside0 (Below w.heap.size w w'))
    case atStart => exact ⟨(([] : List Int)), (0), pr, H', ⟨Nat.le_refl _⟩, ⟨by first | exact Kd.R_nil _ _ _ _ _ | exact Kd.N_nil _ _ _ _ _ | exact Kd.V_nil _ _ _ _ _ | exact Kd.Q_nil _ _ _ _ _ | exact Kd.S_nil _ _ _ _ _⟩, ⟨by (with_reducible repeat (first | refine blk_drewN ?_ _ | refine blk_drew ?_ | refine blk_alloc ?_ _)); exact BK240.out⟩, ⟨by (with_reducible repeat (first | refine blk_drewN ?_ _ | refine blk_drew ?_ | refine blk_alloc ?_ _)); exact BK241.out⟩, ⟨by (with_reducible repeat (first | refine blk_drewN ?_ _ | refine blk_drew ?_ | refine blk_alloc ?_ _)); exact BK252.out⟩, ⟨pw⟩⟩
    case round =>
     clear H'
     try clear c1
     try clear c2
     try clear p2
     try clear q2
     try clear c3
     try clear c4
     try clear c5
     try clear c6
     try clear c7
     try clear c8
     try clear c9
     try clear c9b0
     try clear c10
     try clear c11
     try clear c12
     try clear c13
     try clear c18
     try clear c19
     try clear c20
     try clear c21
     try clear c23
     try clear q25
     try clear c27
     try clear c28
     try clear c35
     try clear c47
     try clear c47b0
     try clear c47b1
     try clear c48
     try clear c49
     try clear c51
     try clear c52
     try clear c54
     try clear c56
     try clear c58
     try clear c59
     try clear c62
     try clear c63
     try clear c64
     try clear c66
     try clear c69
     try clear c70
     try clear c71
     try clear c72
     try clear c75
     try clear c75b0
     try clear c75b1
     try clear c76
     try clear c77
     try clear c78
     try clear c79
     try clear c81
     try clear c82
     try clear c83
     try clear c85
     try clear c86
     try clear c88
     try clear c91
     try clear c92
     try clear c94
     try clear c95
     try clear c96
     try clear c97
     try clear c99
     try clear c100
     try clear c101
     try clear c104
     try clear c105
     try clear c109
     try clear c110
     try clear c111
     try clear c112
     try clear c113
     try clear c115
     try clear c116
     try clear c117
     try clear c120
     try clear c121
     try clear c124
     try clear c124b0
     try clear c125
     try clear c126
     try clear c128
     try clear c129
     try clear c131
     try clear c133
     try clear hcz102_0
     try clear hcz102_1
     try clear hcz106_0
     try clear hcz106_1
     try clear hcz107_0
     try clear hcz107_1
     try clear hcz114_0
     try clear hcz114_1
     try clear hcz118_0
     try clear hcz118_1
     try clear hcz122_0
     try clear hcz122_1
     try clear hcz127_0
     try clear hcz127_1
     try clear hcz130_0
     try clear hcz130_1
     try clear hcz132_0
     try clear hcz132_1
     try clear hcz29_0
     try clear hcz29_1
     try clear hcz36_0
     try clear hcz36_1
     try clear hcz37_0
     try clear hcz37_1
     try clear hcz50_0
     try clear hcz50_1
     try clear hcz53_0
     try clear hcz53_1
     try clear hcz55_0
     try clear hcz55_1
     try clear hcz60_0
     try clear hcz60_1
     try clear hcz65_0
     try clear hcz65_1
     try clear hcz67_0
     try clear hcz67_1
     try clear hcz73_0
     try clear hcz73_1
     try clear hcz74_0
     try clear hcz74_1
     try clear hcz80_0
     try clear hcz80_1
     try clear hcz84_0
     try clear hcz84_1
     try clear hcz87_0
     try clear hcz87_1
     try clear hcz89_0
     try clear hcz89_1
     try clear hcz98_0
     try clear hcz98_1
     try clear hfz102_0
     try clear hfz102_1
     try clear hfz106_0
     try clear hfz106_1
     try clear hfz107_0
     try clear hfz107_1
     try clear hfz114_0
     try clear hfz114_1
     try clear hfz118_0
     try clear hfz118_1
     try clear hfz122_0
     try clear hfz122_1
     try clear hfz127_0
     try clear hfz127_1
     try clear hfz130_0
     try clear hfz130_1
     try clear hfz132_0
     try clear hfz132_1
     try clear hfz29_0
     try clear hfz29_1
     try clear hfz36_0
     try clear hfz36_1
     try clear hfz37_0
     try clear hfz37_1
     try clear hfz50_0
     try clear hfz50_1
     try clear hfz53_0
     try clear hfz53_1
     try clear hfz55_0
     try clear hfz55_1
     try clear hfz60_0
     try clear hfz60_1
     try clear hfz65_0
     try clear hfz65_1
     try clear hfz67_0
     try clear hfz67_1
     try clear hfz73_0
     try clear hfz73_1
     try clear hfz74_0
     try clear hfz74_1
     try clear hfz80_0
     try clear hfz80_1
     try clear hfz84_0
     try clear hfz84_1
     try clear hfz87_0
     try clear hfz87_1
     try clear hfz89_0
     try clear hfz89_1
     try clear hfz98_0
     try clear hfz98_1
     try clear p2
     try clear q2
     try clear q25
     try clear q258
     try clear q259
     obtain ⟨x13_3, x14_3, rfl, HA, HK3, HO_13, BK240, BK241, BK252, HB⟩ := hrel
     cases gk with
     | zero => exact absurd HA.out (by simp [L2_CongrMeet.l0])
     | succ k3 =>
      have H := HA.out
      clear HA
      simp only [L2_CongrMeet.l0] at H
      by_cases c134 : x14_3 ≤ (wrap64 (2 * a1_1))
      ·rw [if_pos c134] at H
       have c134b0 : decide (x14_3 ≤ (wrap64 (2 * a1_1))) = true := decide_eq_true c134
       clear c134
       replace H := Option.bind_eq_some_iff.mp H
       obtain ⟨t260, A1350, H⟩ := H
       replace H : (if t260 = true then (if x13_3.length < 17592186044416 then (L2_CongrMeet.l0 k3 t250 t251 (x13_3 ++ [wrap64 (a0_0 + (wrap64 (x14_3 * a0_1)))]) (wrap64 (x14_3 + 1)) a0_0 a0_1 a1_0 a1_1 t248 t249) else (none)) else (L2_CongrMeet.l0 k3 t250 t251 x13_3 (wrap64 (x14_3 + 1)) a0_0 a0_1 a1_0 a1_1 t248 t249)) = some r := H
       have A135 := am A1350
       clear A1350
       by_cases c136 : t260 = true
       ·subst c136
        have H1 : (if x13_3.length < 17592186044416 then (L2_CongrMeet.l0 k3 t250 t251 (x13_3 ++ [wrap64 (a0_0 + (wrap64 (x14_3 * a0_1)))]) (wrap64 (x14_3 + 1)) a0_0 a0_1 a1_0 a1_1 t248 t249) else (none)) = some r := by rw [if_pos rfl] at H; exact H
        clear H
        have H := H1
        clear H1
        by_cases c137 : x13_3.length < 17592186044416
        ·rw [if_pos c137] at H
         have LMc137 := am c137
         clear c137
         obtain ⟨y261, hy261⟩ : ∃ y_ : List Int, y_ = (x13_3 ++ [wrap64 (a0_0 + (wrap64 (x14_3 * a0_1)))]) := ⟨_, rfl⟩
         replace H : (L2_CongrMeet.l0 k3 t250 t251 y261 (wrap64 (x14_3 + 1)) a0_0 a0_1 a1_0 a1_1 t248 t249) = some r := by first | (rw [hy261]; with_reducible exact H) | (have H2_ := (Option.bind_some _ _).symm.trans H; rw [hy261]; with_reducible exact H2_) | (have H2_ := (Option.bind_some _ _).symm.trans H; with_reducible exact H2_) | with_reducible exact H | (rw [hy261]; exact H) | exact H
         have Ny261 := am hy261
         clear hy261
         as_aux_lemma =>
          have H' := am H
          clear H
          have hnb138 := NB241_240.out
          have hnc138 := NB240_241.out
          have hnb139 := NB241_252.out
          have hnc139 := NB252_241.out
          have hcz140_0 : wr.cell? ⟨gb241, 0, none⟩ = some (.int .i64 a1_0) := bc BK241 0
          have hcz140_1 : wr.cell? ⟨gb241, 1, none⟩ = some (.int .i64 a1_1) := bc BK241 1
          have hfz140_0 := blk_frozen BK241.out 0
          have hfz140_1 := blk_frozen BK241.out 1
          have hnb141 := NB240_252.out
          have hnc141 := NB252_240.out
          have hcz142_0 : wr.cell? ⟨gb240, 0, none⟩ = some (.int .i64 a0_0) := bc BK240 0
          have hcz142_1 : wr.cell? ⟨gb240, 1, none⟩ = some (.int .i64 a0_1) := bc BK240 1
          have hfz142_0 := blk_frozen BK240.out 0
          have hfz142_1 := blk_frozen BK240.out 1
          go_wp2_with (first | ((with_reducible refine gate_callee (f := 23) rfl ?_); refine goesL_ (some 108) rfl rfl Tryd.func23 kk rfl #[.agg #[.int .i64 a1_0, .int .i64 a1_1], .int .i64 (wrap64 (a0_0 + (wrap64 (x14_3 * a0_1))))] rfl (by (try simp only [List.map_toArray, List.map_cons, List.map_nil]); first | done | rfl | (simp only [List.length_drop, List.length_take]; rfl)) ?_; (with_reducible refine (R2_LeavesOf.calls a1_0 a1_1 (wrap64 (a0_0 + (wrap64 (x14_3 * a0_1)))) true _ A135.out).mono ?_); rintro e w143 ⟨rfl, hb⟩; refine ⟨_, rfl, ?_⟩; have n0_ := am (Kd.R_below (by (with_reducible repeat (first | apply Kd.R_alloc | apply Kd.R_drewN | apply Kd.R_drew)); exact HO_13.out) hb); have n1_ := bb BK240 hb; have n2_ := bb BK241 hb; have n3_ := bb BK252 hb; have n4_ := am (below_step pw hb); clear HO_13; clear BK240; clear BK241; clear BK252; clear HB; have HO_13 := n0_; have BK240 := n1_; have BK241 := n2_; have BK252 := n3_; have HB := n4_; clear n0_ n1_ n2_ n3_ n4_; (try clear hb); (try clear hb2); (try clear hk); (try clear hi)) | ((with_reducible refine gate_builtin (b := .append) (xs := #[.tmp 109, .tmp 111]) rfl ?_); at_builtin; refine Kd.R_append (Kd.int .i64) (w0 := w) w.heap.size rfl (.tmp 109) (.tmp 111) 40 3 (.int .i64 0) 8 rfl Tryd.underlying40 info3 rfl (by decide) (by omega) u13 x13_3 (wrap64 (a0_0 + (wrap64 (x14_3 * a0_1)))) [.int .i64 (wrap64 (a0_0 + (wrap64 (x14_3 * a0_1))))] (fun _ => True) (fun _ => False) rfl rfl ?aP (fun _ hk => hk.elim) ?aF ?aO ?aB ?aS ?aL ?_; (case aP => exact rfl); (case aB => exact pw); (case aF => exact (fun _ _ => trivial)); (case aO => exact (by (with_reducible repeat (first | apply Kd.R_alloc | apply Kd.R_drewN | apply Kd.R_drew)); exact HO_13.out)); (case aS => exact (below_size pw)); (case aL => have := LMc137.out; omega); intro v262 w144 ho hb hg hat; rw [← Ny261.out] at ho; have n0_ := am (blk_grown (g := gb240) (o := .cells #[.int .i64 a0_0, .int .i64 a0_1] 32 (0, 0)) pk hg (Kd.R_ne HO_13.out BK240.out (by decide))); have n1_ := am (blk_grown (g := gb241) (o := .cells #[.int .i64 a1_0, .int .i64 a1_1] 32 (0, 0)) pk hg (Kd.R_ne HO_13.out BK241.out (by decide))); have n2_ := am (blk_grown (g := gb252) (o := .cells #[.int .i64 t248, .int .i64 t249] 34 (0, 0)) pk hg (Kd.R_ne HO_13.out BK252.out (by decide))); have n3_ := am (hb); have n4_ := am (ho); clear BK240; clear BK241; clear BK252; clear HB; clear HO_13; have BK240 := n0_; have BK241 := n1_; have BK252 := n2_; have HB := n3_; have HO263 := n4_; clear n0_ n1_ n2_ n3_ n4_; clear ho hb hg hat))
          go_roundg k3
          case measure => have := HJ30.out; have := HJ122.out; have := HK3.out; omega
          case rel => exact ⟨(y261), (wrap64 (x14_3 + 1)), pr, H', ⟨by have := HJ30.out; have := HJ122.out; have := HK3.out; omega⟩, ⟨by (with_reducible repeat (first | apply Kd.R_alloc | apply Kd.R_drewN | apply Kd.R_drew)); exact HO263.out⟩, ⟨by (with_reducible repeat (first | refine blk_drewN ?_ _ | refine blk_drew ?_ | refine blk_alloc ?_ _)); exact BK240.out⟩, ⟨by (with_reducible repeat (first | refine blk_drewN ?_ _ | refine blk_drew ?_ | refine blk_alloc ?_ _)); exact BK241.out⟩, ⟨by (with_reducible repeat (first | refine blk_drewN ?_ _ | refine blk_drew ?_ | refine blk_alloc ?_ _)); exact BK252.out⟩, ⟨pw⟩⟩
        rw [if_neg c137] at H
        exact absurd H (by simp)
       replace c136 := Bool.eq_false_iff.mpr c136
       subst c136
       have H1 : (L2_CongrMeet.l0 k3 t250 t251 x13_3 (wrap64 (x14_3 + 1)) a0_0 a0_1 a1_0 a1_1 t248 t249) = some r := by rw [if_neg (show ¬ (false = true) by decide)] at H; exact H
       clear H
       have H := H1
       clear H1
       as_aux_lemma =>
        have H' := am H
        clear H
        have hnb145 := NB241_240.out
        have hnc145 := NB240_241.out
        have hnb146 := NB241_252.out
        have hnc146 := NB252_241.out
        have hcz147_0 : wr.cell? ⟨gb241, 0, none⟩ = some (.int .i64 a1_0) := bc BK241 0
        have hcz147_1 : wr.cell? ⟨gb241, 1, none⟩ = some (.int .i64 a1_1) := bc BK241 1
        have hfz147_0 := blk_frozen BK241.out 0
        have hfz147_1 := blk_frozen BK241.out 1
        have hnb148 := NB240_252.out
        have hnc148 := NB252_240.out
        have hcz149_0 : wr.cell? ⟨gb240, 0, none⟩ = some (.int .i64 a0_0) := bc BK240 0
        have hcz149_1 : wr.cell? ⟨gb240, 1, none⟩ = some (.int .i64 a0_1) := bc BK240 1
        have hfz149_0 := blk_frozen BK240.out 0
        have hfz149_1 := blk_frozen BK240.out 1
        go_wp2_with (first | ((with_reducible refine gate_callee (f := 23) rfl ?_); refine goesL_ (some 108) rfl rfl Tryd.func23 kk rfl #[.agg #[.int .i64 a1_0, .int .i64 a1_1], .int .i64 (wrap64 (a0_0 + (wrap64 (x14_3 * a0_1))))] rfl (by (try simp only [List.map_toArray, List.map_cons, List.map_nil]); first | done | rfl | (simp only [List.length_drop, List.length_take]; rfl)) ?_; (with_reducible refine (R2_LeavesOf.calls a1_0 a1_1 (wrap64 (a0_0 + (wrap64 (x14_3 * a0_1)))) false _ A135.out).mono ?_); rintro e w150 ⟨rfl, hb⟩; refine ⟨_, rfl, ?_⟩; have n0_ := am (Kd.R_below (by (with_reducible repeat (first | apply Kd.R_alloc | apply Kd.R_drewN | apply Kd.R_drew)); exact HO_13.out) hb); have n1_ := bb BK240 hb; have n2_ := bb BK241 hb; have n3_ := bb BK252 hb; have n4_ := am (below_step pw hb); clear HO_13; clear BK240; clear BK241; clear BK252; clear HB; have HO_13 := n0_; have BK240 := n1_; have BK241 := n2_; have BK252 := n3_; have HB := n4_; clear n0_ n1_ n2_ n3_ n4_; (try clear hb); (try clear hb2); (try clear hk); (try clear hi)))
        go_roundg k3
        case measure => have := HJ30.out; have := HJ122.out; have := HK3.out; omega
        case rel => exact ⟨(x13_3), (wrap64 (x14_3 + 1)), pr, H', ⟨by have := HJ30.out; have := HJ122.out; have := HK3.out; omega⟩, ⟨by (with_reducible repeat (first | apply Kd.R_alloc | apply Kd.R_drewN | apply Kd.R_drew)); exact HO_13.out⟩, ⟨by (with_reducible repeat (first | refine blk_drewN ?_ _ | refine blk_drew ?_ | refine blk_alloc ?_ _)); exact BK240.out⟩, ⟨by (with_reducible repeat (first | refine blk_drewN ?_ _ | refine blk_drew ?_ | refine blk_alloc ?_ _)); exact BK241.out⟩, ⟨by (with_reducible repeat (first | refine blk_drewN ?_ _ | refine blk_drew ?_ | refine blk_alloc ?_ _)); exact BK252.out⟩, ⟨pw⟩⟩
      rw [if_neg c134] at H
      have c134b0 : decide (x14_3 ≤ (wrap64 (2 * a1_1))) = false := decide_eq_false c134
      clear c134
      by_cases c151 : (x13_3.length : Int) = 0
      ·rw [if_pos c151] at H
       have c151b0 : ((x13_3.length : Int) == 0) = true := beq_iff_eq.mpr c151
       have c151b1 : ((x13_3.length : Int) != 0) = false := bne_eq_false_iff_eq.mpr c151
       clear c151
       rcases t251 with _ | q264
       ·have H1 : (if t250 = true then (none) else (some (t248 == 0 && (t249 == 0)))) = some r := by rw [if_pos (show (none : Option Int).isNone = true by rfl)] at H; exact H
        clear H
        have H := H1
        clear H1
        try simp only [errW_none, errW_some]
        by_cases c152 : t250 = true
        ·subst c152
         have H1 : (none) = some r := by rw [if_pos rfl] at H; exact H
         clear H
         have H := H1
         clear H1
         exact absurd H (by simp)
        replace c152 := Bool.eq_false_iff.mpr c152
        subst c152
        have H1 : (some (t248 == 0 && (t249 == 0))) = some r := by rw [if_neg (show ¬ (false = true) by decide)] at H; exact H
        clear H
        have H := H1
        clear H1
        as_aux_lemma =>
         obtain rfl := Option.some.inj H
         have hnb153 := NB241_240.out
         have hnc153 := NB240_241.out
         have hnb154 := NB241_252.out
         have hnc154 := NB252_241.out
         have hcz155_0 : wr.cell? ⟨gb241, 0, none⟩ = some (.int .i64 a1_0) := bc BK241 0
         have hcz155_1 : wr.cell? ⟨gb241, 1, none⟩ = some (.int .i64 a1_1) := bc BK241 1
         have hfz155_0 := blk_frozen BK241.out 0
         have hfz155_1 := blk_frozen BK241.out 1
         obtain ⟨Ao156, co156, eo156⟩ := Kd.R_slice HO_13.out
         subst eo156
         have hnb157 := NB252_240.out
         have hnc157 := NB240_252.out
         have hcz158_0 : wr.cell? ⟨gb252, 0, none⟩ = some (.int .i64 t248) := bc BK252 0
         have hcz158_1 : wr.cell? ⟨gb252, 1, none⟩ = some (.int .i64 t249) := bc BK252 1
         have hfz158_0 := blk_frozen BK252.out 0
         have hfz158_1 := blk_frozen BK252.out 1
         go_wp2
         go_ret
         exact ⟨pe, pw⟩
       have H1 : (none) = some r := by rw [if_neg (show ¬ (some q264).isNone = true by simp)] at H; exact H
       clear H
       have H := H1
       clear H1
       try simp only [errW_none, errW_some]
       exact absurd H (by simp)
      rw [if_neg c151] at H
      have c151b0 : ((x13_3.length : Int) == 0) = false := beq_eq_false_iff_ne.mpr c151
      have c151b1 : ((x13_3.length : Int) != 0) = true := bne_iff_ne.mpr c151
      have c151b2 : ¬ (x13_3 = []) := fun h_ => c151 (by rw [h_]; rfl)
      replace H := Option.bind_eq_some_iff.mp H
      obtain ⟨⟨t265, t266⟩, A1590, H⟩ := H
      replace H : (if (t265 == 0 && (t266 == 1)) = true then (if a0_1 = 1 then (if a1_1 = 1 then (if t250 = true then ((L2_isCongr.f t248 t249 t251 t265 t266 0).bind fun t268 => (some t268)) else (none)) else (if t250 = true then ((L2_isCongr.f t248 t249 t251 a0_0 a0_1 0).bind fun t269 => (some t269)) else (none))) else (if t250 = true then ((L2_isCongr.f t248 t249 t251 a0_0 a0_1 0).bind fun t270 => (some t270)) else (none))) else (if t250 = true then ((L2_isCongr.f t248 t249 t251 t265 t266 0).bind fun t271 => (some t271)) else (none))) = some r := H
      have A159 := am A1590
      clear A1590
      by_cases c160 : (t265 == 0 && (t266 == 1)) = true
      ·rw [if_pos c160] at H
       have c160b0 : (t265 == 0 && (t266 == 1)) = true := c160
       (try (have c160b1 : decide (t265 = 0 && (t266 == 1)) = true := by simpa using c160))
       (try (have c160b2 : (t265 == 0 && (t266 == 1)) = true := by simpa using c160))
       clear c160
       by_cases c161 : a0_1 = 1
       ·rw [if_pos c161] at H
        have c161b0 : (a0_1 == 1) = true := beq_iff_eq.mpr c161
        have c161b1 : (a0_1 != 1) = false := bne_eq_false_iff_eq.mpr c161
        clear c161
        by_cases c162 : a1_1 = 1
        ·rw [if_pos c162] at H
         have c162b0 : (a1_1 == 1) = true := beq_iff_eq.mpr c162
         have c162b1 : (a1_1 != 1) = false := bne_eq_false_iff_eq.mpr c162
         clear c162
         by_cases c163 : t250 = true
         ·subst c163
          have H1 : ((L2_isCongr.f t248 t249 t251 t265 t266 0).bind fun t268 => (some t268)) = some r := by rw [if_pos rfl] at H; exact H
          clear H
          have H := H1
          clear H1
          replace H := Option.bind_eq_some_iff.mp H
          obtain ⟨t268, A1640, H⟩ := H
          replace H : (some t268) = some r := H
          have A164 := am A1640
          clear A1640
          as_aux_lemma =>
           obtain rfl := Option.some.inj H
           have hnb165 := NB241_240.out
           have hnc165 := NB240_241.out
           have hnb166 := NB241_252.out
           have hnc166 := NB252_241.out
           have hcz167_0 : wr.cell? ⟨gb241, 0, none⟩ = some (.int .i64 a1_0) := bc BK241 0
           have hcz167_1 : wr.cell? ⟨gb241, 1, none⟩ = some (.int .i64 a1_1) := bc BK241 1
           have hfz167_0 := blk_frozen BK241.out 0
           have hfz167_1 := blk_frozen BK241.out 1
           obtain ⟨Ao168, co168, eo168⟩ := Kd.R_slice HO_13.out
           subst eo168
           go_wp2_with (first | ((with_reducible refine gate_callee (f := 24) rfl ?_); refine goesL_ (some 128) rfl rfl Tryd.func24 kk rfl #[.slice Ao168 x13_3.length co168] rfl (by (try simp only [List.map_toArray, List.map_cons, List.map_nil]); first | done | rfl | (simp only [List.length_drop, List.length_take]; rfl)) ?_; (with_reducible refine (R2_LeastOf.calls k3 _ _ x13_3 t265 t266 _ ?side1 ?side2 A159.out).mono ?_); (case side1 => repeat (first | exact (Kd.R_reads' HO_13.out).2.2 | (with_reducible refine Kd.C_alloc ?_ _) | (with_reducible refine Kd.C_drewN ?_ _) | (with_reducible refine Kd.C_drew ?_))); (case side2 => exact (Kd.R_reads' HO_13.out).2.1); rintro e w169 ⟨rfl, hb⟩; refine ⟨_, rfl, ?_⟩; have n0_ := am (Kd.R_below (by (with_reducible repeat (first | apply Kd.R_alloc | apply Kd.R_drewN | apply Kd.R_drew)); exact HO_13.out) hb); have n1_ := bb BK240 hb; have n2_ := bb BK241 hb; have n3_ := bb BK252 hb; have n4_ := am (below_step pw hb); clear HO_13; clear BK240; clear BK241; clear BK252; clear HB; have HO_13 := n0_; have BK240 := n1_; have BK241 := n2_; have BK252 := n3_; have HB := n4_; clear n0_ n1_ n2_ n3_ n4_; (try clear hb); (try clear hb2); (try clear hk); (try clear hi)) | ((with_reducible refine gate_dst (N := 16) rfl ?_); refine box_event ?hg (N := 16) ?hd (cs := #[.int .i64 0, .int .i64 0]) (t := 32) ?hr ?_; (case hd => rfl); (case hg => rfl); (case hr => first | (go_simp; done) | (go_simp; rfl)); intro gb267 hg w170 hbox hb; have n0_ := am (Kd.R_below (by (with_reducible repeat (first | apply Kd.R_alloc | apply Kd.R_drewN | apply Kd.R_drew)); exact HO_13.out) hb); have n1_ := bb BK240 hb; have n2_ := bb BK241 hb; have n3_ := bb BK252 hb; have n4_ := am (below_step pw hb); have n5_ := am (hbox); have n6_ := am ((by rw [hg]; exact (below_size pw) : w.heap.size ≤ gb267)); have n7_ := am ((by rw [hg]; exact (below_size pw) : w.heap.size ≤ gb267)); have n8_ := am ((by rw [hg]; exact Nat.ne_of_lt (blk_lt pk) : gb240 ≠ gb267)); have n9_ := am ((by rw [hg]; exact Nat.ne_of_gt (blk_lt pk) : gb267 ≠ gb240)); have n10_ := am ((by rw [hg]; exact Nat.ne_of_lt (blk_lt pk) : gb241 ≠ gb267)); have n11_ := am ((by rw [hg]; exact Nat.ne_of_gt (blk_lt pk) : gb267 ≠ gb241)); have n12_ := am ((by rw [hg]; exact Nat.ne_of_lt (blk_lt pk) : gb252 ≠ gb267)); have n13_ := am ((by rw [hg]; exact Nat.ne_of_gt (blk_lt pk) : gb267 ≠ gb252)); clear HO_13; clear BK240; clear BK241; clear BK252; clear HB; have HO_13 := n0_; have BK240 := n1_; have BK241 := n2_; have BK252 := n3_; have HB := n4_; have BK267 := n5_; have GW267 := n6_; have GE267 := n7_; have NB240_267 := n8_; have NB267_240 := n9_; have NB241_267 := n10_; have NB267_241 := n11_; have NB252_267 := n12_; have NB267_252 := n13_; clear n0_ n1_ n2_ n3_ n4_ n5_ n6_ n7_ n8_ n9_ n10_ n11_ n12_ n13_; clear hb hbox hg; have hnb171 := NB267_240.out; have hnc171 := NB240_267.out; have hnb172 := NB267_241.out; have hnc172 := NB241_267.out; have hnb173 := NB267_252.out; have hnc173 := NB252_267.out; have hcz174_0 : w170.cell? ⟨gb267, 0, none⟩ = some (.int .i64 0) := bc BK267 0; have hcz174_1 : w170.cell? ⟨gb267, 1, none⟩ = some (.int .i64 0) := bc BK267 1; have hfz174_0 := blk_frozen BK267.out 0; have hfz174_1 := blk_frozen BK267.out 1; have hnb175 := NB240_252.out; have hnc175 := NB252_240.out; have hcz176_0 : w170.cell? ⟨gb240, 0, none⟩ = some (.int .i64 a0_0) := bc BK240 0; have hcz176_1 : w170.cell? ⟨gb240, 1, none⟩ = some (.int .i64 a0_1) := bc BK240 1; have hfz176_0 := blk_frozen BK240.out 0; have hfz176_1 := blk_frozen BK240.out 1; have hcz177_0 : w170.cell? ⟨gb241, 0, none⟩ = some (.int .i64 a1_0) := bc BK241 0; have hcz177_1 : w170.cell? ⟨gb241, 1, none⟩ = some (.int .i64 a1_1) := bc BK241 1; have hfz177_0 := blk_frozen BK241.out 0; have hfz177_1 := blk_frozen BK241.out 1; have hcz178_0 : w170.cell? ⟨gb252, 0, none⟩ = some (.int .i64 t248) := bc BK252 0; have hcz178_1 : w170.cell? ⟨gb252, 1, none⟩ = some (.int .i64 t249) := bc BK252 1; have hfz178_0 := blk_frozen BK252.out 0; have hfz178_1 := blk_frozen BK252.out 1; have CA164 := fun (W : World) (hE9_ : ErrAll W) => L2_isCongr.calls t248 t249 t251 t265 t266 0 t268 W A164.out hE9_; try simp only [errW_none, errW_some] at CA164) | (go_at_call 22; (with_reducible refine (CA164 _ (ErrAll.below hE9.out pw)).mono ?_); rintro e w179 ⟨rfl, hb⟩; have n0_ := am (Kd.R_below (by (with_reducible repeat (first | apply Kd.R_alloc | apply Kd.R_drewN | apply Kd.R_drew)); exact (Kd.R_mono (Kd.R_far (p := ⟨gb267, 1, none⟩) (Kd.R_far (p := ⟨gb267, 0, none⟩) (Kd.R_types HO_13.out BK267.out (by decide)) (fun _ hk => hk.2) (.int .i64 t265)) (fun _ hk => hk.2) (.int .i64 t266)) (fun _ h_ => h_.1))) hb); have n1_ := am (blk_below (g := gb240) (o := .cells #[.int .i64 a0_0, .int .i64 a0_1] 32 (0, 0)) (by (with_reducible repeat (first | refine blk_drewN ?_ _ | refine blk_drew ?_ | refine blk_alloc ?_ _)); refine blk_far ?_ NB240_267.out _; (with_reducible repeat (first | refine blk_drewN ?_ _ | refine blk_drew ?_ | refine blk_alloc ?_ _)); refine blk_far ?_ NB240_267.out _; (with_reducible repeat (first | refine blk_drewN ?_ _ | refine blk_drew ?_ | refine blk_alloc ?_ _)); exact BK240.out) hb); have n2_ := am (blk_below (g := gb241) (o := .cells #[.int .i64 a1_0, .int .i64 a1_1] 32 (0, 0)) (by (with_reducible repeat (first | refine blk_drewN ?_ _ | refine blk_drew ?_ | refine blk_alloc ?_ _)); refine blk_far ?_ NB241_267.out _; (with_reducible repeat (first | refine blk_drewN ?_ _ | refine blk_drew ?_ | refine blk_alloc ?_ _)); refine blk_far ?_ NB241_267.out _; (with_reducible repeat (first | refine blk_drewN ?_ _ | refine blk_drew ?_ | refine blk_alloc ?_ _)); exact BK241.out) hb); have n3_ := am (blk_below (g := gb252) (o := .cells #[.int .i64 t248, .int .i64 t249] 34 (0, 0)) (by (with_reducible repeat (first | refine blk_drewN ?_ _ | refine blk_drew ?_ | refine blk_alloc ?_ _)); refine blk_far ?_ NB252_267.out _; (with_reducible repeat (first | refine blk_drewN ?_ _ | refine blk_drew ?_ | refine blk_alloc ?_ _)); refine blk_far ?_ NB252_267.out _; (with_reducible repeat (first | refine blk_drewN ?_ _ | refine blk_drew ?_ | refine blk_alloc ?_ _)); exact BK252.out) hb); have n4_ := am (blk_below (g := gb267) (o := .cells #[.int .i64 t265, .int .i64 t266] 32 (0, 0)) (by (with_reducible repeat (first | refine blk_drewN ?_ _ | refine blk_drew ?_ | refine blk_alloc ?_ _)); refine blk_put (cs := #[.int .i64 t265, .int .i64 0]) ?_ 1 _ rfl; (with_reducible repeat (first | refine blk_drewN ?_ _ | refine blk_drew ?_ | refine blk_alloc ?_ _)); refine blk_put (cs := #[.int .i64 0, .int .i64 0]) ?_ 0 _ rfl; (with_reducible repeat (first | refine blk_drewN ?_ _ | refine blk_drew ?_ | refine blk_alloc ?_ _)); exact BK267.out) hb); have n5_ := am (below_step pw hb); clear HO_13; clear BK240; clear BK241; clear BK252; clear BK267; clear HB; have HO_13 := n0_; have BK240 := n1_; have BK241 := n2_; have BK252 := n3_; have BK267 := n4_; have HB := n5_; clear n0_ n1_ n2_ n3_ n4_ n5_; (try clear hb); (try clear hb2); (try clear hk); (try clear hi)))
           go_ret
           exact ⟨pe, pw⟩
         replace c163 := Bool.eq_false_iff.mpr c163
         subst c163
         have H1 : (none) = some r := by rw [if_neg (show ¬ (false = true) by decide)] at H; exact H
         clear H
         have H := H1
         clear H1
         exact absurd H (by simp)
        rw [if_neg c162] at H
        have c162b0 : (a1_1 == 1) = false := beq_eq_false_iff_ne.mpr c162
        have c162b1 : (a1_1 != 1) = true := bne_iff_ne.mpr c162
        by_cases c180 : t250 = true
        ·subst c180
         have H1 : ((L2_isCongr.f t248 t249 t251 a0_0 a0_1 0).bind fun t269 => (some t269)) = some r := by rw [if_pos rfl] at H; exact H
         clear H
         have H := H1
         clear H1
         replace H := Option.bind_eq_some_iff.mp H
         obtain ⟨t269, A1810, H⟩ := H
         replace H : (some t269) = some r := H
         have A181 := am A1810
         clear A1810
         as_aux_lemma =>
          obtain rfl := Option.some.inj H
          have hnb182 := NB241_240.out
          have hnc182 := NB240_241.out
          have hnb183 := NB241_252.out
          have hnc183 := NB252_241.out
          have hcz184_0 : wr.cell? ⟨gb241, 0, none⟩ = some (.int .i64 a1_0) := bc BK241 0
          have hcz184_1 : wr.cell? ⟨gb241, 1, none⟩ = some (.int .i64 a1_1) := bc BK241 1
          have hfz184_0 := blk_frozen BK241.out 0
          have hfz184_1 := blk_frozen BK241.out 1
          obtain ⟨Ao185, co185, eo185⟩ := Kd.R_slice HO_13.out
          subst eo185
          go_wp2_with (first | ((with_reducible refine gate_callee (f := 24) rfl ?_); refine goesL_ (some 128) rfl rfl Tryd.func24 kk rfl #[.slice Ao185 x13_3.length co185] rfl (by (try simp only [List.map_toArray, List.map_cons, List.map_nil]); first | done | rfl | (simp only [List.length_drop, List.length_take]; rfl)) ?_; (with_reducible refine (R2_LeastOf.calls k3 _ _ x13_3 t265 t266 _ ?side1 ?side2 A159.out).mono ?_); (case side1 => repeat (first | exact (Kd.R_reads' HO_13.out).2.2 | (with_reducible refine Kd.C_alloc ?_ _) | (with_reducible refine Kd.C_drewN ?_ _) | (with_reducible refine Kd.C_drew ?_))); (case side2 => exact (Kd.R_reads' HO_13.out).2.1); rintro e w186 ⟨rfl, hb⟩; refine ⟨_, rfl, ?_⟩; have n0_ := am (Kd.R_below (by (with_reducible repeat (first | apply Kd.R_alloc | apply Kd.R_drewN | apply Kd.R_drew)); exact HO_13.out) hb); have n1_ := bb BK240 hb; have n2_ := bb BK241 hb; have n3_ := bb BK252 hb; have n4_ := am (below_step pw hb); clear HO_13; clear BK240; clear BK241; clear BK252; clear HB; have HO_13 := n0_; have BK240 := n1_; have BK241 := n2_; have BK252 := n3_; have HB := n4_; clear n0_ n1_ n2_ n3_ n4_; (try clear hb); (try clear hb2); (try clear hk); (try clear hi)) | ((with_reducible refine gate_dst (N := 16) rfl ?_); refine box_event ?hg (N := 16) ?hd (cs := #[.int .i64 0, .int .i64 0]) (t := 32) ?hr ?_; (case hd => rfl); (case hg => rfl); (case hr => first | (go_simp; done) | (go_simp; rfl)); intro gb267 hg w187 hbox hb; have n0_ := am (Kd.R_below (by (with_reducible repeat (first | apply Kd.R_alloc | apply Kd.R_drewN | apply Kd.R_drew)); exact HO_13.out) hb); have n1_ := bb BK240 hb; have n2_ := bb BK241 hb; have n3_ := bb BK252 hb; have n4_ := am (below_step pw hb); have n5_ := am (hbox); have n6_ := am ((by rw [hg]; exact (below_size pw) : w.heap.size ≤ gb267)); have n7_ := am ((by rw [hg]; exact (below_size pw) : w.heap.size ≤ gb267)); have n8_ := am ((by rw [hg]; exact Nat.ne_of_lt (blk_lt pk) : gb240 ≠ gb267)); have n9_ := am ((by rw [hg]; exact Nat.ne_of_gt (blk_lt pk) : gb267 ≠ gb240)); have n10_ := am ((by rw [hg]; exact Nat.ne_of_lt (blk_lt pk) : gb241 ≠ gb267)); have n11_ := am ((by rw [hg]; exact Nat.ne_of_gt (blk_lt pk) : gb267 ≠ gb241)); have n12_ := am ((by rw [hg]; exact Nat.ne_of_lt (blk_lt pk) : gb252 ≠ gb267)); have n13_ := am ((by rw [hg]; exact Nat.ne_of_gt (blk_lt pk) : gb267 ≠ gb252)); clear HO_13; clear BK240; clear BK241; clear BK252; clear HB; have HO_13 := n0_; have BK240 := n1_; have BK241 := n2_; have BK252 := n3_; have HB := n4_; have BK267 := n5_; have GW267 := n6_; have GE267 := n7_; have NB240_267 := n8_; have NB267_240 := n9_; have NB241_267 := n10_; have NB267_241 := n11_; have NB252_267 := n12_; have NB267_252 := n13_; clear n0_ n1_ n2_ n3_ n4_ n5_ n6_ n7_ n8_ n9_ n10_ n11_ n12_ n13_; clear hb hbox hg; have hnb188 := NB267_240.out; have hnc188 := NB240_267.out; have hnb189 := NB267_241.out; have hnc189 := NB241_267.out; have hnb190 := NB267_252.out; have hnc190 := NB252_267.out; have hcz191_0 : w187.cell? ⟨gb267, 0, none⟩ = some (.int .i64 0) := bc BK267 0; have hcz191_1 : w187.cell? ⟨gb267, 1, none⟩ = some (.int .i64 0) := bc BK267 1; have hfz191_0 := blk_frozen BK267.out 0; have hfz191_1 := blk_frozen BK267.out 1; have hnb192 := NB240_252.out; have hnc192 := NB252_240.out; have hcz193_0 : w187.cell? ⟨gb240, 0, none⟩ = some (.int .i64 a0_0) := bc BK240 0; have hcz193_1 : w187.cell? ⟨gb240, 1, none⟩ = some (.int .i64 a0_1) := bc BK240 1; have hfz193_0 := blk_frozen BK240.out 0; have hfz193_1 := blk_frozen BK240.out 1; have hcz194_0 : w187.cell? ⟨gb241, 0, none⟩ = some (.int .i64 a1_0) := bc BK241 0; have hcz194_1 : w187.cell? ⟨gb241, 1, none⟩ = some (.int .i64 a1_1) := bc BK241 1; have hfz194_0 := blk_frozen BK241.out 0; have hfz194_1 := blk_frozen BK241.out 1; have hcz195_0 : w187.cell? ⟨gb252, 0, none⟩ = some (.int .i64 t248) := bc BK252 0; have hcz195_1 : w187.cell? ⟨gb252, 1, none⟩ = some (.int .i64 t249) := bc BK252 1; have hfz195_0 := blk_frozen BK252.out 0; have hfz195_1 := blk_frozen BK252.out 1; have CA181 := fun (W : World) (hE9_ : ErrAll W) => L2_isCongr.calls t248 t249 t251 a0_0 a0_1 0 t269 W A181.out hE9_; try simp only [errW_none, errW_some] at CA181) | (go_at_call 22; (with_reducible refine (CA181 _ (ErrAll.below hE9.out pw)).mono ?_); rintro e w196 ⟨rfl, hb⟩; have n0_ := am (Kd.R_below (by (with_reducible repeat (first | apply Kd.R_alloc | apply Kd.R_drewN | apply Kd.R_drew)); exact (Kd.R_mono (Kd.R_far (p := ⟨gb267, 1, none⟩) (Kd.R_far (p := ⟨gb267, 0, none⟩) (Kd.R_far (p := ⟨gb267, 1, none⟩) (Kd.R_far (p := ⟨gb267, 0, none⟩) (Kd.R_types HO_13.out BK267.out (by decide)) (fun _ hk => hk.2) (.int .i64 t265)) (fun _ hk => hk.2) (.int .i64 t266)) (fun _ hk => hk.2) (.int .i64 a0_0)) (fun _ hk => hk.2) (.int .i64 a0_1)) (fun _ h_ => h_.1))) hb); have n1_ := am (blk_below (g := gb240) (o := .cells #[.int .i64 a0_0, .int .i64 a0_1] 32 (0, 0)) (by (with_reducible repeat (first | refine blk_drewN ?_ _ | refine blk_drew ?_ | refine blk_alloc ?_ _)); refine blk_far ?_ NB240_267.out _; (with_reducible repeat (first | refine blk_drewN ?_ _ | refine blk_drew ?_ | refine blk_alloc ?_ _)); refine blk_far ?_ NB240_267.out _; (with_reducible repeat (first | refine blk_drewN ?_ _ | refine blk_drew ?_ | refine blk_alloc ?_ _)); refine blk_far ?_ NB240_267.out _; (with_reducible repeat (first | refine blk_drewN ?_ _ | refine blk_drew ?_ | refine blk_alloc ?_ _)); refine blk_far ?_ NB240_267.out _; (with_reducible repeat (first | refine blk_drewN ?_ _ | refine blk_drew ?_ | refine blk_alloc ?_ _)); exact BK240.out) hb); have n2_ := am (blk_below (g := gb241) (o := .cells #[.int .i64 a1_0, .int .i64 a1_1] 32 (0, 0)) (by (with_reducible repeat (first | refine blk_drewN ?_ _ | refine blk_drew ?_ | refine blk_alloc ?_ _)); refine blk_far ?_ NB241_267.out _; (with_reducible repeat (first | refine blk_drewN ?_ _ | refine blk_drew ?_ | refine blk_alloc ?_ _)); refine blk_far ?_ NB241_267.out _; (with_reducible repeat (first | refine blk_drewN ?_ _ | refine blk_drew ?_ | refine blk_alloc ?_ _)); refine blk_far ?_ NB241_267.out _; (with_reducible repeat (first | refine blk_drewN ?_ _ | refine blk_drew ?_ | refine blk_alloc ?_ _)); refine blk_far ?_ NB241_267.out _; (with_reducible repeat (first | refine blk_drewN ?_ _ | refine blk_drew ?_ | refine blk_alloc ?_ _)); exact BK241.out) hb); have n3_ := am (blk_below (g := gb252) (o := .cells #[.int .i64 t248, .int .i64 t249] 34 (0, 0)) (by (with_reducible repeat (first | refine blk_drewN ?_ _ | refine blk_drew ?_ | refine blk_alloc ?_ _)); refine blk_far ?_ NB252_267.out _; (with_reducible repeat (first | refine blk_drewN ?_ _ | refine blk_drew ?_ | refine blk_alloc ?_ _)); refine blk_far ?_ NB252_267.out _; (with_reducible repeat (first | refine blk_drewN ?_ _ | refine blk_drew ?_ | refine blk_alloc ?_ _)); refine blk_far ?_ NB252_267.out _; (with_reducible repeat (first | refine blk_drewN ?_ _ | refine blk_drew ?_ | refine blk_alloc ?_ _)); refine blk_far ?_ NB252_267.out _; (with_reducible repeat (first | refine blk_drewN ?_ _ | refine blk_drew ?_ | refine blk_alloc ?_ _)); exact BK252.out) hb); have n4_ := am (blk_below (g := gb267) (o := .cells #[.int .i64 a0_0, .int .i64 a0_1] 32 (0, 0)) (by (with_reducible repeat (first | refine blk_drewN ?_ _ | refine blk_drew ?_ | refine blk_alloc ?_ _)); refine blk_put (cs := #[.int .i64 a0_0, .int .i64 t266]) ?_ 1 _ rfl; (with_reducible repeat (first | refine blk_drewN ?_ _ | refine blk_drew ?_ | refine blk_alloc ?_ _)); refine blk_put (cs := #[.int .i64 t265, .int .i64 t266]) ?_ 0 _ rfl; (with_reducible repeat (first | refine blk_drewN ?_ _ | refine blk_drew ?_ | refine blk_alloc ?_ _)); refine blk_put (cs := #[.int .i64 t265, .int .i64 0]) ?_ 1 _ rfl; (with_reducible repeat (first | refine blk_drewN ?_ _ | refine blk_drew ?_ | refine blk_alloc ?_ _)); refine blk_put (cs := #[.int .i64 0, .int .i64 0]) ?_ 0 _ rfl; (with_reducible repeat (first | refine blk_drewN ?_ _ | refine blk_drew ?_ | refine blk_alloc ?_ _)); exact BK267.out) hb); have n5_ := am (below_step pw hb); clear HO_13; clear BK240; clear BK241; clear BK252; clear BK267; clear HB; have HO_13 := n0_; have BK240 := n1_; have BK241 := n2_; have BK252 := n3_; have BK267 := n4_; have HB := n5_; clear n0_ n1_ n2_ n3_ n4_ n5_; (try clear hb); (try clear hb2); (try clear hk); (try clear hi)))
          go_ret
          exact ⟨pe, pw⟩
        replace c180 := Bool.eq_false_iff.mpr c180
        subst c180
        have H1 : (none) = some r := by rw [if_neg (show ¬ (false = true) by decide)] at H; exact H
        clear H
        have H := H1
        clear H1
        exact absurd H (by simp)
       rw [if_neg c161] at H
       have c161b0 : (a0_1 == 1) = false := beq_eq_false_iff_ne.mpr c161
       have c161b1 : (a0_1 != 1) = true := bne_iff_ne.mpr c161
       by_cases c197 : t250 = true
       ·subst c197
        have H1 : ((L2_isCongr.f t248 t249 t251 a0_0 a0_1 0).bind fun t270 => (some t270)) = some r := by rw [if_pos rfl] at H; exact H
        clear H
        have H := H1
        clear H1
        replace H := Option.bind_eq_some_iff.mp H
        obtain ⟨t270, A1980, H⟩ := H
        replace H : (some t270) = some r := H
        have A198 := am A1980
        clear A1980
        as_aux_lemma =>
         obtain rfl := Option.some.inj H
         have hnb199 := NB241_240.out
         have hnc199 := NB240_241.out
         have hnb200 := NB241_252.out
         have hnc200 := NB252_241.out
         have hcz201_0 : wr.cell? ⟨gb241, 0, none⟩ = some (.int .i64 a1_0) := bc BK241 0
         have hcz201_1 : wr.cell? ⟨gb241, 1, none⟩ = some (.int .i64 a1_1) := bc BK241 1
         have hfz201_0 := blk_frozen BK241.out 0
         have hfz201_1 := blk_frozen BK241.out 1
         obtain ⟨Ao202, co202, eo202⟩ := Kd.R_slice HO_13.out
         subst eo202
         go_wp2_with (first | ((with_reducible refine gate_callee (f := 24) rfl ?_); refine goesL_ (some 128) rfl rfl Tryd.func24 kk rfl #[.slice Ao202 x13_3.length co202] rfl (by (try simp only [List.map_toArray, List.map_cons, List.map_nil]); first | done | rfl | (simp only [List.length_drop, List.length_take]; rfl)) ?_; (with_reducible refine (R2_LeastOf.calls k3 _ _ x13_3 t265 t266 _ ?side1 ?side2 A159.out).mono ?_); (case side1 => repeat (first | exact (Kd.R_reads' HO_13.out).2.2 | (with_reducible refine Kd.C_alloc ?_ _) | (with_reducible refine Kd.C_drewN ?_ _) | (with_reducible refine Kd.C_drew ?_))); (case side2 => exact (Kd.R_reads' HO_13.out).2.1); rintro e w203 ⟨rfl, hb⟩; refine ⟨_, rfl, ?_⟩; have n0_ := am (Kd.R_below (by (with_reducible repeat (first | apply Kd.R_alloc | apply Kd.R_drewN | apply Kd.R_drew)); exact HO_13.out) hb); have n1_ := bb BK240 hb; have n2_ := bb BK241 hb; have n3_ := bb BK252 hb; have n4_ := am (below_step pw hb); clear HO_13; clear BK240; clear BK241; clear BK252; clear HB; have HO_13 := n0_; have BK240 := n1_; have BK241 := n2_; have BK252 := n3_; have HB := n4_; clear n0_ n1_ n2_ n3_ n4_; (try clear hb); (try clear hb2); (try clear hk); (try clear hi)) | ((with_reducible refine gate_dst (N := 16) rfl ?_); refine box_event ?hg (N := 16) ?hd (cs := #[.int .i64 0, .int .i64 0]) (t := 32) ?hr ?_; (case hd => rfl); (case hg => rfl); (case hr => first | (go_simp; done) | (go_simp; rfl)); intro gb267 hg w204 hbox hb; have n0_ := am (Kd.R_below (by (with_reducible repeat (first | apply Kd.R_alloc | apply Kd.R_drewN | apply Kd.R_drew)); exact HO_13.out) hb); have n1_ := bb BK240 hb; have n2_ := bb BK241 hb; have n3_ := bb BK252 hb; have n4_ := am (below_step pw hb); have n5_ := am (hbox); have n6_ := am ((by rw [hg]; exact (below_size pw) : w.heap.size ≤ gb267)); have n7_ := am ((by rw [hg]; exact (below_size pw) : w.heap.size ≤ gb267)); have n8_ := am ((by rw [hg]; exact Nat.ne_of_lt (blk_lt pk) : gb240 ≠ gb267)); have n9_ := am ((by rw [hg]; exact Nat.ne_of_gt (blk_lt pk) : gb267 ≠ gb240)); have n10_ := am ((by rw [hg]; exact Nat.ne_of_lt (blk_lt pk) : gb241 ≠ gb267)); have n11_ := am ((by rw [hg]; exact Nat.ne_of_gt (blk_lt pk) : gb267 ≠ gb241)); have n12_ := am ((by rw [hg]; exact Nat.ne_of_lt (blk_lt pk) : gb252 ≠ gb267)); have n13_ := am ((by rw [hg]; exact Nat.ne_of_gt (blk_lt pk) : gb267 ≠ gb252)); clear HO_13; clear BK240; clear BK241; clear BK252; clear HB; have HO_13 := n0_; have BK240 := n1_; have BK241 := n2_; have BK252 := n3_; have HB := n4_; have BK267 := n5_; have GW267 := n6_; have GE267 := n7_; have NB240_267 := n8_; have NB267_240 := n9_; have NB241_267 := n10_; have NB267_241 := n11_; have NB252_267 := n12_; have NB267_252 := n13_; clear n0_ n1_ n2_ n3_ n4_ n5_ n6_ n7_ n8_ n9_ n10_ n11_ n12_ n13_; clear hb hbox hg; have hnb205 := NB267_240.out; have hnc205 := NB240_267.out; have hnb206 := NB267_241.out; have hnc206 := NB241_267.out; have hnb207 := NB267_252.out; have hnc207 := NB252_267.out; have hcz208_0 : w204.cell? ⟨gb267, 0, none⟩ = some (.int .i64 0) := bc BK267 0; have hcz208_1 : w204.cell? ⟨gb267, 1, none⟩ = some (.int .i64 0) := bc BK267 1; have hfz208_0 := blk_frozen BK267.out 0; have hfz208_1 := blk_frozen BK267.out 1; have hnb209 := NB240_252.out; have hnc209 := NB252_240.out; have hcz210_0 : w204.cell? ⟨gb240, 0, none⟩ = some (.int .i64 a0_0) := bc BK240 0; have hcz210_1 : w204.cell? ⟨gb240, 1, none⟩ = some (.int .i64 a0_1) := bc BK240 1; have hfz210_0 := blk_frozen BK240.out 0; have hfz210_1 := blk_frozen BK240.out 1; have hcz211_0 : w204.cell? ⟨gb252, 0, none⟩ = some (.int .i64 t248) := bc BK252 0; have hcz211_1 : w204.cell? ⟨gb252, 1, none⟩ = some (.int .i64 t249) := bc BK252 1; have hfz211_0 := blk_frozen BK252.out 0; have hfz211_1 := blk_frozen BK252.out 1; have CA198 := fun (W : World) (hE9_ : ErrAll W) => L2_isCongr.calls t248 t249 t251 a0_0 a0_1 0 t270 W A198.out hE9_; try simp only [errW_none, errW_some] at CA198) | (go_at_call 22; (with_reducible refine (CA198 _ (ErrAll.below hE9.out pw)).mono ?_); rintro e w212 ⟨rfl, hb⟩; have n0_ := am (Kd.R_below (by (with_reducible repeat (first | apply Kd.R_alloc | apply Kd.R_drewN | apply Kd.R_drew)); exact (Kd.R_mono (Kd.R_far (p := ⟨gb267, 1, none⟩) (Kd.R_far (p := ⟨gb267, 0, none⟩) (Kd.R_far (p := ⟨gb267, 1, none⟩) (Kd.R_far (p := ⟨gb267, 0, none⟩) (Kd.R_types HO_13.out BK267.out (by decide)) (fun _ hk => hk.2) (.int .i64 t265)) (fun _ hk => hk.2) (.int .i64 t266)) (fun _ hk => hk.2) (.int .i64 a0_0)) (fun _ hk => hk.2) (.int .i64 a0_1)) (fun _ h_ => h_.1))) hb); have n1_ := am (blk_below (g := gb240) (o := .cells #[.int .i64 a0_0, .int .i64 a0_1] 32 (0, 0)) (by (with_reducible repeat (first | refine blk_drewN ?_ _ | refine blk_drew ?_ | refine blk_alloc ?_ _)); refine blk_far ?_ NB240_267.out _; (with_reducible repeat (first | refine blk_drewN ?_ _ | refine blk_drew ?_ | refine blk_alloc ?_ _)); refine blk_far ?_ NB240_267.out _; (with_reducible repeat (first | refine blk_drewN ?_ _ | refine blk_drew ?_ | refine blk_alloc ?_ _)); refine blk_far ?_ NB240_267.out _; (with_reducible repeat (first | refine blk_drewN ?_ _ | refine blk_drew ?_ | refine blk_alloc ?_ _)); refine blk_far ?_ NB240_267.out _; (with_reducible repeat (first | refine blk_drewN ?_ _ | refine blk_drew ?_ | refine blk_alloc ?_ _)); exact BK240.out) hb); have n2_ := am (blk_below (g := gb241) (o := .cells #[.int .i64 a1_0, .int .i64 a1_1] 32 (0, 0)) (by (with_reducible repeat (first | refine blk_drewN ?_ _ | refine blk_drew ?_ | refine blk_alloc ?_ _)); refine blk_far ?_ NB241_267.out _; (with_reducible repeat (first | refine blk_drewN ?_ _ | refine blk_drew ?_ | refine blk_alloc ?_ _)); refine blk_far ?_ NB241_267.out _; (with_reducible repeat (first | refine blk_drewN ?_ _ | refine blk_drew ?_ | refine blk_alloc ?_ _)); refine blk_far ?_ NB241_267.out _; (with_reducible repeat (first | refine blk_drewN ?_ _ | refine blk_drew ?_ | refine blk_alloc ?_ _)); refine blk_far ?_ NB241_267.out _; (with_reducible repeat (first | refine blk_drewN ?_ _ | refine blk_drew ?_ | refine blk_alloc ?_ _)); exact BK241.out) hb); have n3_ := am (blk_below (g := gb252) (o := .cells #[.int .i64 t248, .int .i64 t249] 34 (0, 0)) (by (with_reducible repeat (first | refine blk_drewN ?_ _ | refine blk_drew ?_ | refine blk_alloc ?_ _)); refine blk_far ?_ NB252_267.out _; (with_reducible repeat (first | refine blk_drewN ?_ _ | refine blk_drew ?_ | refine blk_alloc ?_ _)); refine blk_far ?_ NB252_267.out _; (with_reducible repeat (first | refine blk_drewN ?_ _ | refine blk_drew ?_ | refine blk_alloc ?_ _)); refine blk_far ?_ NB252_267.out _; (with_reducible repeat (first | refine blk_drewN ?_ _ | refine blk_drew ?_ | refine blk_alloc ?_ _)); refine blk_far ?_ NB252_267.out _; (with_reducible repeat (first | refine blk_drewN ?_ _ | refine blk_drew ?_ | refine blk_alloc ?_ _)); exact BK252.out) hb); have n4_ := am (blk_below (g := gb267) (o := .cells #[.int .i64 a0_0, .int .i64 a0_1] 32 (0, 0)) (by (with_reducible repeat (first | refine blk_drewN ?_ _ | refine blk_drew ?_ | refine blk_alloc ?_ _)); refine blk_put (cs := #[.int .i64 a0_0, .int .i64 t266]) ?_ 1 _ rfl; (with_reducible repeat (first | refine blk_drewN ?_ _ | refine blk_drew ?_ | refine blk_alloc ?_ _)); refine blk_put (cs := #[.int .i64 t265, .int .i64 t266]) ?_ 0 _ rfl; (with_reducible repeat (first | refine blk_drewN ?_ _ | refine blk_drew ?_ | refine blk_alloc ?_ _)); refine blk_put (cs := #[.int .i64 t265, .int .i64 0]) ?_ 1 _ rfl; (with_reducible repeat (first | refine blk_drewN ?_ _ | refine blk_drew ?_ | refine blk_alloc ?_ _)); refine blk_put (cs := #[.int .i64 0, .int .i64 0]) ?_ 0 _ rfl; (with_reducible repeat (first | refine blk_drewN ?_ _ | refine blk_drew ?_ | refine blk_alloc ?_ _)); exact BK267.out) hb); have n5_ := am (below_step pw hb); clear HO_13; clear BK240; clear BK241; clear BK252; clear BK267; clear HB; have HO_13 := n0_; have BK240 := n1_; have BK241 := n2_; have BK252 := n3_; have BK267 := n4_; have HB := n5_; clear n0_ n1_ n2_ n3_ n4_ n5_; (try clear hb); (try clear hb2); (try clear hk); (try clear hi)))
         go_ret
         exact ⟨pe, pw⟩
       replace c197 := Bool.eq_false_iff.mpr c197
       subst c197
       have H1 : (none) = some r := by rw [if_neg (show ¬ (false = true) by decide)] at H; exact H
       clear H
       have H := H1
       clear H1
       exact absurd H (by simp)
      rw [if_neg c160] at H
      have c160b0 : (t265 == 0 && (t266 == 1)) = false := by simpa using c160
      (try (have c160b1 : decide (t265 = 0 && (t266 == 1)) = false := by simpa using c160))
      (try (have c160b2 : (t265 == 0 && (t266 == 1)) = false := by simpa using c160))
      (try (have c160b3 : ¬ (t265 = 0 && (t266 == 1)) := by simpa using c160))
      clear c160
      by_cases c213 : t250 = true
      ·subst c213
       have H1 : ((L2_isCongr.f t248 t249 t251 t265 t266 0).bind fun t271 => (some t271)) = some r := by rw [if_pos rfl] at H; exact H
       clear H
       have H := H1
       clear H1
       replace H := Option.bind_eq_some_iff.mp H
       obtain ⟨t271, A2140, H⟩ := H
       replace H : (some t271) = some r := H
       have A214 := am A2140
       clear A2140
       as_aux_lemma =>
        obtain rfl := Option.some.inj H
        have hnb215 := NB241_240.out
        have hnc215 := NB240_241.out
        have hnb216 := NB241_252.out
        have hnc216 := NB252_241.out
        have hcz217_0 : wr.cell? ⟨gb241, 0, none⟩ = some (.int .i64 a1_0) := bc BK241 0
        have hcz217_1 : wr.cell? ⟨gb241, 1, none⟩ = some (.int .i64 a1_1) := bc BK241 1
        have hfz217_0 := blk_frozen BK241.out 0
        have hfz217_1 := blk_frozen BK241.out 1
        obtain ⟨Ao218, co218, eo218⟩ := Kd.R_slice HO_13.out
        subst eo218
        go_wp2_with (first | ((with_reducible refine gate_callee (f := 24) rfl ?_); refine goesL_ (some 128) rfl rfl Tryd.func24 kk rfl #[.slice Ao218 x13_3.length co218] rfl (by (try simp only [List.map_toArray, List.map_cons, List.map_nil]); first | done | rfl | (simp only [List.length_drop, List.length_take]; rfl)) ?_; (with_reducible refine (R2_LeastOf.calls k3 _ _ x13_3 t265 t266 _ ?side1 ?side2 A159.out).mono ?_); (case side1 => repeat (first | exact (Kd.R_reads' HO_13.out).2.2 | (with_reducible refine Kd.C_alloc ?_ _) | (with_reducible refine Kd.C_drewN ?_ _) | (with_reducible refine Kd.C_drew ?_))); (case side2 => exact (Kd.R_reads' HO_13.out).2.1); rintro e w219 ⟨rfl, hb⟩; refine ⟨_, rfl, ?_⟩; have n0_ := am (Kd.R_below (by (with_reducible repeat (first | apply Kd.R_alloc | apply Kd.R_drewN | apply Kd.R_drew)); exact HO_13.out) hb); have n1_ := bb BK240 hb; have n2_ := bb BK241 hb; have n3_ := bb BK252 hb; have n4_ := am (below_step pw hb); clear HO_13; clear BK240; clear BK241; clear BK252; clear HB; have HO_13 := n0_; have BK240 := n1_; have BK241 := n2_; have BK252 := n3_; have HB := n4_; clear n0_ n1_ n2_ n3_ n4_; (try clear hb); (try clear hb2); (try clear hk); (try clear hi)) | ((with_reducible refine gate_dst (N := 16) rfl ?_); refine box_event ?hg (N := 16) ?hd (cs := #[.int .i64 0, .int .i64 0]) (t := 32) ?hr ?_; (case hd => rfl); (case hg => rfl); (case hr => first | (go_simp; done) | (go_simp; rfl)); intro gb267 hg w220 hbox hb; have n0_ := am (Kd.R_below (by (with_reducible repeat (first | apply Kd.R_alloc | apply Kd.R_drewN | apply Kd.R_drew)); exact HO_13.out) hb); have n1_ := bb BK240 hb; have n2_ := bb BK241 hb; have n3_ := bb BK252 hb; have n4_ := am (below_step pw hb); have n5_ := am (hbox); have n6_ := am ((by rw [hg]; exact (below_size pw) : w.heap.size ≤ gb267)); have n7_ := am ((by rw [hg]; exact (below_size pw) : w.heap.size ≤ gb267)); have n8_ := am ((by rw [hg]; exact Nat.ne_of_lt (blk_lt pk) : gb240 ≠ gb267)); have n9_ := am ((by rw [hg]; exact Nat.ne_of_gt (blk_lt pk) : gb267 ≠ gb240)); have n10_ := am ((by rw [hg]; exact Nat.ne_of_lt (blk_lt pk) : gb241 ≠ gb267)); have n11_ := am ((by rw [hg]; exact Nat.ne_of_gt (blk_lt pk) : gb267 ≠ gb241)); have n12_ := am ((by rw [hg]; exact Nat.ne_of_lt (blk_lt pk) : gb252 ≠ gb267)); have n13_ := am ((by rw [hg]; exact Nat.ne_of_gt (blk_lt pk) : gb267 ≠ gb252)); clear HO_13; clear BK240; clear BK241; clear BK252; clear HB; have HO_13 := n0_; have BK240 := n1_; have BK241 := n2_; have BK252 := n3_; have HB := n4_; have BK267 := n5_; have GW267 := n6_; have GE267 := n7_; have NB240_267 := n8_; have NB267_240 := n9_; have NB241_267 := n10_; have NB267_241 := n11_; have NB252_267 := n12_; have NB267_252 := n13_; clear n0_ n1_ n2_ n3_ n4_ n5_ n6_ n7_ n8_ n9_ n10_ n11_ n12_ n13_; clear hb hbox hg; have hnb221 := NB267_240.out; have hnc221 := NB240_267.out; have hnb222 := NB267_241.out; have hnc222 := NB241_267.out; have hnb223 := NB267_252.out; have hnc223 := NB252_267.out; have hcz224_0 : w220.cell? ⟨gb267, 0, none⟩ = some (.int .i64 0) := bc BK267 0; have hcz224_1 : w220.cell? ⟨gb267, 1, none⟩ = some (.int .i64 0) := bc BK267 1; have hfz224_0 := blk_frozen BK267.out 0; have hfz224_1 := blk_frozen BK267.out 1; have hnb225 := NB252_240.out; have hnc225 := NB240_252.out; have hcz226_0 : w220.cell? ⟨gb252, 0, none⟩ = some (.int .i64 t248) := bc BK252 0; have hcz226_1 : w220.cell? ⟨gb252, 1, none⟩ = some (.int .i64 t249) := bc BK252 1; have hfz226_0 := blk_frozen BK252.out 0; have hfz226_1 := blk_frozen BK252.out 1; have CA214 := fun (W : World) (hE9_ : ErrAll W) => L2_isCongr.calls t248 t249 t251 t265 t266 0 t271 W A214.out hE9_; try simp only [errW_none, errW_some] at CA214) | (go_at_call 22; (with_reducible refine (CA214 _ (ErrAll.below hE9.out pw)).mono ?_); rintro e w227 ⟨rfl, hb⟩; have n0_ := am (Kd.R_below (by (with_reducible repeat (first | apply Kd.R_alloc | apply Kd.R_drewN | apply Kd.R_drew)); exact (Kd.R_mono (Kd.R_far (p := ⟨gb267, 1, none⟩) (Kd.R_far (p := ⟨gb267, 0, none⟩) (Kd.R_types HO_13.out BK267.out (by decide)) (fun _ hk => hk.2) (.int .i64 t265)) (fun _ hk => hk.2) (.int .i64 t266)) (fun _ h_ => h_.1))) hb); have n1_ := am (blk_below (g := gb240) (o := .cells #[.int .i64 a0_0, .int .i64 a0_1] 32 (0, 0)) (by (with_reducible repeat (first | refine blk_drewN ?_ _ | refine blk_drew ?_ | refine blk_alloc ?_ _)); refine blk_far ?_ NB240_267.out _; (with_reducible repeat (first | refine blk_drewN ?_ _ | refine blk_drew ?_ | refine blk_alloc ?_ _)); refine blk_far ?_ NB240_267.out _; (with_reducible repeat (first | refine blk_drewN ?_ _ | refine blk_drew ?_ | refine blk_alloc ?_ _)); exact BK240.out) hb); have n2_ := am (blk_below (g := gb241) (o := .cells #[.int .i64 a1_0, .int .i64 a1_1] 32 (0, 0)) (by (with_reducible repeat (first | refine blk_drewN ?_ _ | refine blk_drew ?_ | refine blk_alloc ?_ _)); refine blk_far ?_ NB241_267.out _; (with_reducible repeat (first | refine blk_drewN ?_ _ | refine blk_drew ?_ | refine blk_alloc ?_ _)); refine blk_far ?_ NB241_267.out _; (with_reducible repeat (first | refine blk_drewN ?_ _ | refine blk_drew ?_ | refine blk_alloc ?_ _)); exact BK241.out) hb); have n3_ := am (blk_below (g := gb252) (o := .cells #[.int .i64 t248, .int .i64 t249] 34 (0, 0)) (by (with_reducible repeat (first | refine blk_drewN ?_ _ | refine blk_drew ?_ | refine blk_alloc ?_ _)); refine blk_far ?_ NB252_267.out _; (with_reducible repeat (first | refine blk_drewN ?_ _ | refine blk_drew ?_ | refine blk_alloc ?_ _)); refine blk_far ?_ NB252_267.out _; (with_reducible repeat (first | refine blk_drewN ?_ _ | refine blk_drew ?_ | refine blk_alloc ?_ _)); exact BK252.out) hb); have n4_ := am (blk_below (g := gb267) (o := .cells #[.int .i64 t265, .int .i64 t266] 32 (0, 0)) (by (with_reducible repeat (first | refine blk_drewN ?_ _ | refine blk_drew ?_ | refine blk_alloc ?_ _)); refine blk_put (cs := #[.int .i64 t265, .int .i64 0]) ?_ 1 _ rfl; (with_reducible repeat (first | refine blk_drewN ?_ _ | refine blk_drew ?_ | refine blk_alloc ?_ _)); refine blk_put (cs := #[.int .i64 0, .int .i64 0]) ?_ 0 _ rfl; (with_reducible repeat (first | refine blk_drewN ?_ _ | refine blk_drew ?_ | refine blk_alloc ?_ _)); exact BK267.out) hb); have n5_ := am (below_step pw hb); clear HO_13; clear BK240; clear BK241; clear BK252; clear BK267; clear HB; have HO_13 := n0_; have BK240 := n1_; have BK241 := n2_; have BK252 := n3_; have BK267 := n4_; have HB := n5_; clear n0_ n1_ n2_ n3_ n4_ n5_; (try clear hb); (try clear hb2); (try clear hk); (try clear hi)))
        go_ret
        exact ⟨pe, pw⟩
      replace c213 := Bool.eq_false_iff.mpr c213
      subst c213
      have H1 : (none) = some r := by rw [if_neg (show ¬ (false = true) by decide)] at H; exact H
      clear H
      have H := H1
      clear H1
      exact absurd H (by simp)
 replace c4 := Bool.eq_false_iff.mpr c4
 subst c4
 have H1 : (none) = some r := by rw [if_neg (show ¬ (false = true) by decide)] at H; exact H
 clear H
 have H := H1
 clear H1
 exact absurd H (by simp)

end Go.Proofs.YtimgfgambeffeaaDoor.C
