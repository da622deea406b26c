-- Written by wip/xprint.py (the session's program over the kit's print).
import Derived.Test.YtjpboodkmhikpaaDoorEb
import Derived.Test.YtjpboodkmhikpaaDoorC0
import Derived.Test.YtjpboodkmhikpaaDoorC1
import Derived.Test.YtjpboodkmhikpaaDoorC2
import Derived.Test.YtjpboodkmhikpaaDoorC3
import Derived.Test.YtjpboodkmhikpaaDoorC4
import Derived.Test.YtjpboodkmhikpaaDoorC5
import Derived.Test.YtjpboodkmhikpaaDoorC6
namespace Go.Proofs.YtjpboodkmhikpaaDoor.C
open Go.RowKit Go.Proofs.YtjpboodkmhikpaaDoorW.PrintWords Go.Proofs.YtjpboodkmhikpaaDoorW.PrintLast Go.Proofs.YtjpboodkmhikpaaDoorW.PrintMore Go.Proofs.Rcg
attribute [local go_sem] max2_int min2_int max_two min_two max_three min_three max_four min_four   -- for this text's walks alone
set_option linter.unusedVariables false
set_option linter.unusedSimpArgs false

attribute [local go_sem high] eqA24
/-! ### L2_CongrLattice: function 8 -/
mutual
def L2_CongrLattice.j0 : Nat → Bool → Bool → Int → Int → Int → Int → Option (Bool)
 | 0, _, _, _, _, _, _ => none
 | k + 1, x5, x33, x211000, x211001, x212000, x212001 => if x33 = true then (some x5) else ((L2_own.f x211000 x211001).bind fun bt214 => ((L2_own.f x212000 x212001).bind fun bt216 => ((congr_Join_ok.f k bt214.1 bt214.2 bt216.1 bt216.2).bind fun bt218 => ((L2_own.f x211000 x211001).bind fun bt221 => ((L2_own.f x212000 x212001).bind fun bt223 => ((congr_Meet_ok.f k bt221.1 bt221.2 bt223.1 bt223.2).bind fun bt225 => ((L2_own.f x211000 x211001).bind fun bt229 => ((congr_Within_ok.f k bt229.1 bt229.2 bt218.1 bt218.2).bind fun t231 => ((L2_own.f x212000 x212001).bind fun bt232 => ((congr_Within_ok.f k bt232.1 bt232.2 bt218.1 bt218.2).bind fun t234 => (if t231 = true then (L2_CongrLattice.j1 k bt225.2.2 (!t234) x211000 x211001 x212000 x212001 bt225.1 bt225.2.1) else (L2_CongrLattice.j1 k bt225.2.2 true x211000 x211001 x212000 x212001 bt225.1 bt225.2.1))))))))))))
def L2_CongrLattice.j1 : Nat → Bool → Bool → Int → Int → Int → Int → Int → Int → Option (Bool)
 | 0, _, _, _, _, _, _, _, _ => none
 | k + 1, x9, x87, x211000, x211001, x212000, x212001, x229000, x229001 => if x87 = true then (none) else (if x9 = true then ((L2_own.f x211000 x211001).bind fun bt235 => ((congr_Within_ok.f k x229000 x229001 bt235.1 bt235.2).bind fun t237 => (if t237 = true then ((L2_own.f x212000 x212001).bind fun bt238 => ((congr_Within_ok.f k x229000 x229001 bt238.1 bt238.2).bind fun t240 => (if t240 = true then (L2_CongrLattice.j2 k x211000 x211001 x212000 x212001) else ((L2_own.f x211000 x211001).bind fun bt241 => (if (!(x229000 == bt241.1) || (!(x229001 == bt241.2))) = true then (none) else (L2_CongrLattice.j2 k x211000 x211001 x212000 x212001)))))) else (none)))) else (L2_CongrLattice.j2 k x211000 x211001 x212000 x212001))
def L2_CongrLattice.j2 : Nat → Int → Int → Int → Int → Option (Bool)
 | 0, _, _, _, _ => none
 | k + 1, x211000, x211001, x212000, x212001 => (L2_own.f x211000 x211001).bind fun bt243 => ((L2_own.f x212000 x212001).bind fun bt245 => ((congr_Add_ok.f k bt243.1 bt243.2 bt245.1 bt245.2).bind fun bt247 => ((L2_own.f x212000 x212001).bind fun bt250 => ((L2_own.f x211000 x211001).bind fun bt252 => ((congr_Add_ok.f k bt250.1 bt250.2 bt252.1 bt252.2).bind fun bt254 => ((L2_own.f x211000 x211001).bind fun bt257 => ((L2_own.f x212000 x212001).bind fun bt259 => ((congr_Mul_ok.f k bt257.1 bt257.2 bt259.1 bt259.2).bind fun bt261 => ((L2_own.f x212000 x212001).bind fun bt264 => ((L2_own.f x211000 x211001).bind fun bt266 => ((congr_Mul_ok.f k bt264.1 bt264.2 bt266.1 bt266.2).bind fun bt268 => ((L2_own.f x211000 x211001).bind fun bt271 => ((L2_own.f x211000 x211001).bind fun bt273 => ((congr_Sub_ok.f k bt271.1 bt271.2 bt273.1 bt273.2).bind fun bt275 => (if (bt247.1 == bt254.1 && (bt247.2 == bt254.2)) = true then (if (bt261.1 == bt268.1 && (bt261.2 == bt268.2)) = true then ((congr_Has.f k bt275.1 bt275.2 0).bind fun t278 => (some t278)) else (none)) else (none))))))))))))))))
end
def L2_CongrLattice.f (k : Nat) (a0_0 : Int) (a0_1 : Int) (a1_0 : Int) (a1_1 : Int) : Option (Bool) := (L2_sixth.f k).bind fun t212 => (if t212 = true then ((R2_TwoCongrs.f k a0_0 a0_1 a1_0 a1_1).bind fun t213 => (L2_CongrLattice.j0 k t212 (decide (t213 > 0)) a0_0 a0_1 a1_0 a1_1)) else (L2_CongrLattice.j0 k t212 true a0_0 a0_1 a1_0 a1_1))
theorem L2_CongrLattice.mono_l : ∀ k, (∀ y0 y1 y2 y3 y4 y5, LeO (L2_CongrLattice.j0 k y0 y1 y2 y3 y4 y5) (L2_CongrLattice.j0 (k + 1) y0 y1 y2 y3 y4 y5)) ∧ (∀ y0 y1 y2 y3 y4 y5 y6 y7, LeO (L2_CongrLattice.j1 k y0 y1 y2 y3 y4 y5 y6 y7) (L2_CongrLattice.j1 (k + 1) y0 y1 y2 y3 y4 y5 y6 y7)) ∧ (∀ y0 y1 y2 y3, LeO (L2_CongrLattice.j2 k y0 y1 y2 y3) (L2_CongrLattice.j2 (k + 1) y0 y1 y2 y3))
 | 0 => ⟨fun _ _ _ _ _ _ r h => by simp [L2_CongrLattice.j0] at h, fun _ _ _ _ _ _ _ _ r h => by simp [L2_CongrLattice.j1] at h, fun _ _ _ _ r h => by simp [L2_CongrLattice.j2] at h⟩
 | k + 1 => by
  obtain ⟨ih0, ih1, ih2⟩ := L2_CongrLattice.mono_l k
  refine ⟨?_, ?_, ?_⟩
  ·intro y0 y1 y2 y3 y4 y5
   unfold L2_CongrLattice.j0
   repeat' first
   | (with_reducible exact ih0 _ _ _ _ _ _)
   | (with_reducible exact ih1 _ _ _ _ _ _ _ _)
   | (with_reducible exact ih2 _ _ _ _)
   | (with_reducible exact L2_sixth.mono _)
   | (with_reducible exact R2_TwoCongrs.mono _ _ _ _ _)
   | (with_reducible exact congr_Add_ok.mono _ _ _ _ _)
   | (with_reducible exact congr_Has.mono _ _ _ _)
   | (with_reducible exact congr_Join_ok.mono _ _ _ _ _)
   | (with_reducible exact congr_Meet_ok.mono _ _ _ _ _)
   | (with_reducible exact congr_Mul_ok.mono _ _ _ _ _)
   | (with_reducible exact congr_Sub_ok.mono _ _ _ _ _)
   | (with_reducible exact congr_Within_ok.mono _ _ _ _ _)
   | (with_reducible exact LeO.refl _)
   | (with_reducible exact LeO.none _)
   | (with_reducible refine LeO.ite ?_ ?_)
   | (with_reducible refine LeO.bind ?_ (fun _ => ?_))
   | exact ih0 _ _ _ _ _ _
   | exact ih1 _ _ _ _ _ _ _ _
   | exact ih2 _ _ _ _
   | exact L2_sixth.mono _
   | exact R2_TwoCongrs.mono _ _ _ _ _
   | exact congr_Add_ok.mono _ _ _ _ _
   | exact congr_Has.mono _ _ _ _
   | exact congr_Join_ok.mono _ _ _ _ _
   | exact congr_Meet_ok.mono _ _ _ _ _
   | exact congr_Mul_ok.mono _ _ _ _ _
   | exact congr_Sub_ok.mono _ _ _ _ _
   | exact congr_Within_ok.mono _ _ _ _ _
   | exact LeO.none _
   | refine LeO.ite ?_ ?_
   | refine LeO.bind ?_ (fun _ => ?_)
  ·intro y0 y1 y2 y3 y4 y5 y6 y7
   unfold L2_CongrLattice.j1
   repeat' first
   | (with_reducible exact ih0 _ _ _ _ _ _)
   | (with_reducible exact ih1 _ _ _ _ _ _ _ _)
   | (with_reducible exact ih2 _ _ _ _)
   | (with_reducible exact L2_sixth.mono _)
   | (with_reducible exact R2_TwoCongrs.mono _ _ _ _ _)
   | (with_reducible exact congr_Add_ok.mono _ _ _ _ _)
   | (with_reducible exact congr_Has.mono _ _ _ _)
   | (with_reducible exact congr_Join_ok.mono _ _ _ _ _)
   | (with_reducible exact congr_Meet_ok.mono _ _ _ _ _)
   | (with_reducible exact congr_Mul_ok.mono _ _ _ _ _)
   | (with_reducible exact congr_Sub_ok.mono _ _ _ _ _)
   | (with_reducible exact congr_Within_ok.mono _ _ _ _ _)
   | (with_reducible exact LeO.refl _)
   | (with_reducible exact LeO.none _)
   | (with_reducible refine LeO.ite ?_ ?_)
   | (with_reducible refine LeO.bind ?_ (fun _ => ?_))
   | exact ih0 _ _ _ _ _ _
   | exact ih1 _ _ _ _ _ _ _ _
   | exact ih2 _ _ _ _
   | exact L2_sixth.mono _
   | exact R2_TwoCongrs.mono _ _ _ _ _
   | exact congr_Add_ok.mono _ _ _ _ _
   | exact congr_Has.mono _ _ _ _
   | exact congr_Join_ok.mono _ _ _ _ _
   | exact congr_Meet_ok.mono _ _ _ _ _
   | exact congr_Mul_ok.mono _ _ _ _ _
   | exact congr_Sub_ok.mono _ _ _ _ _
   | exact congr_Within_ok.mono _ _ _ _ _
   | exact LeO.none _
   | refine LeO.ite ?_ ?_
   | refine LeO.bind ?_ (fun _ => ?_)
  intro y0 y1 y2 y3
  unfold L2_CongrLattice.j2
  repeat' first
  | (with_reducible exact ih0 _ _ _ _ _ _)
  | (with_reducible exact ih1 _ _ _ _ _ _ _ _)
  | (with_reducible exact ih2 _ _ _ _)
  | (with_reducible exact L2_sixth.mono _)
  | (with_reducible exact R2_TwoCongrs.mono _ _ _ _ _)
  | (with_reducible exact congr_Add_ok.mono _ _ _ _ _)
  | (with_reducible exact congr_Has.mono _ _ _ _)
  | (with_reducible exact congr_Join_ok.mono _ _ _ _ _)
  | (with_reducible exact congr_Meet_ok.mono _ _ _ _ _)
  | (with_reducible exact congr_Mul_ok.mono _ _ _ _ _)
  | (with_reducible exact congr_Sub_ok.mono _ _ _ _ _)
  | (with_reducible exact congr_Within_ok.mono _ _ _ _ _)
  | (with_reducible exact LeO.refl _)
  | (with_reducible exact LeO.none _)
  | (with_reducible refine LeO.ite ?_ ?_)
  | (with_reducible refine LeO.bind ?_ (fun _ => ?_))
  | exact ih0 _ _ _ _ _ _
  | exact ih1 _ _ _ _ _ _ _ _
  | exact ih2 _ _ _ _
  | exact L2_sixth.mono _
  | exact R2_TwoCongrs.mono _ _ _ _ _
  | exact congr_Add_ok.mono _ _ _ _ _
  | exact congr_Has.mono _ _ _ _
  | exact congr_Join_ok.mono _ _ _ _ _
  | exact congr_Meet_ok.mono _ _ _ _ _
  | exact congr_Mul_ok.mono _ _ _ _ _
  | exact congr_Sub_ok.mono _ _ _ _ _
  | exact congr_Within_ok.mono _ _ _ _ _
  | exact LeO.none _
  | refine LeO.ite ?_ ?_
  | refine LeO.bind ?_ (fun _ => ?_)
theorem L2_CongrLattice.mono : ∀ a0 a1 a2 a3 k, LeO (L2_CongrLattice.f k a0 a1 a2 a3) (L2_CongrLattice.f (k + 1) a0 a1 a2 a3) := by
 intro a0 a1 a2 a3 k
 obtain ⟨ih0, ih1, ih2⟩ := L2_CongrLattice.mono_l k
 unfold L2_CongrLattice.f
 repeat' first
   | (with_reducible exact ih0 _ _ _ _ _ _)
   | (with_reducible exact ih1 _ _ _ _ _ _ _ _)
   | (with_reducible exact ih2 _ _ _ _)
   | (with_reducible exact L2_sixth.mono _)
   | (with_reducible exact R2_TwoCongrs.mono _ _ _ _ _)
   | (with_reducible exact congr_Add_ok.mono _ _ _ _ _)
   | (with_reducible exact congr_Has.mono _ _ _ _)
   | (with_reducible exact congr_Join_ok.mono _ _ _ _ _)
   | (with_reducible exact congr_Meet_ok.mono _ _ _ _ _)
   | (with_reducible exact congr_Mul_ok.mono _ _ _ _ _)
   | (with_reducible exact congr_Sub_ok.mono _ _ _ _ _)
   | (with_reducible exact congr_Within_ok.mono _ _ _ _ _)
   | (with_reducible exact LeO.refl _)
   | (with_reducible exact LeO.none _)
   | (with_reducible refine LeO.ite ?_ ?_)
   | (with_reducible refine LeO.bind ?_ (fun _ => ?_))
   | exact ih0 _ _ _ _ _ _
   | exact ih1 _ _ _ _ _ _ _ _
   | exact ih2 _ _ _ _
   | exact L2_sixth.mono _
   | exact R2_TwoCongrs.mono _ _ _ _ _
   | exact congr_Add_ok.mono _ _ _ _ _
   | exact congr_Has.mono _ _ _ _
   | exact congr_Join_ok.mono _ _ _ _ _
   | exact congr_Meet_ok.mono _ _ _ _ _
   | exact congr_Mul_ok.mono _ _ _ _ _
   | exact congr_Sub_ok.mono _ _ _ _ _
   | exact congr_Within_ok.mono _ _ _ _ _
   | exact LeO.none _
   | refine LeO.ite ?_ ?_
   | refine LeO.bind ?_ (fun _ => ?_)
def L2_CongrLattice.T4 : Bool × List (List Nat × List Nat) := (true, [([], []), ([0], [0]), ([], []), ([2, 1], [2]), ([1, 3, 3], [1, 3]), ([4], [4]), ([5], [5]), ([5], [5]), ([], []), ([8, 6, 4, 0, 1, 2, 3, 4, 5, 6, 8], [6, 8]), ([7, 9, 0, 1, 2, 3, 4, 5, 6, 7, 8, 9], [7])])
def L2_CongrLattice.B4 : List Nat := [0, 1, 0, 7, 15, 31, 63, 63, 0, 383, 1023]
theorem L2_CongrLattice.tab4 : rtab .any (opsOf Tryd.f8 4) = L2_CongrLattice.T4 := by kernel_rfl
theorem L2_CongrLattice.bits4 : waitsOk L2_CongrLattice.T4.2 L2_CongrLattice.B4 = true := by kernel_rfl
def L2_CongrLattice.T5 : Bool × List (List Nat × List Nat) := (true, [([], []), ([0], [0]), ([], []), ([2, 1], [2]), ([1, 3, 3], [1, 3]), ([4], [4]), ([5], [5]), ([5], [5]), ([5], [5]), ([], []), ([9, 6, 4, 0, 1, 2, 3, 4, 5, 6, 9], [6, 9]), ([7, 10, 0, 1, 2, 3, 4, 5, 6, 7, 9, 10], [7]), ([8, 11, 0, 1, 2, 3, 4, 5, 6, 7, 8, 9, 10, 11], [8])])
def L2_CongrLattice.B5 : List Nat := [0, 1, 0, 7, 15, 31, 63, 63, 63, 0, 639, 1791, 4095]
theorem L2_CongrLattice.tab5 : rtab .any (opsOf Tryd.f8 5) = L2_CongrLattice.T5 := by kernel_rfl
theorem L2_CongrLattice.bits5 : waitsOk L2_CongrLattice.T5.2 L2_CongrLattice.B5 = true := by kernel_rfl
def L2_CongrLattice.T6 : Bool × List (List Nat × List Nat) := (true, [([], []), ([0], [0]), ([], []), ([1, 2, 1], [1, 2]), ([3], [3]), ([4], [4]), ([4], [4]), ([5, 3, 0, 1, 2, 3, 4, 5], [5]), ([6, 7, 0, 1, 2, 3, 4, 5, 6, 7], [6])])
def L2_CongrLattice.B6 : List Nat := [0, 1, 0, 7, 15, 31, 31, 63, 255]
theorem L2_CongrLattice.tab6 : rtab .any (opsOf Tryd.f8 6) = L2_CongrLattice.T6 := by kernel_rfl
theorem L2_CongrLattice.bits6 : waitsOk L2_CongrLattice.T6.2 L2_CongrLattice.B6 = true := by kernel_rfl
def L2_CongrLattice.T7 : Bool × List (List Nat × List Nat) := (true, [([], []), ([0], [0]), ([], []), ([1, 2, 1], [1, 2]), ([3], [3]), ([4], [4]), ([4], [4]), ([5, 3, 0, 1, 2, 3, 4, 5], [5]), ([6, 7, 0, 1, 2, 3, 4, 5, 6, 7], [6])])
def L2_CongrLattice.B7 : List Nat := [0, 1, 0, 7, 15, 31, 31, 63, 255]
theorem L2_CongrLattice.tab7 : rtab .any (opsOf Tryd.f8 7) = L2_CongrLattice.T7 := by kernel_rfl
theorem L2_CongrLattice.bits7 : waitsOk L2_CongrLattice.T7.2 L2_CongrLattice.B7 = true := by kernel_rfl
def L2_CongrLattice.T11 : Bool × List (List Nat × List Nat) := (true, [([], []), ([], []), ([1], [1]), ([0, 2, 2], [0, 2]), ([3], [3]), ([4], [4]), ([4], [4]), ([5, 3, 0, 1, 2, 3, 4, 5], [5]), ([6, 7, 0, 1, 2, 3, 4, 5, 6, 7], [6])])
def L2_CongrLattice.B11 : List Nat := [0, 0, 2, 7, 15, 31, 31, 63, 255]
theorem L2_CongrLattice.tab11 : rtab .any (opsOf Tryd.f8 11) = L2_CongrLattice.T11 := by kernel_rfl
theorem L2_CongrLattice.bits11 : waitsOk L2_CongrLattice.T11.2 L2_CongrLattice.B11 = true := by kernel_rfl
def L2_CongrLattice.T14 : Bool × List (List Nat × List Nat) := (true, [([], []), ([], []), ([1], [1]), ([0, 2, 2], [0, 2]), ([3], [3]), ([4], [4]), ([4], [4]), ([5, 3, 0, 1, 2, 3, 4, 5], [5]), ([6, 7, 0, 1, 2, 3, 4, 5, 6, 7], [6])])
def L2_CongrLattice.B14 : List Nat := [0, 0, 2, 7, 15, 31, 31, 63, 255]
theorem L2_CongrLattice.tab14 : rtab .any (opsOf Tryd.f8 14) = L2_CongrLattice.T14 := by kernel_rfl
theorem L2_CongrLattice.bits14 : waitsOk L2_CongrLattice.T14.2 L2_CongrLattice.B14 = true := by kernel_rfl
def L2_CongrLattice.T15 : Bool × List (List Nat × List Nat) := (true, [([], []), ([0], [0]), ([1], [1]), ([2], [2]), ([3, 2], [2, 3]), ([4, 2, 2], [2, 4]), ([5], [5]), ([5], [5]), ([7, 5, 5], [5, 7]), ([6, 8, 5], [5, 6, 8]), ([5, 9, 2], [2, 5, 9]), ([2, 10], [2, 10])])
def L2_CongrLattice.B15 : List Nat := [0, 1, 3, 7, 15, 31, 63, 63, 191, 511, 1023, 2047]
theorem L2_CongrLattice.tab15 : rtab .any (opsOf Tryd.f8 15) = L2_CongrLattice.T15 := by kernel_rfl
theorem L2_CongrLattice.bits15 : waitsOk L2_CongrLattice.T15.2 L2_CongrLattice.B15 = true := by kernel_rfl
def L2_CongrLattice.T17 : Bool × List (List Nat × List Nat) := (true, [([], []), ([0], [0]), ([], []), ([2, 1], [2]), ([1, 3, 3], [1, 3]), ([4], [4]), ([5], [5]), ([5], [5]), ([], []), ([8, 6, 4, 0, 1, 2, 3, 4, 5, 6, 8], [6, 8]), ([7, 9, 0, 1, 2, 3, 4, 5, 6, 7, 8, 9], [7])])
def L2_CongrLattice.B17 : List Nat := [0, 1, 0, 7, 15, 31, 63, 63, 0, 383, 1023]
theorem L2_CongrLattice.tab17 : rtab .any (opsOf Tryd.f8 17) = L2_CongrLattice.T17 := by kernel_rfl
theorem L2_CongrLattice.bits17 : waitsOk L2_CongrLattice.T17.2 L2_CongrLattice.B17 = true := by kernel_rfl
def L2_CongrLattice.T18 : Bool × List (List Nat × List Nat) := (true, [([], []), ([0], [0]), ([], []), ([2, 1], [2]), ([1, 3, 3], [1, 3]), ([4], [4]), ([5], [5]), ([5], [5]), ([], []), ([8, 6, 4, 0, 1, 2, 3, 4, 5, 6, 8], [6, 8]), ([7, 9, 0, 1, 2, 3, 4, 5, 6, 7, 8, 9], [7])])
def L2_CongrLattice.B18 : List Nat := [0, 1, 0, 7, 15, 31, 63, 63, 0, 383, 1023]
theorem L2_CongrLattice.tab18 : rtab .any (opsOf Tryd.f8 18) = L2_CongrLattice.T18 := by kernel_rfl
theorem L2_CongrLattice.bits18 : waitsOk L2_CongrLattice.T18.2 L2_CongrLattice.B18 = true := by kernel_rfl
def L2_CongrLattice.T19 : Bool × List (List Nat × List Nat) := (true, [([], []), ([0], [0]), ([], []), ([2, 1], [2]), ([1, 3, 3], [1, 3]), ([4], [4]), ([5], [5]), ([5], [5]), ([], []), ([8, 6, 4, 0, 1, 2, 3, 4, 5, 6, 8], [6, 8]), ([7, 9, 0, 1, 2, 3, 4, 5, 6, 7, 8, 9], [7])])
def L2_CongrLattice.B19 : List Nat := [0, 1, 0, 7, 15, 31, 63, 63, 0, 383, 1023]
theorem L2_CongrLattice.tab19 : rtab .any (opsOf Tryd.f8 19) = L2_CongrLattice.T19 := by kernel_rfl
theorem L2_CongrLattice.bits19 : waitsOk L2_CongrLattice.T19.2 L2_CongrLattice.B19 = true := by kernel_rfl
def L2_CongrLattice.T20 : Bool × List (List Nat × List Nat) := (true, [([], []), ([0], [0]), ([], []), ([2, 1], [2]), ([1, 3, 3], [1, 3]), ([4], [4]), ([5], [5]), ([5], [5]), ([], []), ([8, 6, 4, 0, 1, 2, 3, 4, 5, 6, 8], [6, 8]), ([7, 9, 0, 1, 2, 3, 4, 5, 6, 7, 8, 9], [7])])
def L2_CongrLattice.B20 : List Nat := [0, 1, 0, 7, 15, 31, 63, 63, 0, 383, 1023]
theorem L2_CongrLattice.tab20 : rtab .any (opsOf Tryd.f8 20) = L2_CongrLattice.T20 := by kernel_rfl
theorem L2_CongrLattice.bits20 : waitsOk L2_CongrLattice.T20.2 L2_CongrLattice.B20 = true := by kernel_rfl
def L2_CongrLattice.T21 : Bool × List (List Nat × List Nat) := (true, [([], []), ([0], [0]), ([], []), ([2, 1], [2]), ([1, 3, 3], [1, 3]), ([4], [4]), ([5], [5]), ([5], [5]), ([], []), ([8, 6, 4, 0, 1, 2, 3, 4, 5, 6, 8], [6, 8]), ([7, 9, 0, 1, 2, 3, 4, 5, 6, 7, 8, 9], [7])])
def L2_CongrLattice.B21 : List Nat := [0, 1, 0, 7, 15, 31, 63, 63, 0, 383, 1023]
theorem L2_CongrLattice.tab21 : rtab .any (opsOf Tryd.f8 21) = L2_CongrLattice.T21 := by kernel_rfl
theorem L2_CongrLattice.bits21 : waitsOk L2_CongrLattice.T21.2 L2_CongrLattice.B21 = true := by kernel_rfl

end Go.Proofs.YtjpboodkmhikpaaDoor.C
