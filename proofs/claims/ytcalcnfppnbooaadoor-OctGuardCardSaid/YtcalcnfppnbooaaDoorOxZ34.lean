import Derived.Test.YtcalcnfppnbooaaDoorOxSp
import Derived.Test.YtcalcnfppnbooaaDoorOxEb
import Derived.Test.YtcalcnfppnbooaaDoorOxZ0
import Derived.Test.YtcalcnfppnbooaaDoorOxZ6
import Derived.Test.YtcalcnfppnbooaaDoorOxZ23
-- Written by wip/xprint.py (the session's program over the kit's print).
namespace Go.Proofs.YtcalcnfppnbooaaDoor.Z
open Go.RowKit Go.Proofs.YtcalcnfppnbooaaDoorW.PrintWords Go.Proofs.YtcalcnfppnbooaaDoorW.PrintLast Go.Proofs.YtcalcnfppnbooaaDoorW.PrintMore Go.Proofs.Rcg
attribute [local go_sem] max2_int min2_int max_two min_two max_three min_three max_four min_four   -- for this text's walks alone
set_option linter.unusedVariables false
set_option linter.unusedSimpArgs false

/-! ### R2_BoundOct: function 58 -/
mutual
def R2_BoundOct.j0 : Nat → Int → Int → Int → Int → Int → Int → Int → List (S67) → Option (Int × (List (S67)))
 | 0, _, _, _, _, _, _, _, _ => none
 | k + 1, x1, x3, x4, x5, x13, x15, x922000, x922001 => if x3 < 0 then (R2_BoundOct.j1 k x1 x3 x5 x13 x15 (wrap64 ((wrap64 (2 * x4)) + 1)) x922000 x922001) else (R2_BoundOct.j1 k x1 x3 x5 x13 x15 (wrap64 (2 * x4)) x922000 x922001)
def R2_BoundOct.j1 : Nat → Int → Int → Int → Int → Int → Int → Int → List (S67) → Option (Int × (List (S67)))
 | 0, _, _, _, _, _, _, _, _ => none
 | k + 1, x1, x3, x5, x13, x15, x16, x922000, x922001 => if x1 = 0 then (R2_BoundOct.j2 k x1 x3 x5 x13 x16 x16 x922000 x922001) else (R2_BoundOct.j2 k x1 x3 x5 x13 x15 x16 x922000 x922001)
def R2_BoundOct.j2 : Nat → Int → Int → Int → Int → Int → Int → Int → List (S67) → Option (Int × (List (S67)))
 | 0, _, _, _, _, _, _, _, _ => none
 | k + 1, x1, x3, x5, x13, x15, x16, x922000, x922001 => if x3 = 0 then (R2_BoundOct.j3 k x1 x3 x5 x13 x15 x15 x922000 x922001) else (R2_BoundOct.j3 k x1 x3 x5 x13 x15 x16 x922000 x922001)
def R2_BoundOct.j3 : Nat → Int → Int → Int → Int → Int → Int → Int → List (S67) → Option (Int × (List (S67)))
 | 0, _, _, _, _, _, _, _, _ => none
 | k + 1, x1, x3, x5, x13, x15, x16, x922000, x922001 => if x1 = 0 then (R2_BoundOct.j4 k x5 x13 x15 x16 true x922000 x922001) else (R2_BoundOct.j4 k x5 x13 x15 x16 (x3 == 0) x922000 x922001)
def R2_BoundOct.j4 : Nat → Int → Int → Int → Int → Bool → Int → List (S67) → Option (Int × (List (S67)))
 | 0, _, _, _, _, _, _, _ => none
 | k + 1, x5, x13, x15, x16, x52, x922000, x922001 => if x52 = true then (R2_BoundOct.j5 k (wrap64 (2 * x5)) x13 x15 x16 x922000 x922001) else (R2_BoundOct.j5 k x5 x13 x15 x16 x922000 x922001)
def R2_BoundOct.j5 : Nat → Int → Int → Int → Int → Int → List (S67) → Option (Int × (List (S67)))
 | 0, _, _, _, _, _, _ => none
 | k + 1, x5, x13, x15, x16, x922000, x922001 => (R2_other.f x16).bind fun t925 => ((R2_lower.f x922001 (wrap64 ((wrap64 (t925 * x13)) + x15)) x5).bind fun bt926 => ((R2_other.f x15).bind fun t928 => ((R2_lower.f bt926.2 (wrap64 ((wrap64 (t928 * x13)) + x16)) x5).bind fun bt929 => (some (x922000, bt929.2)))))
end
def R2_BoundOct.f (k : Nat) (a0_0 : Int) (l0_1 : List (S67)) (a1 : Int) (a2 : Int) (a3 : Int) (a4 : Int) (a5 : Int) : Option (Int × (List (S67))) := if ([] : List (S67)).length + l0_1.length < 8796093022208 then ((some (([] : List (S67)) ++ l0_1 : List (S67))).bind fun y922 => (if a1 < 0 then (R2_BoundOct.j0 k a1 a3 a4 a5 (wrap64 (2 * a0_0)) (wrap64 ((wrap64 (2 * a2)) + 1)) a0_0 y922) else (R2_BoundOct.j0 k a1 a3 a4 a5 (wrap64 (2 * a0_0)) (wrap64 (2 * a2)) a0_0 y922))) else (none)
theorem R2_BoundOct.mono_l : ∀ k, (∀ y0 y1 y2 y3 y4 y5 y6 y7, LeO (R2_BoundOct.j0 k y0 y1 y2 y3 y4 y5 y6 y7) (R2_BoundOct.j0 (k + 1) y0 y1 y2 y3 y4 y5 y6 y7)) ∧ (∀ y0 y1 y2 y3 y4 y5 y6 y7, LeO (R2_BoundOct.j1 k y0 y1 y2 y3 y4 y5 y6 y7) (R2_BoundOct.j1 (k + 1) y0 y1 y2 y3 y4 y5 y6 y7)) ∧ (∀ y0 y1 y2 y3 y4 y5 y6 y7, LeO (R2_BoundOct.j2 k y0 y1 y2 y3 y4 y5 y6 y7) (R2_BoundOct.j2 (k + 1) y0 y1 y2 y3 y4 y5 y6 y7)) ∧ (∀ y0 y1 y2 y3 y4 y5 y6 y7, LeO (R2_BoundOct.j3 k y0 y1 y2 y3 y4 y5 y6 y7) (R2_BoundOct.j3 (k + 1) y0 y1 y2 y3 y4 y5 y6 y7)) ∧ (∀ y0 y1 y2 y3 y4 y5 y6, LeO (R2_BoundOct.j4 k y0 y1 y2 y3 y4 y5 y6) (R2_BoundOct.j4 (k + 1) y0 y1 y2 y3 y4 y5 y6)) ∧ (∀ y0 y1 y2 y3 y4 y5, LeO (R2_BoundOct.j5 k y0 y1 y2 y3 y4 y5) (R2_BoundOct.j5 (k + 1) y0 y1 y2 y3 y4 y5))
 | 0 => ⟨fun _ _ _ _ _ _ _ _ r h => by simp [R2_BoundOct.j0] at h, fun _ _ _ _ _ _ _ _ r h => by simp [R2_BoundOct.j1] at h, fun _ _ _ _ _ _ _ _ r h => by simp [R2_BoundOct.j2] at h, fun _ _ _ _ _ _ _ _ r h => by simp [R2_BoundOct.j3] at h, fun _ _ _ _ _ _ _ r h => by simp [R2_BoundOct.j4] at h, fun _ _ _ _ _ _ r h => by simp [R2_BoundOct.j5] at h⟩
 | k + 1 => by
  obtain ⟨ih0, ih1, ih2, ih3, ih4, ih5⟩ := R2_BoundOct.mono_l k
  refine ⟨?_, ?_, ?_, ?_, ?_, ?_⟩
  ·intro y0 y1 y2 y3 y4 y5 y6 y7
   unfold R2_BoundOct.j0
   repeat' first
   | (with_reducible exact ih0 _ _ _ _ _ _ _ _)
   | (with_reducible exact ih1 _ _ _ _ _ _ _ _)
   | (with_reducible exact ih2 _ _ _ _ _ _ _ _)
   | (with_reducible exact ih3 _ _ _ _ _ _ _ _)
   | (with_reducible exact ih4 _ _ _ _ _ _ _)
   | (with_reducible exact ih5 _ _ _ _ _ _)
   | (with_reducible exact LeO.refl _)
   | (with_reducible exact LeO.none _)
   | (with_reducible refine LeO.ite ?_ ?_)
   | (with_reducible refine LeO.bind ?_ (fun _ => ?_))
   | exact ih0 _ _ _ _ _ _ _ _
   | exact ih1 _ _ _ _ _ _ _ _
   | exact ih2 _ _ _ _ _ _ _ _
   | exact ih3 _ _ _ _ _ _ _ _
   | exact ih4 _ _ _ _ _ _ _
   | exact ih5 _ _ _ _ _ _
   | exact LeO.none _
   | refine LeO.ite ?_ ?_
   | refine LeO.bind ?_ (fun _ => ?_)
  ·intro y0 y1 y2 y3 y4 y5 y6 y7
   unfold R2_BoundOct.j1
   repeat' first
   | (with_reducible exact ih0 _ _ _ _ _ _ _ _)
   | (with_reducible exact ih1 _ _ _ _ _ _ _ _)
   | (with_reducible exact ih2 _ _ _ _ _ _ _ _)
   | (with_reducible exact ih3 _ _ _ _ _ _ _ _)
   | (with_reducible exact ih4 _ _ _ _ _ _ _)
   | (with_reducible exact ih5 _ _ _ _ _ _)
   | (with_reducible exact LeO.refl _)
   | (with_reducible exact LeO.none _)
   | (with_reducible refine LeO.ite ?_ ?_)
   | (with_reducible refine LeO.bind ?_ (fun _ => ?_))
   | exact ih0 _ _ _ _ _ _ _ _
   | exact ih1 _ _ _ _ _ _ _ _
   | exact ih2 _ _ _ _ _ _ _ _
   | exact ih3 _ _ _ _ _ _ _ _
   | exact ih4 _ _ _ _ _ _ _
   | exact ih5 _ _ _ _ _ _
   | exact LeO.none _
   | refine LeO.ite ?_ ?_
   | refine LeO.bind ?_ (fun _ => ?_)
  ·intro y0 y1 y2 y3 y4 y5 y6 y7
   unfold R2_BoundOct.j2
   repeat' first
   | (with_reducible exact ih0 _ _ _ _ _ _ _ _)
   | (with_reducible exact ih1 _ _ _ _ _ _ _ _)
   | (with_reducible exact ih2 _ _ _ _ _ _ _ _)
   | (with_reducible exact ih3 _ _ _ _ _ _ _ _)
   | (with_reducible exact ih4 _ _ _ _ _ _ _)
   | (with_reducible exact ih5 _ _ _ _ _ _)
   | (with_reducible exact LeO.refl _)
   | (with_reducible exact LeO.none _)
   | (with_reducible refine LeO.ite ?_ ?_)
   | (with_reducible refine LeO.bind ?_ (fun _ => ?_))
   | exact ih0 _ _ _ _ _ _ _ _
   | exact ih1 _ _ _ _ _ _ _ _
   | exact ih2 _ _ _ _ _ _ _ _
   | exact ih3 _ _ _ _ _ _ _ _
   | exact ih4 _ _ _ _ _ _ _
   | exact ih5 _ _ _ _ _ _
   | exact LeO.none _
   | refine LeO.ite ?_ ?_
   | refine LeO.bind ?_ (fun _ => ?_)
  ·intro y0 y1 y2 y3 y4 y5 y6 y7
   unfold R2_BoundOct.j3
   repeat' first
   | (with_reducible exact ih0 _ _ _ _ _ _ _ _)
   | (with_reducible exact ih1 _ _ _ _ _ _ _ _)
   | (with_reducible exact ih2 _ _ _ _ _ _ _ _)
   | (with_reducible exact ih3 _ _ _ _ _ _ _ _)
   | (with_reducible exact ih4 _ _ _ _ _ _ _)
   | (with_reducible exact ih5 _ _ _ _ _ _)
   | (with_reducible exact LeO.refl _)
   | (with_reducible exact LeO.none _)
   | (with_reducible refine LeO.ite ?_ ?_)
   | (with_reducible refine LeO.bind ?_ (fun _ => ?_))
   | exact ih0 _ _ _ _ _ _ _ _
   | exact ih1 _ _ _ _ _ _ _ _
   | exact ih2 _ _ _ _ _ _ _ _
   | exact ih3 _ _ _ _ _ _ _ _
   | exact ih4 _ _ _ _ _ _ _
   | exact ih5 _ _ _ _ _ _
   | exact LeO.none _
   | refine LeO.ite ?_ ?_
   | refine LeO.bind ?_ (fun _ => ?_)
  ·intro y0 y1 y2 y3 y4 y5 y6
   unfold R2_BoundOct.j4
   repeat' first
   | (with_reducible exact ih0 _ _ _ _ _ _ _ _)
   | (with_reducible exact ih1 _ _ _ _ _ _ _ _)
   | (with_reducible exact ih2 _ _ _ _ _ _ _ _)
   | (with_reducible exact ih3 _ _ _ _ _ _ _ _)
   | (with_reducible exact ih4 _ _ _ _ _ _ _)
   | (with_reducible exact ih5 _ _ _ _ _ _)
   | (with_reducible exact LeO.refl _)
   | (with_reducible exact LeO.none _)
   | (with_reducible refine LeO.ite ?_ ?_)
   | (with_reducible refine LeO.bind ?_ (fun _ => ?_))
   | exact ih0 _ _ _ _ _ _ _ _
   | exact ih1 _ _ _ _ _ _ _ _
   | exact ih2 _ _ _ _ _ _ _ _
   | exact ih3 _ _ _ _ _ _ _ _
   | exact ih4 _ _ _ _ _ _ _
   | exact ih5 _ _ _ _ _ _
   | exact LeO.none _
   | refine LeO.ite ?_ ?_
   | refine LeO.bind ?_ (fun _ => ?_)
  intro y0 y1 y2 y3 y4 y5
  unfold R2_BoundOct.j5
  repeat' first
  | (with_reducible exact ih0 _ _ _ _ _ _ _ _)
  | (with_reducible exact ih1 _ _ _ _ _ _ _ _)
  | (with_reducible exact ih2 _ _ _ _ _ _ _ _)
  | (with_reducible exact ih3 _ _ _ _ _ _ _ _)
  | (with_reducible exact ih4 _ _ _ _ _ _ _)
  | (with_reducible exact ih5 _ _ _ _ _ _)
  | (with_reducible exact LeO.refl _)
  | (with_reducible exact LeO.none _)
  | (with_reducible refine LeO.ite ?_ ?_)
  | (with_reducible refine LeO.bind ?_ (fun _ => ?_))
  | exact ih0 _ _ _ _ _ _ _ _
  | exact ih1 _ _ _ _ _ _ _ _
  | exact ih2 _ _ _ _ _ _ _ _
  | exact ih3 _ _ _ _ _ _ _ _
  | exact ih4 _ _ _ _ _ _ _
  | exact ih5 _ _ _ _ _ _
  | exact LeO.none _
  | refine LeO.ite ?_ ?_
  | refine LeO.bind ?_ (fun _ => ?_)
theorem R2_BoundOct.mono : ∀ a0 a1 a2 a3 a4 a5 a6 k, LeO (R2_BoundOct.f k a0 a1 a2 a3 a4 a5 a6) (R2_BoundOct.f (k + 1) a0 a1 a2 a3 a4 a5 a6) := by
 intro a0 a1 a2 a3 a4 a5 a6 k
 obtain ⟨ih0, ih1, ih2, ih3, ih4, ih5⟩ := R2_BoundOct.mono_l k
 unfold R2_BoundOct.f
 repeat' first
   | (with_reducible exact ih0 _ _ _ _ _ _ _ _)
   | (with_reducible exact ih1 _ _ _ _ _ _ _ _)
   | (with_reducible exact ih2 _ _ _ _ _ _ _ _)
   | (with_reducible exact ih3 _ _ _ _ _ _ _ _)
   | (with_reducible exact ih4 _ _ _ _ _ _ _)
   | (with_reducible exact ih5 _ _ _ _ _ _)
   | (with_reducible exact LeO.refl _)
   | (with_reducible exact LeO.none _)
   | (with_reducible refine LeO.ite ?_ ?_)
   | (with_reducible refine LeO.bind ?_ (fun _ => ?_))
   | exact ih0 _ _ _ _ _ _ _ _
   | exact ih1 _ _ _ _ _ _ _ _
   | exact ih2 _ _ _ _ _ _ _ _
   | exact ih3 _ _ _ _ _ _ _ _
   | exact ih4 _ _ _ _ _ _ _
   | exact ih5 _ _ _ _ _ _
   | exact LeO.none _
   | refine LeO.ite ?_ ?_
   | refine LeO.bind ?_ (fun _ => ?_)
def R2_BoundOct.T16 : Bool × List (List Nat × List Nat) := (true, [([], []), ([0], [0]), ([], []), ([2], [2]), ([], []), ([3, 4], [3, 4]), ([], []), ([5, 6], [5, 6]), ([], []), ([1, 7, 8, 3], [1, 7, 8])])
def R2_BoundOct.B16 : List Nat := [0, 1, 0, 4, 0, 28, 0, 124, 0, 511]
theorem R2_BoundOct.tab16 : rtab .any (opsOf Tryd.f58 16) = R2_BoundOct.T16 := by kernel_rfl
theorem R2_BoundOct.bits16 : waitsOk R2_BoundOct.T16.2 R2_BoundOct.B16 = true := by kernel_rfl
def R2_BoundOct.T17 : Bool × List (List Nat × List Nat) := (true, [([], []), ([0], [0]), ([], []), ([2], [2]), ([], []), ([3, 4], [3, 4]), ([], []), ([5, 6], [5, 6]), ([], []), ([1, 7, 8, 3], [1, 7, 8])])
def R2_BoundOct.B17 : List Nat := [0, 1, 0, 4, 0, 28, 0, 124, 0, 511]
theorem R2_BoundOct.tab17 : rtab .any (opsOf Tryd.f58 17) = R2_BoundOct.T17 := by kernel_rfl
theorem R2_BoundOct.bits17 : waitsOk R2_BoundOct.T17.2 R2_BoundOct.B17 = true := by kernel_rfl
set_option maxHeartbeats 8000000 in
set_option maxRecDepth 100000 in
theorem R2_BoundOct.calls [EA] (k : Nat) (a0_0 : Int) (A0_1 : Option Addr) (c0_1 : Nat) (l0_1 : List (S67)) (a1 : Int) (a2 : Int) (a3 : Int) (a4 : Int) (a5 : Int) (r1 : Int) (r2 : List (S67)) (w : World) (hr0_1 : Kd.C k67 w A0_1 l0_1.length l0_1) (hc0_1 : l0_1.length ≤ c0_1) (h : R2_BoundOct.f k a0_0 l0_1 a1 a2 a3 a4 a5 = some (r1, r2)) :
  Calls Tryd.prog 58 #[.agg #[.int .i64 a0_0, .slice A0_1 l0_1.length c0_1], .int .i64 a1, .int .i64 a2, .int .i64 a3, .int .i64 a4, .int .i64 a5] w fun e w' => ∃ v1_ : Value, e = .returned (.agg #[.int .i64 r1, v1_]) ∧ Kd.R k67 67 w' w.heap.size (fun _ => True) v1_ r2 ∧ Below w.heap.size w w' := by
 have hu70 := Tryd.underlying70
 have HR0_1 := am hr0_1
 have HC0_1 := am hc0_1
 clear hr0_1 hc0_1
 have HB := am (Below.refl w.heap.size w)
 have H : (if ([] : List (S67)).length + l0_1.length < 8796093022208 then ((some (([] : List (S67)) ++ l0_1 : List (S67))).bind fun y922 => (if a1 < 0 then (R2_BoundOct.j0 k a1 a3 a4 a5 (wrap64 (2 * a0_0)) (wrap64 ((wrap64 (2 * a2)) + 1)) a0_0 y922) else (R2_BoundOct.j0 k a1 a3 a4 a5 (wrap64 (2 * a0_0)) (wrap64 (2 * a2)) a0_0 y922))) else (none)) = some (r1, r2) := h
 clear h
 by_cases c7 : ([] : List (S67)).length + l0_1.length < 8796093022208
 ·rw [if_pos c7] at H
  have LMc7 := am c7
  clear c7
  obtain ⟨y922, hy922⟩ : ∃ y_ : List (S67), y_ = (([] : List (S67)) ++ l0_1) := ⟨_, rfl⟩
  replace H : (if a1 < 0 then (R2_BoundOct.j0 k a1 a3 a4 a5 (wrap64 (2 * a0_0)) (wrap64 ((wrap64 (2 * a2)) + 1)) a0_0 y922) else (R2_BoundOct.j0 k a1 a3 a4 a5 (wrap64 (2 * a0_0)) (wrap64 (2 * a2)) a0_0 y922)) = some (r1, r2) := by first | (rw [hy922]; with_reducible exact H) | (have H2_ := (Option.bind_some _ _).symm.trans H; rw [hy922]; with_reducible exact H2_) | (have H2_ := (Option.bind_some _ _).symm.trans H; with_reducible exact H2_) | with_reducible exact H | (rw [hy922]; exact H) | exact H
  have Ny922 := am hy922
  clear hy922
  have HC8 := am H
  clear H
  go_enter Tryd.func58, Tryd.ntmps58
  go_upto_if 32 with (first | ((with_reducible refine gate_dst (N := 6) rfl ?_); refine box_event ?hg (N := 6) ?hd (cs := #[.int .i64 a0_0, .slice A0_1 l0_1.length c0_1]) (t := 70) ?hr ?_; (case hd => rfl); (case hg => rfl); (case hr => first | (go_simp; done) | (go_simp; rfl)); intro gb919 hg w9 hbox hb; have n0_ := am (below_step pw hb); have n1_ := am (hbox); have n2_ := am (sz (w := w) hg pw); have n3_ := am (sz (w := w) hg pw); clear HB; revert n0_ n1_ n2_ n3_; intro HB BK919 GW919 GE919; clear hb hbox hg) | ((with_reducible refine gate_dst (N := 12) rfl ?_); refine box_event ?hg (N := 12) ?hd (cs := #[.int .i64 0, .slice none 0 0]) (t := 70) ?hr ?_; (case hd => rfl); (case hg => rfl); (case hr => first | (go_simp; done) | (go_simp; rfl)); intro gb920 hg w10 hbox hb; have n0_ := bb BK919 hb; have n1_ := am (below_step pw hb); have n2_ := am (hbox); have n3_ := am (sz (w := w) hg pw); have n4_ := am (sz (w := w) hg pw); have n5_ := am (nl BK919 hg); have n6_ := am ((nl BK919 hg).symm); clear BK919 HB; revert n0_ n1_ n2_ n3_ n4_ n5_ n6_; intro BK919 HB BK920 GW920 GE920 NB919_920 NB920_919; clear hb hbox hg; have hnb11 := NB919_920.out; have hnc11 := NB920_919.out; have hcz12_0 : w10.cell? ⟨gb919, 0, none⟩ = some (.int .i64 a0_0) := bc BK919 0; have hcz12_1 : w10.cell? ⟨gb919, 1, none⟩ = some (.slice A0_1 l0_1.length c0_1) := bc BK919 1; have hfz12_0 := blk_frozen BK919.out 0; have hfz12_1 := blk_frozen BK919.out 1) | ((with_reducible refine gate_dst (N := 14) rfl ?_); refine box_event ?hg (N := 14) ?hd (cs := #[.int .i64 0, .slice none 0 0]) (t := 70) ?hr ?_; (case hd => rfl); (case hg => rfl); (case hr => first | (go_simp; done) | (go_simp; rfl)); intro gb921 hg w13 hbox hb; have n0_ := bb BK919 hb; have n1_ := bb BK920 hb; have n2_ := am (below_step pw hb); have n3_ := am (hbox); have n4_ := am (sz (w := w) hg pw); have n5_ := am (sz (w := w) hg pw); have n6_ := am (nl BK919 hg); have n7_ := am ((nl BK919 hg).symm); have n8_ := am (nl BK920 hg); have n9_ := am ((nl BK920 hg).symm); clear BK919 BK920 HB; revert n0_ n1_ n2_ n3_ n4_ n5_ n6_ n7_ n8_ n9_; intro BK919 BK920 HB BK921 GW921 GE921 NB919_921 NB921_919 NB920_921 NB921_920; clear hb hbox hg; have hnb14 := NB921_919.out; have hnc14 := NB919_921.out; have hnb15 := NB921_920.out; have hnc15 := NB920_921.out; have hcz16_0 : w13.cell? ⟨gb921, 0, none⟩ = some (.int .i64 0) := bc BK921 0; have hcz16_1 : w13.cell? ⟨gb921, 1, none⟩ = some (.slice none 0 0) := bc BK921 1; have hfz16_0 := blk_frozen BK921.out 0; have hfz16_1 := blk_frozen BK921.out 1; have hcz17_0 : w13.cell? ⟨gb919, 0, none⟩ = some (.int .i64 a0_0) := bc BK919 0; have hcz17_1 : w13.cell? ⟨gb919, 1, none⟩ = some (.slice A0_1 l0_1.length c0_1) := bc BK919 1; have hfz17_0 := blk_frozen BK919.out 0; have hfz17_1 := blk_frozen BK919.out 1) | ((with_reducible refine gate_builtin (b := .append) (xs := #[.tmp 24, .tmp 26]) rfl ?_); at_builtin; refine Kd.R_append_rows k67 (w0 := w) w.heap.size rfl (.tmp 24) (.tmp 26) 22 67 (.agg #[(.bool false), (.int .i64 0)]) 16 rfl Tryd.underlying22 info67 rfl (by decide) (by omega) (.slice none 0 0) ([] : List (S67)) l0_1 _ _ _ (fun _ => True) (fun _ => False) rfl rfl ?aO ?aR (fun _ _ h => h) (fun _ h => h.elim) ?aF ?aB ?aS ?aL ?_; (case aR => exact Kd.C_below HR0_1.out pw); (case aB => exact pw); (case aF => exact (fun _ _ => trivial)); (case aO => exact ((Kd.R_nil _ _ _ _ (fun _ => True)))); (case aS => exact (below_size pw)); (case aL => have := LMc7.out; omega); intro v923 w18 ho hb hg hat; rw [← Ny922.out] at ho; have n0_ := am (blk_grown (g := gb919) (o := .cells #[.int .i64 a0_0, .slice A0_1 l0_1.length c0_1] 70 (0, 0)) pff hg (by simp [Value.ownBlock])); have n1_ := am (blk_grown (g := gb920) (o := .cells #[.int .i64 0, .slice none 0 0] 70 (0, 0)) pff hg (by simp [Value.ownBlock])); have n2_ := am (blk_grown (g := gb921) (o := .cells #[.int .i64 a0_0, .slice none 0 0] 70 (0, 0)) (by (with_reducible repeat (first | refine blk_drewN ?_ _ | refine blk_drew ?_ | refine blk_alloc ?_ _)); refine blk_put (cs := #[.int .i64 a0_0, .slice none 0 0]) ?_ 1 _ rfl; (with_reducible repeat (first | refine blk_drewN ?_ _ | refine blk_drew ?_ | refine blk_alloc ?_ _)); refine blk_put (cs := #[.int .i64 0, .slice none 0 0]) ?_ 0 _ rfl; (with_reducible repeat (first | refine blk_drewN ?_ _ | refine blk_drew ?_ | refine blk_alloc ?_ _)); exact BK921.out) hg (by simp [Value.ownBlock])); have n3_ := am (hb); have n4_ := am (ho); clear BK919 BK920 BK921 HB; revert n0_ n1_ n2_ n3_ n4_; intro BK919 BK920 BK921 HB HO924; clear ho hb hg hat; obtain ⟨Ao19, co19, eo19⟩ := Kd.R_slice HO924.out; subst eo19; have hcz20_0 : w18.cell? ⟨gb921, 0, none⟩ = some (.int .i64 a0_0) := bc BK921 0; have hcz20_1 : w18.cell? ⟨gb921, 1, none⟩ = some (.slice none 0 0) := bc BK921 1; have hfz20_0 := blk_frozen BK921.out 0; have hfz20_1 := blk_frozen BK921.out 1))
  (try simp only [Act.put, List.setIfInBounds_toArray, List.set_cons_zero, List.set_cons_succ])
  go_cut [15] (fun v15 wc => ∃ (kq : Nat) (x15_7 : Int), v15 = .int .i64 x15_7 ∧ Aside0 (R2_BoundOct.j0 kq a1 a3 a4 a5 (wrap64 (2 * a0_0)) x15_7 a0_0 y922 = some (r1, r2)) ∧ Aside0 (kq ≤ k) ∧ Aside0 (Kd.R k67 67 wc w.heap.size (fun _ => True) (.slice Ao19 y922.length co19) y922) ∧ Aside0 (wc.heap[gb919]? = some (.cells #[.int .i64 a0_0, (.slice A0_1 l0_1.length c0_1)] 70 (0, 0))) ∧ Aside0 (wc.heap[gb920]? = some (.cells #[.int .i64 0, (.slice none 0 0)] 70 (0, 0))) ∧ Aside0 (wc.heap[gb921]? = some (.cells #[.int .i64 a0_0, (.slice Ao19 y922.length co19)] 70 (0, 0))) ∧ Aside0 (Below w.heap.size w wc))
  case first =>
   have H := HC8.out; clear HC8; by_cases c21 : a1 < 0
   ·rw [if_pos c21] at H
    have c21b0 : decide (a1 < 0) = true := decide_eq_true c21; clear c21; (first | rw [c21b0] | (simp only [i64_w, i32_w]; rw [c21b0]) | skip); have H' := am H; clear H; go_wp2; go_meet
    case rel => exact ⟨_, (wrap64 ((wrap64 (2 * a2)) + 1)), pr, H', ⟨by first | omega | exact Nat.le_refl _⟩, ⟨by (with_reducible repeat (first | apply Kd.R_alloc | apply Kd.R_drewN | apply Kd.R_drew)); exact Kd.R_mono (Kd.R_far (p := ⟨gb921, 1, none⟩) (Kd.R_types HO924.out BK921.out (by decide)) (fun _ hk => hk.2) (.slice Ao19 y922.length co19)) (fun _ hk => trivial)⟩, ⟨by (with_reducible repeat (first | refine blk_drewN ?_ _ | refine blk_drew ?_ | refine blk_alloc ?_ _)); refine blk_far ?_ NB919_921.out _; (with_reducible repeat (first | refine blk_drewN ?_ _ | refine blk_drew ?_ | refine blk_alloc ?_ _)); exact BK919.out⟩, ⟨by (with_reducible repeat (first | refine blk_drewN ?_ _ | refine blk_drew ?_ | refine blk_alloc ?_ _)); refine blk_far ?_ NB920_921.out _; (with_reducible repeat (first | refine blk_drewN ?_ _ | refine blk_drew ?_ | refine blk_alloc ?_ _)); exact BK920.out⟩, ⟨by (with_reducible repeat (first | refine blk_drewN ?_ _ | refine blk_drew ?_ | refine blk_alloc ?_ _)); refine blk_put (cs := #[.int .i64 a0_0, .slice none 0 0]) ?_ 1 _ rfl; (with_reducible repeat (first | refine blk_drewN ?_ _ | refine blk_drew ?_ | refine blk_alloc ?_ _)); exact BK921.out⟩, ⟨pw⟩⟩
   rw [if_neg c21] at H; have c21b0 : decide (a1 < 0) = false := decide_eq_false c21; clear c21; (first | rw [c21b0] | (simp only [i64_w, i32_w]; rw [c21b0]) | skip); have H' := am H; clear H; go_wp2; go_meet
   case rel => exact ⟨_, (wrap64 (2 * a2)), pr, H', ⟨by first | omega | exact Nat.le_refl _⟩, ⟨by (with_reducible repeat (first | apply Kd.R_alloc | apply Kd.R_drewN | apply Kd.R_drew)); exact Kd.R_mono (Kd.R_far (p := ⟨gb921, 1, none⟩) (Kd.R_types HO924.out BK921.out (by decide)) (fun _ hk => hk.2) (.slice Ao19 y922.length co19)) (fun _ hk => trivial)⟩, ⟨by (with_reducible repeat (first | refine blk_drewN ?_ _ | refine blk_drew ?_ | refine blk_alloc ?_ _)); refine blk_far ?_ NB919_921.out _; (with_reducible repeat (first | refine blk_drewN ?_ _ | refine blk_drew ?_ | refine blk_alloc ?_ _)); exact BK919.out⟩, ⟨by (with_reducible repeat (first | refine blk_drewN ?_ _ | refine blk_drew ?_ | refine blk_alloc ?_ _)); refine blk_far ?_ NB920_921.out _; (with_reducible repeat (first | refine blk_drewN ?_ _ | refine blk_drew ?_ | refine blk_alloc ?_ _)); exact BK920.out⟩, ⟨by (with_reducible repeat (first | refine blk_drewN ?_ _ | refine blk_drew ?_ | refine blk_alloc ?_ _)); refine blk_put (cs := #[.int .i64 a0_0, .slice none 0 0]) ?_ 1 _ rfl; (with_reducible repeat (first | refine blk_drewN ?_ _ | refine blk_drew ?_ | refine blk_alloc ?_ _)); exact BK921.out⟩, ⟨pw⟩⟩
  clear HC8
  (try clear c1)
  (try clear c2)
  (try clear p2)
  (try clear c5)
  (try clear p6)
  (try clear c7)
  (try clear c11)
  (try clear c14)
  (try clear c15)
  (try clear c21)
  (try clear c21b0)
  (try clear hcz12_0)
  (try clear hcz12_1)
  (try clear hcz16_0)
  (try clear hcz16_1)
  (try clear hcz17_0)
  (try clear hcz17_1)
  (try clear hcz20_0)
  (try clear hcz20_1)
  (try clear hfz12_0)
  (try clear hfz12_1)
  (try clear hfz16_0)
  (try clear hfz16_1)
  (try clear hfz17_0)
  (try clear hfz17_1)
  (try clear hfz20_0)
  (try clear hfz20_1)
  obtain ⟨kq, x15_7, rfl, HA, HJ7, HO_922001, BK919, BK920, BK921, HB⟩ := hcut
  cases kq with
  | zero => exact absurd HA.out (by simp [R2_BoundOct.j0])
  | succ kj7 =>
   have H := HA.out; clear HA; simp only [R2_BoundOct.j0] at H; have HC22 := am H; clear H; go_upto_if 38 with (fail); go_cut [16] (fun v16 wc => ∃ (kq : Nat) (x16_21 : Int), v16 = .int .i64 x16_21 ∧ Aside0 (R2_BoundOct.j1 kq a1 a3 a5 (wrap64 (2 * a0_0)) x15_7 x16_21 a0_0 y922 = some (r1, r2)) ∧ Aside0 (kq ≤ kj7) ∧ Aside0 (Kd.R k67 67 wc w.heap.size (fun _ => True) (.slice Ao19 y922.length co19) y922) ∧ Aside0 (wc.heap[gb919]? = some (.cells #[.int .i64 a0_0, (.slice A0_1 l0_1.length c0_1)] 70 (0, 0))) ∧ Aside0 (wc.heap[gb920]? = some (.cells #[.int .i64 0, (.slice none 0 0)] 70 (0, 0))) ∧ Aside0 (wc.heap[gb921]? = some (.cells #[.int .i64 a0_0, (.slice Ao19 y922.length co19)] 70 (0, 0))) ∧ Aside0 (Below w.heap.size w wc))
   case first =>
    have H := HC22.out; clear HC22; by_cases c23 : a3 < 0
    ·rw [if_pos c23] at H
     have c23b0 : decide (a3 < 0) = true := decide_eq_true c23; clear c23; (first | rw [c23b0] | (simp only [i64_w, i32_w]; rw [c23b0]) | skip); have H' := am H; clear H; go_wp2; go_meet
     case rel => exact ⟨_, (wrap64 ((wrap64 (2 * a4)) + 1)), pr, H', ⟨by have := HJ7.out; first | omega | exact Nat.le_refl _⟩, ⟨by (with_reducible repeat (first | apply Kd.R_alloc | apply Kd.R_drewN | apply Kd.R_drew)); exact HO_922001.out⟩, ⟨pk⟩, ⟨pk⟩, ⟨pk⟩, ⟨pw⟩⟩
    rw [if_neg c23] at H; have c23b0 : decide (a3 < 0) = false := decide_eq_false c23; clear c23; (first | rw [c23b0] | (simp only [i64_w, i32_w]; rw [c23b0]) | skip); have H' := am H; clear H; go_wp2; go_meet
    case rel => exact ⟨_, (wrap64 (2 * a4)), pr, H', ⟨by have := HJ7.out; first | omega | exact Nat.le_refl _⟩, ⟨by (with_reducible repeat (first | apply Kd.R_alloc | apply Kd.R_drewN | apply Kd.R_drew)); exact HO_922001.out⟩, ⟨pk⟩, ⟨pk⟩, ⟨pk⟩, ⟨pw⟩⟩
   clear HC22; (try clear c1); (try clear c2); (try clear p2); (try clear c5); (try clear p6); (try clear c7); (try clear c11); (try clear c14); (try clear c15); (try clear c21); (try clear c21b0); (try clear c23); (try clear c23b0); (try clear hcz12_0); (try clear hcz12_1); (try clear hcz16_0); (try clear hcz16_1); (try clear hcz17_0); (try clear hcz17_1); (try clear hcz20_0); (try clear hcz20_1); (try clear hfz12_0); (try clear hfz12_1); (try clear hfz16_0); (try clear hfz16_1); (try clear hfz17_0); (try clear hfz17_1); (try clear hfz20_0); (try clear hfz20_1); (try clear p2); (try clear p6); obtain ⟨kq, x16_21, rfl, HA, HJ21, HO_922001, BK919, BK920, BK921, HB⟩ := hcut; cases kq with
   | zero => exact absurd HA.out (by simp [R2_BoundOct.j1])
   | succ kj21 =>
    have H := HA.out; clear HA; simp only [R2_BoundOct.j1] at H; have HC24 := am H; clear H; go_upto_if 42 with (fail); go_cut [15] (fun v15 wc => ∃ (kq : Nat) (x15_23 : Int), v15 = .int .i64 x15_23 ∧ Aside0 (R2_BoundOct.j2 kq a1 a3 a5 (wrap64 (2 * a0_0)) x15_23 x16_21 a0_0 y922 = some (r1, r2)) ∧ Aside0 (kq ≤ kj21) ∧ Aside0 (Kd.R k67 67 wc w.heap.size (fun _ => True) (.slice Ao19 y922.length co19) y922) ∧ Aside0 (wc.heap[gb919]? = some (.cells #[.int .i64 a0_0, (.slice A0_1 l0_1.length c0_1)] 70 (0, 0))) ∧ Aside0 (wc.heap[gb920]? = some (.cells #[.int .i64 0, (.slice none 0 0)] 70 (0, 0))) ∧ Aside0 (wc.heap[gb921]? = some (.cells #[.int .i64 a0_0, (.slice Ao19 y922.length co19)] 70 (0, 0))) ∧ Aside0 (Below w.heap.size w wc))
    case first =>
     have H := HC24.out; clear HC24; by_cases c25 : a1 = 0
     ·rw [if_pos c25] at H
      have c25b0 : (a1 == 0) = true := beq_iff_eq.mpr c25; have c25b1 : (a1 != 0) = false := bne_eq_false_iff_eq.mpr c25; clear c25; (first | rw [c25b0] | (simp only [i64_w, i32_w]; rw [c25b0]) | skip); have H' := am H; clear H; go_wp2; go_meet
      case rel => exact ⟨_, (x16_21), pr, H', ⟨by have := HJ7.out; have := HJ21.out; first | omega | exact Nat.le_refl _⟩, ⟨by (with_reducible repeat (first | apply Kd.R_alloc | apply Kd.R_drewN | apply Kd.R_drew)); exact HO_922001.out⟩, ⟨pk⟩, ⟨pk⟩, ⟨pk⟩, ⟨pw⟩⟩
     rw [if_neg c25] at H; have c25b0 : (a1 == 0) = false := beq_eq_false_iff_ne.mpr c25; have c25b1 : (a1 != 0) = true := bne_iff_ne.mpr c25; (first | rw [c25b0] | (simp only [i64_w, i32_w]; rw [c25b0]) | skip); have H' := am H; clear H; go_wp2; go_meet
     case rel => exact ⟨_, (x15_7), pr, H', ⟨by have := HJ7.out; have := HJ21.out; first | omega | exact Nat.le_refl _⟩, ⟨by (with_reducible repeat (first | apply Kd.R_alloc | apply Kd.R_drewN | apply Kd.R_drew)); exact HO_922001.out⟩, ⟨pk⟩, ⟨pk⟩, ⟨pk⟩, ⟨pw⟩⟩
    clear HC24; (try clear c1); (try clear c2); (try clear p2); (try clear c5); (try clear p6); (try clear c7); (try clear c11); (try clear c14); (try clear c15); (try clear c21); (try clear c21b0); (try clear c23); (try clear c23b0); (try clear c25); (try clear c25b0); (try clear c25b1); (try clear hcz12_0); (try clear hcz12_1); (try clear hcz16_0); (try clear hcz16_1); (try clear hcz17_0); (try clear hcz17_1); (try clear hcz20_0); (try clear hcz20_1); (try clear hfz12_0); (try clear hfz12_1); (try clear hfz16_0); (try clear hfz16_1); (try clear hfz17_0); (try clear hfz17_1); (try clear hfz20_0); (try clear hfz20_1); (try clear p2); (try clear p6); obtain ⟨kq, x15_23, rfl, HA, HJ23, HO_922001, BK919, BK920, BK921, HB⟩ := hcut; cases kq with
    | zero => exact absurd HA.out (by simp [R2_BoundOct.j2])
    | succ kj23 =>
     have H := HA.out; clear HA; simp only [R2_BoundOct.j2] at H; have HC26 := am H; clear H; go_upto_if 45 with (fail); go_cut [16] (fun v16 wc => ∃ (kq : Nat) (x16_25 : Int), v16 = .int .i64 x16_25 ∧ Aside0 (R2_BoundOct.j3 kq a1 a3 a5 (wrap64 (2 * a0_0)) x15_23 x16_25 a0_0 y922 = some (r1, r2)) ∧ Aside0 (kq ≤ kj23) ∧ Aside0 (Kd.R k67 67 wc w.heap.size (fun _ => True) (.slice Ao19 y922.length co19) y922) ∧ Aside0 (wc.heap[gb919]? = some (.cells #[.int .i64 a0_0, (.slice A0_1 l0_1.length c0_1)] 70 (0, 0))) ∧ Aside0 (wc.heap[gb920]? = some (.cells #[.int .i64 0, (.slice none 0 0)] 70 (0, 0))) ∧ Aside0 (wc.heap[gb921]? = some (.cells #[.int .i64 a0_0, (.slice Ao19 y922.length co19)] 70 (0, 0))) ∧ Aside0 (Below w.heap.size w wc))
     case first =>
      have H := HC26.out; clear HC26; by_cases c27 : a3 = 0
      ·rw [if_pos c27] at H
       have c27b0 : (a3 == 0) = true := beq_iff_eq.mpr c27; have c27b1 : (a3 != 0) = false := bne_eq_false_iff_eq.mpr c27; clear c27; (first | rw [c27b0] | (simp only [i64_w, i32_w]; rw [c27b0]) | skip); have H' := am H; clear H; go_wp2; go_meet
       case rel => exact ⟨_, (x15_23), pr, H', ⟨by have := HJ7.out; have := HJ21.out; have := HJ23.out; first | omega | exact Nat.le_refl _⟩, ⟨by (with_reducible repeat (first | apply Kd.R_alloc | apply Kd.R_drewN | apply Kd.R_drew)); exact HO_922001.out⟩, ⟨pk⟩, ⟨pk⟩, ⟨pk⟩, ⟨pw⟩⟩
      rw [if_neg c27] at H; have c27b0 : (a3 == 0) = false := beq_eq_false_iff_ne.mpr c27; have c27b1 : (a3 != 0) = true := bne_iff_ne.mpr c27; (first | rw [c27b0] | (simp only [i64_w, i32_w]; rw [c27b0]) | skip); have H' := am H; clear H; go_wp2; go_meet
      case rel => exact ⟨_, (x16_21), pr, H', ⟨by have := HJ7.out; have := HJ21.out; have := HJ23.out; first | omega | exact Nat.le_refl _⟩, ⟨by (with_reducible repeat (first | apply Kd.R_alloc | apply Kd.R_drewN | apply Kd.R_drew)); exact HO_922001.out⟩, ⟨pk⟩, ⟨pk⟩, ⟨pk⟩, ⟨pw⟩⟩
     clear HC26; (try clear c1); (try clear c2); (try clear p2); (try clear c5); (try clear p6); (try clear c7); (try clear c11); (try clear c14); (try clear c15); (try clear c21); (try clear c21b0); (try clear c23); (try clear c23b0); (try clear c25); (try clear c25b0); (try clear c25b1); (try clear c27); (try clear c27b0); (try clear c27b1); (try clear hcz12_0); (try clear hcz12_1); (try clear hcz16_0); (try clear hcz16_1); (try clear hcz17_0); (try clear hcz17_1); (try clear hcz20_0); (try clear hcz20_1); (try clear hfz12_0); (try clear hfz12_1); (try clear hfz16_0); (try clear hfz16_1); (try clear hfz17_0); (try clear hfz17_1); (try clear hfz20_0); (try clear hfz20_1); (try clear p2); (try clear p6); obtain ⟨kq, x16_25, rfl, HA, HJ25, HO_922001, BK919, BK920, BK921, HB⟩ := hcut; cases kq with
     | zero => exact absurd HA.out (by simp [R2_BoundOct.j3])
     | succ kj25 =>
      have H := HA.out; clear HA; simp only [R2_BoundOct.j3] at H; have HC28 := am H; clear H; go_upto_region 14 with (fail); go_cut [52] (fun v52 wc => ∃ (kq : Nat) (x52_27 : Bool), v52 = .bool x52_27 ∧ Aside0 (R2_BoundOct.j4 kq a5 (wrap64 (2 * a0_0)) x15_23 x16_25 x52_27 a0_0 y922 = some (r1, r2)) ∧ Aside0 (kq ≤ kj25) ∧ Aside0 (Kd.R k67 67 wc w.heap.size (fun _ => True) (.slice Ao19 y922.length co19) y922) ∧ Aside0 (wc.heap[gb919]? = some (.cells #[.int .i64 a0_0, (.slice A0_1 l0_1.length c0_1)] 70 (0, 0))) ∧ Aside0 (wc.heap[gb920]? = some (.cells #[.int .i64 0, (.slice none 0 0)] 70 (0, 0))) ∧ Aside0 (wc.heap[gb921]? = some (.cells #[.int .i64 a0_0, (.slice Ao19 y922.length co19)] 70 (0, 0))) ∧ Aside0 (Below w.heap.size w wc))
      case first =>
       have H := HC28.out; clear HC28; by_cases c29 : a1 = 0
       ·rw [if_pos c29] at H
        have c29b0 : (a1 == 0) = true := beq_iff_eq.mpr c29; have c29b1 : (a1 != 0) = false := bne_eq_false_iff_eq.mpr c29; clear c29; (first | rw [c29b0] | (simp only [i64_w, i32_w]; rw [c29b0]) | skip); have H' := am H; clear H; go_wp2; go_meet
        case rel => exact ⟨_, (true), pr, H', ⟨by have := HJ7.out; have := HJ21.out; have := HJ23.out; have := HJ25.out; first | omega | exact Nat.le_refl _⟩, ⟨by (with_reducible repeat (first | apply Kd.R_alloc | apply Kd.R_drewN | apply Kd.R_drew)); exact HO_922001.out⟩, ⟨pk⟩, ⟨pk⟩, ⟨pk⟩, ⟨pw⟩⟩
       rw [if_neg c29] at H; have c29b0 : (a1 == 0) = false := beq_eq_false_iff_ne.mpr c29; have c29b1 : (a1 != 0) = true := bne_iff_ne.mpr c29; (first | rw [c29b0] | (simp only [i64_w, i32_w]; rw [c29b0]) | skip); have H' := am H; clear H; go_wp2; go_meet
       case rel => exact ⟨_, ((a3 == 0)), pr, H', ⟨by have := HJ7.out; have := HJ21.out; have := HJ23.out; have := HJ25.out; first | omega | exact Nat.le_refl _⟩, ⟨by (with_reducible repeat (first | apply Kd.R_alloc | apply Kd.R_drewN | apply Kd.R_drew)); exact HO_922001.out⟩, ⟨pk⟩, ⟨pk⟩, ⟨pk⟩, ⟨pw⟩⟩
      clear HC28; (try clear c1); (try clear c2); (try clear p2); (try clear c5); (try clear p6); (try clear c7); (try clear c11); (try clear c14); (try clear c15); (try clear c21); (try clear c21b0); (try clear c23); (try clear c23b0); (try clear c25); (try clear c25b0); (try clear c25b1); (try clear c27); (try clear c27b0); (try clear c27b1); (try clear c29); (try clear c29b0); (try clear c29b1); (try clear hcz12_0); (try clear hcz12_1); (try clear hcz16_0); (try clear hcz16_1); (try clear hcz17_0); (try clear hcz17_1); (try clear hcz20_0); (try clear hcz20_1); (try clear hfz12_0); (try clear hfz12_1); (try clear hfz16_0); (try clear hfz16_1); (try clear hfz17_0); (try clear hfz17_1); (try clear hfz20_0); (try clear hfz20_1); (try clear p2); (try clear p6); obtain ⟨kq, x52_27, rfl, HA, HJ27, HO_922001, BK919, BK920, BK921, HB⟩ := hcut; cases kq with
      | zero => exact absurd HA.out (by simp [R2_BoundOct.j4])
      | succ kj27 =>
       have H := HA.out; clear HA; simp only [R2_BoundOct.j4] at H; have HC30 := am H; clear H; go_upto_if 52 with (fail); go_cut [5] (fun v5 wc => ∃ (kq : Nat) (x5_29 : Int), v5 = .int .i64 x5_29 ∧ Aside0 (R2_BoundOct.j5 kq x5_29 (wrap64 (2 * a0_0)) x15_23 x16_25 a0_0 y922 = some (r1, r2)) ∧ Aside0 (kq ≤ kj27) ∧ Aside0 (Kd.R k67 67 wc w.heap.size (fun _ => True) (.slice Ao19 y922.length co19) y922) ∧ Aside0 (wc.heap[gb919]? = some (.cells #[.int .i64 a0_0, (.slice A0_1 l0_1.length c0_1)] 70 (0, 0))) ∧ Aside0 (wc.heap[gb920]? = some (.cells #[.int .i64 0, (.slice none 0 0)] 70 (0, 0))) ∧ Aside0 (wc.heap[gb921]? = some (.cells #[.int .i64 a0_0, (.slice Ao19 y922.length co19)] 70 (0, 0))) ∧ Aside0 (Below w.heap.size w wc))
       case first =>
        have H := HC30.out; clear HC30; by_cases c31 : x52_27 = true
        ·subst c31
         have H1 : (R2_BoundOct.j5 kj27 (wrap64 (2 * a5)) (wrap64 (2 * a0_0)) x15_23 x16_25 a0_0 y922) = some (r1, r2) := by rw [if_pos rfl] at H; exact H
         clear H; have H := H1; clear H1; have H' := am H; clear H; go_wp2; go_meet
         case rel => exact ⟨_, (wrap64 (2 * a5)), pr, H', ⟨by have := HJ7.out; have := HJ21.out; have := HJ23.out; have := HJ25.out; have := HJ27.out; first | omega | exact Nat.le_refl _⟩, ⟨by (with_reducible repeat (first | apply Kd.R_alloc | apply Kd.R_drewN | apply Kd.R_drew)); exact HO_922001.out⟩, ⟨pk⟩, ⟨pk⟩, ⟨pk⟩, ⟨pw⟩⟩
        replace c31 := Bool.eq_false_iff.mpr c31; subst c31
        have H1 : (R2_BoundOct.j5 kj27 a5 (wrap64 (2 * a0_0)) x15_23 x16_25 a0_0 y922) = some (r1, r2) := by rw [if_neg (show ¬ (false = true) by decide)] at H; exact H
        clear H; have H := H1; clear H1; have H' := am H; clear H; go_wp2; go_meet
        case rel => exact ⟨_, (a5), pr, H', ⟨by have := HJ7.out; have := HJ21.out; have := HJ23.out; have := HJ25.out; have := HJ27.out; first | omega | exact Nat.le_refl _⟩, ⟨by (with_reducible repeat (first | apply Kd.R_alloc | apply Kd.R_drewN | apply Kd.R_drew)); exact HO_922001.out⟩, ⟨pk⟩, ⟨pk⟩, ⟨pk⟩, ⟨pw⟩⟩
       clear HC30; (try clear c1); (try clear c2); (try clear p2); (try clear c3); (try clear c5); (try clear p6); (try clear c7); (try clear c11); (try clear c14); (try clear c15); (try clear c21); (try clear c21b0); (try clear c23); (try clear c23b0); (try clear c25); (try clear c25b0); (try clear c25b1); (try clear c27); (try clear c27b0); (try clear c27b1); (try clear c29); (try clear c29b0); (try clear c29b1); (try clear c31); (try clear hcz12_0); (try clear hcz12_1); (try clear hcz16_0); (try clear hcz16_1); (try clear hcz17_0); (try clear hcz17_1); (try clear hcz20_0); (try clear hcz20_1); (try clear hfz12_0); (try clear hfz12_1); (try clear hfz16_0); (try clear hfz16_1); (try clear hfz17_0); (try clear hfz17_1); (try clear hfz20_0); (try clear hfz20_1); (try clear p2); (try clear p6); obtain ⟨kq, x5_29, rfl, HA, HJ29, HO_922001, BK919, BK920, BK921, HB⟩ := hcut; cases kq with
       | zero => exact absurd HA.out (by simp [R2_BoundOct.j5])
       | succ kj29 =>
        have H := HA.out; clear HA; simp only [R2_BoundOct.j5] at H; replace H := Option.bind_eq_some_iff.mp H; obtain ⟨t925, A320, H⟩ := H; replace H : ((R2_lower.f y922 (wrap64 ((wrap64 (t925 * (wrap64 (2 * a0_0)))) + x15_23)) x5_29).bind fun bt926 => ((R2_other.f x15_23).bind fun t928 => ((R2_lower.f bt926.2 (wrap64 ((wrap64 (t928 * (wrap64 (2 * a0_0)))) + x16_25)) x5_29).bind fun bt929 => (some (a0_0, bt929.2))))) = some (r1, r2) := H; have A32 := am A320; clear A320; replace H := Option.bind_eq_some_iff.mp H; obtain ⟨⟨t926, t927⟩, A330, H⟩ := H; replace H : ((R2_other.f x15_23).bind fun t928 => ((R2_lower.f t927 (wrap64 ((wrap64 (t928 * (wrap64 (2 * a0_0)))) + x16_25)) x5_29).bind fun bt929 => (some (a0_0, bt929.2)))) = some (r1, r2) := H; have A33 := am A330; clear A330; replace H := Option.bind_eq_some_iff.mp H; obtain ⟨t928, A340, H⟩ := H; replace H : ((R2_lower.f t927 (wrap64 ((wrap64 (t928 * (wrap64 (2 * a0_0)))) + x16_25)) x5_29).bind fun bt929 => (some (a0_0, bt929.2))) = some (r1, r2) := H; have A34 := am A340; clear A340; replace H := Option.bind_eq_some_iff.mp H; obtain ⟨⟨t929, t930⟩, A350, H⟩ := H; replace H : (some (a0_0, t930)) = some (r1, r2) := H; have A35 := am A350; clear A350; simp only [Option.some.injEq, Prod.mk.injEq] at H; obtain ⟨rfl, rfl⟩ := H
        try go_wp2
        have n0_ := am (Kd.R_drew HO_922001.out); have n1_ := am (blk_drew BK919.out); have n2_ := am (blk_drew BK920.out); have n3_ := am (blk_drew BK921.out); have n4_ := am (below_drew1 HB.out); clear HO_922001 BK919 BK920 BK921 HB; revert n0_ n1_ n2_ n3_ n4_; intro HO_922001 BK919 BK920 BK921 HB; refine start_ (n := 10) (S := fun w' => w'.cell? ⟨gb921, 0, none⟩ = some (.int .i64 a0_0) ∧ w'.cell? ⟨gb921, 1, none⟩ = some (.slice Ao19 y922.length co19)) (ds := []) (bm 0 10) kk rfl rfl ⟨bc BK921 0, bc BK921 1⟩ (fun hHeld => ?_); refine with_tabW R2_BoundOct.tab16 R2_BoundOct.bits16 (fun HT_ HW_ => ?_); generalize wc.drew = w36 at HO_922001 BK919 BK920 BK921 HB hHeld ⊢; refine pure_ (i := 0) (N := some 55) (v := ?_) (a' := ?_) (bm 1 10) rfl rfl (any_of HT_.out kk) (fun _ _ _ h => h) (Or.inl ⟨by rfl, ?_⟩) ?_ ?_; rotate_left; ·intro w'; go_simp; with_reducible rfl
        rotate_left; ·simp only [sp]; rfl
        refine pure_ (i := 2) (N := some 57) (v := ?_) (a' := ?_) #[true, false, true, false, false, false, false, false, false, false] rfl rfl (any_of HT_.out kk) (fun _ _ _ h => h) (Or.inl ⟨by rfl, ?_⟩) ?_ ?_; rotate_left; ·intro w'; go_simp; with_reducible rfl
        rotate_left; ·simp only [sp]; rfl
        refine pure_ (i := 4) (N := some 59) (v := ?_) (a' := ?_) #[true, false, true, false, true, false, false, false, false, false] rfl rfl (any_of HT_.out kk) (fun _ _ _ h => h) (Or.inl ⟨by rfl, ?_⟩) ?_ ?_; rotate_left; ·intro w'; go_simp; with_reducible rfl
        rotate_left; ·simp only [sp]; rfl
        refine pure_ (i := 6) (N := some 61) (v := ?_) (a' := ?_) #[true, false, true, false, true, false, true, false, false, false] rfl rfl (any_of HT_.out kk) (fun _ _ _ h => h) (Or.inl ⟨by rfl, ?_⟩) ?_ ?_; rotate_left; ·intro w'; go_simp; with_reducible rfl
        rotate_left; ·simp only [sp]; rfl
        refine pure_ (i := 8) (N := some 63) (v := ?_) (a' := ?_) #[true, false, true, false, true, false, true, false, true, false] rfl rfl (any_of HT_.out kk) (fun _ _ _ h => h) (Or.inl ⟨by rfl, ?_⟩) ?_ ?_; rotate_left; ·intro w'; go_simp; with_reducible rfl
        rotate_left; ·simp only [sp]; rfl
        refine take_ (i := 1) (N := some 56) (v := ?_) (a' := ?_) #[true, true, true, false, true, false, true, false, true, false] rfl rfl (take_ofW HT_.out HW_.out kk) (fun _ _ _ h => h) (Or.inl ⟨by rfl, ?_⟩) hHeld ?_ ?_; rotate_left; ·rintro w' ⟨s0, s1⟩; go_simp; with_reducible rfl
        rotate_left; ·simp only [sp]; rfl
        refine one_ (i := 3) (N := some 58) #[true, true, true, true, true, false, true, false, true, false] rfl rfl (one_of HT_.out kk) (by decide) (fun K hK => ?_); refine goes_ Tryd.func104 kk rfl #[.int .i64 x16_25] (by rfl) rfl rfl (by (try simp only [List.map_toArray, List.map_cons, List.map_nil]); first | done | rfl | (simp only [List.length_drop, List.length_take]; rfl)) ?_
        with_reducible refine (R2_other.calls x16_25 t925 _ A32.out).mono ?_
        rintro e w' ⟨rfl, ⟨nd, rfl⟩⟩; refine ⟨_, rfl, ?_⟩; refine hK.out _ _ ⟨bc BK921 0, bc BK921 1⟩ (fun hHeld => ?_); clear hK K; refine norm_ (a' := ?_) ?_ ?_; rotate_left
        ·show Act.put _ (some 58) _ = _
         simp only [sp]; rfl
        refine pure_ (i := 5) (N := some 60) (v := ?_) (a' := ?_) #[true, true, true, true, true, true, true, false, true, false] rfl rfl (any_of HT_.out kk) (fun _ _ _ h => h) (Or.inl ⟨by rfl, ?_⟩) ?_ ?_; rotate_left; ·intro w'; go_simp; with_reducible rfl
        rotate_left; ·simp only [sp]; rfl
        refine pure_ (i := 7) (N := some 62) (v := ?_) (a' := ?_) (bm 9 10) rfl rfl (any_of HT_.out kk) (fun _ _ _ h => h) (Or.inl ⟨by rfl, ?_⟩) ?_ ?_; rotate_left; ·intro w'; go_simp; with_reducible rfl
        rotate_left; ·simp only [sp]; rfl
        refine one_ (i := 9) (N := some 64) (bm 10 10) rfl rfl (one_of HT_.out kk) (by decide) (fun K hK => ?_); refine goes_ Tryd.func90 kk rfl #[.slice Ao19 y922.length co19, .int .i64 (wrap64 ((wrap64 (t925 * (wrap64 (2 * a0_0)))) + x15_23)), .int .i64 x5_29] (by rfl) rfl rfl (by (try simp only [List.map_toArray, List.map_cons, List.map_nil]); first | done | rfl | (simp only [List.length_drop, List.length_take]; rfl)) ?_
        with_reducible refine (R2_lower.calls (fun k_ => some k_ = (.slice Ao19 y922.length co19 : Value).ownBlock) (.slice Ao19 y922.length co19) y922 (wrap64 ((wrap64 (t925 * (wrap64 (2 * a0_0)))) + x15_23)) x5_29 t926 t927 w _ ?side1 ?side2 A33.out).mono ?_
        (case side1 => repeat (first | (with_reducible first | exact HB.out | apply below_alloc | apply pw_below_drewN | apply below_drew1 | refine below_set ?_ GE919.out | refine below_set ?_ GE920.out | refine below_set ?_ GE921.out) | exact HB.out))
        (case side2 => exact Kd.R_tight rfl HO_922001.out); rintro e w37 ⟨rfl, hy0, hb, hkp⟩; refine ⟨_, rfl, ?_⟩; have n0_ := am (Kd.R_reok rfl hy0 (fun k_ e_ => HO_922001.out.1 k_ e_)); have n1_ := am (blk_kept pk hkp (fun hs_ => (fun e_ => (Kd.R_ne HO_922001.out BK919.out (by decide)) e_) hs_)); have n2_ := am (blk_kept pk hkp (fun hs_ => (fun e_ => (Kd.R_ne HO_922001.out BK920.out (by decide)) e_) hs_)); have n3_ := am (blk_kept pk hkp (fun hs_ => (fun e_ => (Kd.R_ne HO_922001.out BK921.out (by decide)) e_) hs_)); have n4_ := am (hb); clear HO_922001 BK919 BK920 BK921 HB; revert n0_ n1_ n2_ n3_ n4_; intro HO_922001 BK919 BK920 BK921 HB; (try clear hb); (try clear hkp); (try clear hy0); refine hK.out _ _ ⟨bc BK921 0, bc BK921 1⟩ (fun hHeld => ?_); clear hK K; refine norm_ (a' := ?_) ?_ ?_; rotate_left
        ·show Act.put _ (some 64) _ = _
         simp only [sp]; rfl
        refine done_ (done_of HT_.out kk) ?_; (try simp only [errW_none, errW_some])
        try go_wp2
        have n0_ := am (Kd.R_drew HO_922001.out); have n1_ := am (blk_drew BK919.out); have n2_ := am (blk_drew BK920.out); have n3_ := am (blk_drew BK921.out); have n4_ := am (below_drew1 HB.out); clear HO_922001 BK919 BK920 BK921 HB; revert n0_ n1_ n2_ n3_ n4_; intro HO_922001 BK919 BK920 BK921 HB; refine start_ (n := 10) (S := fun w' => w'.cell? ⟨gb921, 0, none⟩ = some (.int .i64 a0_0) ∧ w'.cell? ⟨gb921, 1, none⟩ = some (.slice Ao19 y922.length co19)) (ds := []) (bm 0 10) kk rfl rfl ⟨bc BK921 0, bc BK921 1⟩ (fun hHeld => ?_); refine with_tabW R2_BoundOct.tab17 R2_BoundOct.bits17 (fun HT_ HW_ => ?_); generalize w37.drew = w38 at HO_922001 BK919 BK920 BK921 HB hHeld ⊢; refine pure_ (i := 0) (N := some 65) (v := ?_) (a' := ?_) (bm 1 10) rfl rfl (any_of HT_.out kk) (fun _ _ _ h => h) (Or.inl ⟨by rfl, ?_⟩) ?_ ?_; rotate_left; ·intro w'; go_simp; with_reducible rfl
        rotate_left; ·simp only [sp]; rfl
        refine pure_ (i := 2) (N := some 67) (v := ?_) (a' := ?_) #[true, false, true, false, false, false, false, false, false, false] rfl rfl (any_of HT_.out kk) (fun _ _ _ h => h) (Or.inl ⟨by rfl, ?_⟩) ?_ ?_; rotate_left; ·intro w'; go_simp; with_reducible rfl
        rotate_left; ·simp only [sp]; rfl
        refine pure_ (i := 4) (N := some 69) (v := ?_) (a' := ?_) #[true, false, true, false, true, false, false, false, false, false] rfl rfl (any_of HT_.out kk) (fun _ _ _ h => h) (Or.inl ⟨by rfl, ?_⟩) ?_ ?_; rotate_left; ·intro w'; go_simp; with_reducible rfl
        rotate_left; ·simp only [sp]; rfl
        refine pure_ (i := 6) (N := some 71) (v := ?_) (a' := ?_) #[true, false, true, false, true, false, true, false, false, false] rfl rfl (any_of HT_.out kk) (fun _ _ _ h => h) (Or.inl ⟨by rfl, ?_⟩) ?_ ?_; rotate_left; ·intro w'; go_simp; with_reducible rfl
        rotate_left; ·simp only [sp]; rfl
        refine pure_ (i := 8) (N := some 73) (v := ?_) (a' := ?_) #[true, false, true, false, true, false, true, false, true, false] rfl rfl (any_of HT_.out kk) (fun _ _ _ h => h) (Or.inl ⟨by rfl, ?_⟩) ?_ ?_; rotate_left; ·intro w'; go_simp; with_reducible rfl
        rotate_left; ·simp only [sp]; rfl
        refine take_ (i := 1) (N := some 66) (v := ?_) (a' := ?_) #[true, true, true, false, true, false, true, false, true, false] rfl rfl (take_ofW HT_.out HW_.out kk) (fun _ _ _ h => h) (Or.inl ⟨by rfl, ?_⟩) hHeld ?_ ?_; rotate_left; ·rintro w' ⟨s0, s1⟩; go_simp; with_reducible rfl
        rotate_left; ·simp only [sp]; rfl
        refine one_ (i := 3) (N := some 68) #[true, true, true, true, true, false, true, false, true, false] rfl rfl (one_of HT_.out kk) (by decide) (fun K hK => ?_); refine goes_ Tryd.func104 kk rfl #[.int .i64 x15_23] (by rfl) rfl rfl (by (try simp only [List.map_toArray, List.map_cons, List.map_nil]); first | done | rfl | (simp only [List.length_drop, List.length_take]; rfl)) ?_
        with_reducible refine (R2_other.calls x15_23 t928 _ A34.out).mono ?_
        rintro e w' ⟨rfl, ⟨nd, rfl⟩⟩; refine ⟨_, rfl, ?_⟩; refine hK.out _ _ ⟨bc BK921 0, bc BK921 1⟩ (fun hHeld => ?_); clear hK K; refine norm_ (a' := ?_) ?_ ?_; rotate_left
        ·show Act.put _ (some 68) _ = _
         simp only [sp]; rfl
        refine pure_ (i := 5) (N := some 70) (v := ?_) (a' := ?_) #[true, true, true, true, true, true, true, false, true, false] rfl rfl (any_of HT_.out kk) (fun _ _ _ h => h) (Or.inl ⟨by rfl, ?_⟩) ?_ ?_; rotate_left; ·intro w'; go_simp; with_reducible rfl
        rotate_left; ·simp only [sp]; rfl
        refine pure_ (i := 7) (N := some 72) (v := ?_) (a' := ?_) (bm 9 10) rfl rfl (any_of HT_.out kk) (fun _ _ _ h => h) (Or.inl ⟨by rfl, ?_⟩) ?_ ?_; rotate_left; ·intro w'; go_simp; with_reducible rfl
        rotate_left; ·simp only [sp]; rfl
        refine one_ (i := 9) (N := some 74) (bm 10 10) rfl rfl (one_of HT_.out kk) (by decide) (fun K hK => ?_); refine goes_ Tryd.func90 kk rfl #[.slice Ao19 y922.length co19, .int .i64 (wrap64 ((wrap64 (t928 * (wrap64 (2 * a0_0)))) + x16_25)), .int .i64 x5_29] (by rfl) rfl rfl (by (try simp only [List.map_toArray, List.map_cons, List.map_nil]); first | done | rfl | (simp only [List.length_drop, List.length_take]; rfl)) ?_
        with_reducible refine (R2_lower.calls (fun k_ => some k_ = (.slice Ao19 y922.length co19 : Value).ownBlock) (.slice Ao19 y922.length co19) t927 (wrap64 ((wrap64 (t928 * (wrap64 (2 * a0_0)))) + x16_25)) x5_29 t929 t930 w _ ?side1 ?side2 A35.out).mono ?_
        (case side1 => repeat (first | (with_reducible first | exact HB.out | apply below_alloc | apply pw_below_drewN | apply below_drew1 | refine below_set ?_ GE919.out | refine below_set ?_ GE920.out | refine below_set ?_ GE921.out) | exact HB.out))
        (case side2 => exact Kd.R_tight rfl HO_922001.out); rintro e w39 ⟨rfl, hy0, hb, hkp⟩; refine ⟨_, rfl, ?_⟩; have n0_ := am (Kd.R_reok rfl hy0 (fun k_ e_ => HO_922001.out.1 k_ e_)); have n1_ := am (blk_kept pk hkp (fun hs_ => (fun e_ => (Kd.R_ne HO_922001.out BK919.out (by decide)) e_) hs_)); have n2_ := am (blk_kept pk hkp (fun hs_ => (fun e_ => (Kd.R_ne HO_922001.out BK920.out (by decide)) e_) hs_)); have n3_ := am (blk_kept pk hkp (fun hs_ => (fun e_ => (Kd.R_ne HO_922001.out BK921.out (by decide)) e_) hs_)); have n4_ := am (hb); clear HO_922001 BK919 BK920 BK921 HB; revert n0_ n1_ n2_ n3_ n4_; intro HO_922001 BK919 BK920 BK921 HB; (try clear hb); (try clear hkp); (try clear hy0); refine hK.out _ _ ⟨bc BK921 0, bc BK921 1⟩ (fun hHeld => ?_); clear hK K; refine norm_ (a' := ?_) ?_ ?_; rotate_left
        ·show Act.put _ (some 74) _ = _
         simp only [sp]; rfl
        refine done_ (done_of HT_.out kk) ?_; have hnb40 := NB921_919.out; have hnc40 := NB919_921.out; have hnb41 := NB921_920.out; have hnc41 := NB920_921.out; have hcz42_0 : w39.cell? ⟨gb921, 0, none⟩ = some (.int .i64 a0_0) := bc BK921 0; have hcz42_1 : w39.cell? ⟨gb921, 1, none⟩ = some (.slice Ao19 y922.length co19) := bc BK921 1; have hfz42_0 := blk_frozen BK921.out 0; have hfz42_1 := blk_frozen BK921.out 1; have hnb43 := NB920_919.out; have hnc43 := NB919_920.out; have hcz44_0 : w39.cell? ⟨gb920, 0, none⟩ = some (.int .i64 0) := bc BK920 0; have hcz44_1 : w39.cell? ⟨gb920, 1, none⟩ = some (.slice none 0 0) := bc BK920 1; have hfz44_0 := blk_frozen BK920.out 0; have hfz44_1 := blk_frozen BK920.out 1
        try go_wp2
        refine bodyPost_ret (results_cell_row rfl _ _ gb920 70 #[.int .i64 a0_0, .slice Ao19 y922.length co19] (0, 0) _ rfl (by (with_reducible repeat (first | refine blk_drewN ?_ _ | refine blk_drew ?_ | refine blk_alloc ?_ _)); refine blk_put (cs := #[.int .i64 a0_0, .slice none 0 0]) ?_ 1 _ rfl; (with_reducible repeat (first | refine blk_drewN ?_ _ | refine blk_drew ?_ | refine blk_alloc ?_ _)); refine blk_put (cs := #[.int .i64 0, .slice none 0 0]) ?_ 0 _ rfl; (with_reducible repeat (first | refine blk_drewN ?_ _ | refine blk_drew ?_ | refine blk_alloc ?_ _)); exact BK920.out) Tryd.underlying70 rfl kk) rfl ?_; exact ⟨_, pe, by (with_reducible repeat (first | apply Kd.R_alloc | apply Kd.R_drewN | apply Kd.R_drew)); exact Kd.R_mono (Kd.R_far (p := ⟨gb920, 1, none⟩) (Kd.R_far (p := ⟨gb920, 0, none⟩) (Kd.R_types HO_922001.out BK920.out (by decide)) (fun _ hk => hk.2) (.int .i64 a0_0)) (fun _ hk => hk.2) (.slice Ao19 y922.length co19)) (fun _ hk => trivial), pw⟩
 rw [if_neg c7] at H
 exact absurd H (by simp)

end Go.Proofs.YtcalcnfppnbooaaDoor.Z
